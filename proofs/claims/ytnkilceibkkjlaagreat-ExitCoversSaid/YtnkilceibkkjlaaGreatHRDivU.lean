/- What is proved here: a slice of ints that came in, opened. a slice of bytes that came in, opened. a withdrawal and an amount, opened. No condition. the exit laws' act, opened. No condition. the exit laws' acts, a slice of them, opened. No condition. the exit laws' steps that came in, opened. No condition. the reference's quotient and rest of two numbers of four words. Its condition: words below 2^64, the divisor not n -/
import Derived.Test.YtnkilceibkkjlaaGreatHRow
import Derived.Test.YtnkilceibkkjlaaGreatHNum
import Derived.ChangeSlices
import Derived.Test.YtnkilceibkkjlaaGreatHRNum
import Derived.Test.YtnkilceibkkjlaaGreatHBase
import Derived.Test.YtnkilceibkkjlaaGreatHExA
import Derived.OpenShut
import Derived.Test.YtnkilceibkkjlaaGreatHExEqB
import Derived.Test.YtnkilceibkkjlaaGreatHRDown
import Derived.Test.YtnkilceibkkjlaaGreatHHoldD
set_option maxRecDepth 100000
set_option maxHeartbeats 16000000
namespace Go.Proofs.YtnkilceibkkjlaaGreat
open Go.RowKit Go.ChangeShapes Go.WideShapes Go.ChangeAt
section
variable {H:Type} {enc:TypeId × Value→H} {w:World} {base:Nat} {spare:Nat→Bool} {held:Bool}
end
end Go.Proofs.YtnkilceibkkjlaaGreat
namespace Go.Proofs.YtnkilceibkkjlaaGreat
open Go.RowKit Go.ChangeShapes Go.WideShapes Go.ChangeAt
section
variable {H:Type} {enc:TypeId × Value→H} {w:World} {base:Nat} {spare:Nat→Bool} {held:Bool}
end
end Go.Proofs.YtnkilceibkkjlaaGreat
namespace Go.Proofs.YtnkilceibkkjlaaGreat
open Go.RowKit Go.ChangeShapes Go.WideShapes Go.ChangeAt
section
variable {H:Type} {enc:TypeId × Value→H} {w:World} {base:Nat} {spare:Nat→Bool} {held:Bool}
theorem wf_u64p {n:Int} (h:(Lit.int .u64 n).wf=true):∃ m:Nat,n=m∧m < 18446744073709551616:=by
 have e1:IntKind.u64.min=0:=rfl
 have e2:IntKind.u64.max=18446744073709551615:=rfl
 simp only [Lit.wf,Bool.and_eq_true,decide_eq_true_eq,e1,e2] at h
 exact ⟨n.toNat,by omega,by omega⟩
theorem open_u4c {fuel:Nat} {cs:List Value} {x:DataW H × List MemPlace} (h:DataW.trod enc Tryz.prog w base spare held fuel 24 cs=some x):∃ y:W4,cs=(uL y).toList∧y.Ok:=by
 have hc1:Tryz.prog.cellsOf 22=1:=by kernel_rfl
 have hc4:Tryz.prog.cellsOf 24=4:=by kernel_rfl
 obtain ⟨xs,m,_,_,hlen,hxl,hf⟩:=DataW.trod_array Tryz.underlying24 h
 rw [hc4] at hlen
 match cs,hlen,xs,hxl with
 | [c0,c1,c2,c3],_,[y0,y1,y2,y3],_ =>
  have h0:=hf 0 (by omega)
  have h1:=hf 1 (by omega)
  have h2:=hf 2 (by omega)
  have h3:=hf 3 (by omega)
  simp [hc1] at h0 h1 h2 h3
  obtain ⟨n0,e0,_,s0⟩:=DataW.trod_int Tryz.underlying22 h0
  obtain ⟨n1,e1,_,s1⟩:=DataW.trod_int Tryz.underlying22 h1
  obtain ⟨n2,e2,_,s2⟩:=DataW.trod_int Tryz.underlying22 h2
  obtain ⟨n3,e3,_,s3⟩:=DataW.trod_int Tryz.underlying22 h3
  obtain ⟨m0,rfl,b0⟩:=wf_u64p s0
  obtain ⟨m1,rfl,b1⟩:=wf_u64p s1
  obtain ⟨m2,rfl,b2⟩:=wf_u64p s2
  obtain ⟨m3,rfl,b3⟩:=wf_u64p s3
  simp only [List.cons.injEq,and_true] at e0 e1 e2 e3
  subst e0 e1 e2 e3
  exact ⟨(m0,m1,m2,m3),rfl,b0,b1,b2,b3⟩
end
end Go.Proofs.YtnkilceibkkjlaaGreat
namespace Go.Proofs.YtnkilceibkkjlaaGreat
open Go.RowKit Go.ChangeShapes Go.WideShapes Go.ChangeAt
section
variable {H:Type} {enc:TypeId × Value→H} {w:World} {base:Nat} {spare:Nat→Bool} {held:Bool}
end
end Go.Proofs.YtnkilceibkkjlaaGreat
namespace Go.Proofs.YtnkilceibkkjlaaGreat
open Go.RowKit Go.ChangeShapes Go.WideShapes Go.ChangeAt
structure Acts24In (w:World) (a:Option Addr) (l:List XAct):Prop where
 at0:∀ k A,l[k]? = some A→∃ ad,a=some ad∧∀ j v,A.L[j]? = some v→w.cell? ((ad.add (k*23)).add j)=some v
 ok:∀ A∈l,A.Ok
theorem list_of24 {α:Type} {P:Nat→α→Prop}:∀ n,(∀ i,i < n→∃ y,P i y)→∃ l:List α,l.length=n∧∀ (i:Nat) y,l[i]? = some y→P i y
 | 0,_=>⟨[],rfl,fun i y h=>by simp at h⟩
 | n+1,h=>by
  obtain ⟨l,hl,hp⟩:=list_of24 n fun i hi=>h i (by omega)
  obtain ⟨z,hz⟩:=h n (by omega)
  refine ⟨l ++ [z],by simp [hl],fun i y hy => ?_⟩
  rw [List.getElem?_append] at hy
  split at hy
  ·exact hp i y hy
  ·rename_i hi
   have:i=n:=by
    have:=(List.getElem?_eq_some_iff.1 hy).1
    simp at this; omega
   subst this
   rw [hl,Nat.sub_self] at hy
   cases hy
   exact hz
section
variable {H:Type} {enc:TypeId × Value→H} {w:World} {base:Nat} {spare:Nat→Bool} {held:Bool}
end
end Go.Proofs.YtnkilceibkkjlaaGreat
namespace Go.Proofs.YtnkilceibkkjlaaGreat
open Go.RowKit Go.ChangeShapes Go.WideShapes Go.ChangeAt
structure CStep where
 kd:Int
 x:Nat
 am:W4
def CStep.L (A:CStep):Array Value:=#[.int .i64 A.kd,.int .u8 A.x,.int .u64 A.am.1,.int .u64 A.am.2.1,.int .u64 A.am.2.2.1,.int .u64 A.am.2.2.2]
structure CStep.Ok (A:CStep):Prop where
 x:A.x < 256
 am:A.am.Ok
theorem wf_u8o {n:Int} (h:(Lit.int .u8 n).wf=true):∃ m:Nat,n=m∧m < 256:=by
 have e1:IntKind.u8.min=0:=rfl
 have e2:IntKind.u8.max=255:=rfl
 simp only [Lit.wf,Bool.and_eq_true,decide_eq_true_eq,e1,e2] at h
 exact ⟨n.toNat,by omega,by omega⟩
structure Steps24In (w:World) (a:Option Addr) (l:List CStep):Prop where
 at0:∀ k A,l[k]? = some A→∃ ad,a=some ad∧∀ j v,A.L[j]? = some v→w.cell? ((ad.add (k*6)).add j)=some v
 ok:∀ A∈l,A.Ok
def At6c (a:Option Addr) (k:Nat) (A:CStep) (wr:World):Prop:=∃ ad,a=some ad∧wr.cell? (ad.add (k*6))=some (.int .i64 A.kd) ∧
 (∀ j v,A.L[j]? = some v→j≠0→wr.cell? ⟨(ad.add (k*6)).block,(ad.add (k*6)).off+j,none⟩=some v)
theorem Steps24In.at6c {w wr:World} {a:Option Addr} {l:List CStep} (h:Steps24In w a l) {k:Nat} {A:CStep} (hb:Below w.heap.size w wr) (hk:l[k]? = some A):At6c a k A wr:=by
 obtain ⟨ad,e,h0⟩:=h.at0 k A hk
 have go:∀ p v,w.cell? p=some v→wr.cell? p=some v:=fun p v hp=>by rw [hb.cell (World.block_lt_of_cell? w _ hp)]; exact hp
 refine ⟨ad,e,?_,fun j v hj hj0 => ?_⟩
 ·have:=h0 0 _ rfl
  rw [Addr.add_zero'] at this
  exact go _ _ this
 ·have h1:=h0 j v hj
  have h2:(ad.add (k*6)).add j=⟨(ad.add (k*6)).block,(ad.add (k*6)).off+j,none⟩:=by simp [Addr.add,hj0]
  rw [h2] at h1
  exact go _ _ h1
section
variable {H:Type} {enc:TypeId × Value→H} {w:World} {base:Nat} {spare:Nat→Bool} {held:Bool}
theorem open_s24c {fuel:Nat} {cs:List Value} {x:DataW H × List MemPlace} (h:DataW.trod enc Tryz.prog w base spare held fuel 78 cs=some x):∃ A:CStep,cs=A.L.toList∧A.Ok:=by
 have hc1:Tryz.prog.cellsOf 3=1:=by kernel_rfl
 have hc8:Tryz.prog.cellsOf 5=1:=by kernel_rfl
 have hc4:Tryz.prog.cellsOf 24=4:=by kernel_rfl
 have hc6:Tryz.prog.cellsOf 78=6:=by kernel_rfl
 obtain ⟨xs,m,_,_,hlen,hxl,hf⟩:=DataW.trod_struct Tryz.underlying78 h
 rw [hc6] at hlen
 match cs,hlen,xs,hxl with
 | [c0,c1,c2,c3,c4,c5],_,[y0,y1,y2],_ =>
  have h0:=hf 0 _ rfl
  have h1:=hf 1 _ rfl
  have h2:=hf 2 _ rfl
  simp [hc1,hc4,hc8] at h0 h1 h2
  obtain ⟨n0,e0,_,_⟩:=DataW.trod_int Tryz.underlying3 h0
  obtain ⟨n2,e2,_,s2⟩:=DataW.trod_int Tryz.underlying5 h1
  obtain ⟨am,e4,k4⟩:=open_u4c h2
  have e4:_ = [Value.int .u64 am.1,.int .u64 am.2.1,.int .u64 am.2.2.1,.int .u64 am.2.2.2]:=e4
  obtain ⟨x,rfl,hx⟩:=wf_u8o s2
  simp only [List.cons.injEq,and_true] at e0 e2 e4
  obtain ⟨rfl,rfl,rfl,rfl⟩:=e4
  subst e0 e2
  exact ⟨⟨n0,x,am⟩,rfl,⟨hx,k4⟩⟩
theorem open_steps24 {r:Reach} {b0:Nat} {v:Value} {d:DataW H} {p:List MemPlace} (hv:Value.okWide Tryz.prog w r b0 74 v) (h:DataW.Trod enc Tryz.prog w base spare held 74 v d p) :
  ∃ (l:List CStep) (a:Option Addr) (c:Nat),v = .slice a l.length c∧Steps24In w a l:=by
 obtain ⟨a,len,cap,rfl⟩:=okWide_slice Tryz.underlying74 hv
 obtain ⟨fuel,hf⟩:=h
 have hc6:Tryz.prog.cellsOf 78=6:=by kernel_rfl
 rcases DataW.trod_slice Tryz.underlying74 hf with ⟨h1,_⟩ | ⟨a',len',cap',elems,rest,n,_,h1,h2,_,_,_,hlen,hel,_⟩
 ·have h2:[Value.slice a len cap] = [.slice none 0 0]:=h1
  cases h2
  exact ⟨[],none,0,rfl,fun k x hx=>(by simp at hx),fun x hx=>(by cases hx)⟩
 ·have h3:[Value.slice a len cap] = [.slice (some a') len' cap']:=h1
  cases h3
  rw [hc6] at hel
  have each:∀ i,i < len→∃ A:CStep,w.cells? base (a'.add (i*6)) 6=some A.L.toList∧A.Ok:=fun i hi=>by
   have:=hel i hi
   rw [List.getElem?_eq_getElem (by omega:i < elems.length),Option.bind_eq_some_iff] at this
   obtain ⟨cs,hcs,ht⟩:=this
   obtain ⟨A,rfl,hA⟩:=open_s24c ht
   exact ⟨A,hcs,hA⟩
  obtain ⟨l,hl,hp⟩:=list_of24 len each
  subst hl
  refine ⟨l,some a',cap,rfl,fun k A hk=>⟨a',rfl,fun j v hj => ?_⟩,fun A hA => ?_⟩
  ·obtain ⟨hcs,_⟩:=hp k A hk
   obtain ⟨_,_,hc⟩:=World.cells?_some hcs
   have hj6:j < 6:=(Array.getElem?_eq_some_iff.1 hj).1
   rw [hc j hj6]
   simpa using hj
  ·obtain ⟨i,hi⟩:=List.mem_iff_getElem?.1 hA
   exact (hp i A hi).2
end
end Go.Proofs.YtnkilceibkkjlaaGreat
namespace Go.Proofs.YtnkilceibkkjlaaGreat
open Go.RowKit
abbrev dvR (w:World) (x d:W4):List (Nat × Obj):=[(w.heap.size+1+1+1,zO),(w.heap.size+1+1,zO),(w.heap.size+1,uO d),(w.heap.size,uO x)]
theorem dv_cel {w W:World} {x d:W4} (h:BV w (dvR w x d) W):Cel4 w.heap.size x W∧Cel4 (w.heap.size+1) d W:=⟨cel4_row (h.u4 (by simp)),cel4_row (h.u4 (by simp))⟩
theorem rdiv_u (x d:W4) (hx:x.Ok) (hd:d.Ok) (h0:uN d≠0) (w:World):Calls Tryz.prog 39 #[uV x,uV d] w fun e w'=>e = .returned (.tuple #[uV (uOf (uN x / uN d)),uV (uOf (uN x % uN d)),.bool true])∧Below w.heap.size w w':=by
 have hB:=((((BV.start w).alloc (uO x)).alloc (uO d)).alloc zO).alloc zO
 simp only [World.size_alloc] at hB
 have H0:Hid (BV w (dvR w x d) ((((w.alloc (uO x)).alloc (uO d)).alloc zO).alloc zO).drew):=hB.drew
 have hE:=eqU_ne0 (fun e=>h0 (u0_iff.1 e):d≠(0,0,0,0))
 obtain ⟨⟨p0,p1,p2,p3⟩,q0,q1,q2,q3⟩:=dv_cel hB
 have HX:Hid (∀ W,BV w (dvR w x d) W→Calls Tryz.prog 57 #[uV x] W fun e w'=>(∃ v,e = .returned v∧DgAt w' v (digs (uN x)))∧BV w (dvR w x d) w'∧Cel4 w.heap.size x w'∧Cel4 (w.heap.size+1) d w'):=fun W h=>(rof_any x hx W).mono fun _ _ ⟨⟨v,he,hD⟩,hb⟩=>⟨⟨v,he,hD.dg⟩,h.below hb,dv_cel (h.below hb)⟩
 have HY:Hid (∀ W v,BV w (dvR w x d) W→DgAt W v (digs (uN x))→Calls Tryz.prog 57 #[uV d] W fun e w'=>(∃ u,e = .returned u∧DgAt w' u (digs (uN d))∧DgAt w' v (digs (uN x)))∧BV w (dvR w x d) w'∧Cel4 w.heap.size x w'∧Cel4 (w.heap.size+1) d w'):=fun W v h hv=>(rof_any d hd W).mono fun _ _ ⟨⟨u,he,hD⟩,hb⟩=>⟨⟨u,he,hD.dg,hv.below hb⟩,h.below hb,dv_cel (h.below hb)⟩
 have hlx:=u_len x hx
 have hly:=u_len d hd
 have HQ:Hid (∀ W u v,BV w (dvR w x d) W→DgAt W u (digs (uN x))→DgAt W v (digs (uN d))→Calls Tryz.prog 109 #[u,v] W fun e w'=>(∃ u v,e = .returned (.tuple #[u,v])∧DgAt w' u (digs (uN x / uN d))∧DgAt w' v (digs (uN x % uN d)))∧BV w (dvR w x d) w'∧Cel4 w.heap.size x w'∧Cel4 (w.heap.size+1) d w'):=fun W u v h hu hv=>by
  have:=quorem_any W u v _ _ (digs_ok _) (digs_ok _) (by omega) (by omega) hu hv (by rw [natOf_digs]; exact h0)
  rw [natOf_digs,natOf_digs] at this
  exact this.mono fun e w' ⟨⟨u,v,he,hD,hD2⟩,hb⟩=>⟨⟨u,v,he,hD,hD2⟩,h.below hb,dv_cel (h.below hb)⟩
 have hq:uN x / uN d < W256:=Nat.lt_of_le_of_lt (Nat.div_le_self _ _) (uN_lt hx)
 have hr:uN x % uN d < W256:=Nat.lt_of_le_of_lt (Nat.mod_le _ _) (uN_lt hx)
 have hql:(digs (uN x / uN d)).length < 1000000:=by have:=digs_mono (Nat.div_le_self (uN x) (uN d)); omega
 have hrl:(digs (uN x % uN d)).length < 1000000:=by have:=digs_mono (Nat.mod_le (uN x) (uN d)); omega
 have HT:Hid (∀ rs W u v,BV w rs W→DgAt W u (digs (uN x / uN d))→DgAt W v (digs (uN x % uN d))→Calls Tryz.prog 110 #[u] W fun e w'=>e = .returned (.tuple #[uV (uOf (uN x / uN d)),.bool true])∧BV w rs w'∧DgAt w' v (digs (uN x % uN d))):=fun rs W u v h hu hv=>by
  have:=tou_any W u _ (digs_ok _) hql hu
  rw [natOf_digs] at this
  unfold toW toB at this
  rw [if_pos hq,decide_eq_true hq] at this
  exact this.mono fun e w' ⟨he,hb⟩=>⟨he,h.below hb,hv.below hb⟩
 have HU:Hid (∀ rs W v,BV w rs W→DgAt W v (digs (uN x % uN d))→Calls Tryz.prog 110 #[v] W fun e w'=>e = .returned (.tuple #[uV (uOf (uN x % uN d)),.bool true])∧BV w rs w'):=fun rs W v h hv=>by
  have:=tou_any W v _ (digs_ok _) hrl hv
  rw [natOf_digs] at this
  unfold toW toB at this
  rw [if_pos hr,decide_eq_true hr] at this
  exact this.mono fun e w' ⟨he,hb⟩=>⟨he,h.below hb⟩
 clear hB hlx hly hql hrl hq hr h0
 generalize uOf (uN x / uN d)=qw at *
 generalize uOf (uN x % uN d)=rw4 at *
 generalize uN x / uN d=qn at *
 generalize uN x % uN d=rn at *
 go_enter Tryz.func39,Tryz.ntmps39
 go_wp2_with fail
 go_region_held3 (fun w'=>w'.cell? ⟨w.heap.size,0,none⟩=some (.int .u64 x.1)∧w'.cell? ⟨w.heap.size,1,none⟩=some (.int .u64 x.2.1)∧w'.cell? ⟨w.heap.size,2,none⟩=some (.int .u64 x.2.2.1)∧w'.cell? ⟨w.heap.size,3,none⟩=some (.int .u64 x.2.2.2)∧w'.cell? ⟨w.heap.size+1,0,none⟩=some (.int .u64 d.1)∧w'.cell? ⟨w.heap.size+1,1,none⟩=some (.int .u64 d.2.1)∧w'.cell? ⟨w.heap.size+1,2,none⟩=some (.int .u64 d.2.2.1)∧w'.cell? ⟨w.heap.size+1,3,none⟩=some (.int .u64 d.2.2.2)) (go_keep)
  (first
   | (go_at_call 57; (with_reducible refine Calls.mono (HX.out _ H0.out) ?_); rintro e w2 ⟨⟨u2,rfl,hd2⟩,hM2,⟨a0,a1,a2,a3⟩,b0,b1,b2,b3⟩)
   | (go_at_call 57; (with_reducible refine Calls.mono (HY.out _ _ hM2 hd2) ?_); rintro e w3 ⟨⟨u3,rfl,hd3,hd4⟩,hM3,⟨c0,c1,c2,c3⟩,d0,d1,d2,d3⟩)
   | (go_at_call 109; (with_reducible refine Calls.mono (HQ.out _ _ _ hM3 hd4 hd3) ?_); rintro e w6 ⟨⟨u6,v6,rfl,hd6,hd7⟩,hM6,⟨e0,e1,e2,e3⟩,f0,f1,f2,f3⟩))
 all_goals
  have HT6:=Lib.hid (HT.out _ _ _ _ hM6 hd6 hd7)
  clear hM2 hM3 hM6 hd2 hd3 hd4 hd6 hd7 a0 a1 a2 a3 b0 b1 b2 b3 c0 c1 c2 c3 d0 d1 d2 d3 e0 e1 e2 e3 f0 f1 f2 f3 p0 p1 p2 p3 q0 q1 q2 q3 HX HY HQ HT
  go_wp2_with fail
  refine Calls.mono HT6.out ?_
  rintro e w7 ⟨rfl,hM7,hd7⟩
  have hM8:=hM7.alloc (uO qw)
  have HG1:Hid (w.heap.size+1+1+1 < w7.heap.size):=lt_of_at (hM7.row (g:=w.heap.size+1+1+1) (o:=zO) (by simp))
  have HU7:=Lib.hid (HU.out _ _ _ hM8 (hd7.below (bl_alloc (Below.refl _ _) _)))
  clear hM7 hM8 hd7 HT6 HU
  go_upto_region 5 with fail
  generalize w7.alloc (uO qw)=w8 at *
  generalize w7.heap.size=g1 at *
  go_wp2_with fail
  refine Calls.mono HU7.out ?_
  rintro e w9 ⟨rfl,hM9⟩
  have hM10:=hM9.alloc (uO rw4)
  clear HU7
  go_upto_region 6 with fail
  have HG2:Hid (w.heap.size+1+1+1 < w9.heap.size):=lt_of_at (hM9.row (g:=w.heap.size+1+1+1) (o:=zO) (by simp))
  clear hM9
  generalize w9.alloc (uO rw4)=w10 at *
  generalize w9.heap.size=g2 at *
  have hg1:=HG1.out
  have hg2:=HG2.out
  have hq2:=hM10.put4 (g:=w.heap.size+1+1) (y:=(0,0,0,0)) qw (by simp) [(w.heap.size+1+1+1,zO)] (by simp)
  have hq3:=hq2.put4 (g:=w.heap.size+1+1+1) (y:=(0,0,0,0)) rw4 (by simp) [(w.heap.size+1+1,uO qw)] (by simp)
  have hq4:=hq3.drew
  obtain ⟨a0,a1,a2,a3,_⟩:=row4 (hM10.u4 (g:=g1) (x:=qw) (by simp))
  obtain ⟨b0,b1,b2,b3,_⟩:=row4 (hM10.u4 (g:=g2) (x:=rw4) (by simp))
  obtain ⟨z0,z1,z2,z3,z4,z5,z6,z7⟩:=row4 (hM10.u4 (g:=w.heap.size+1+1) (x:=(0,0,0,0)) (by simp))
  obtain ⟨y0,y1,y2,y3,y4,y5,y6,y7⟩:=row4 (hM10.u4 (g:=w.heap.size+1+1+1) (x:=(0,0,0,0)) (by simp))
  have hn1:g1≠w.heap.size+1+1:=by omega
  have hn2:g2≠w.heap.size+1+1:=by omega
  have hn3:g1≠w.heap.size+1+1+1:=by omega
  have hn4:g2≠w.heap.size+1+1+1:=by omega
  have HP:Hid _:=And.intro (BV.bl hq4) (And.intro (hq4.u4 (g:=w.heap.size+1+1) (x:=qw) (by simp)) (hq4.u4 (g:=w.heap.size+1+1+1) (x:=rw4) (by simp)))
  clear hq2 hq3 hq4 hM10 hg1 hg2 HG1 HG2
  go_region_with fail
  all_goals
   go_wp2_with fail
   refine bodyPost_ret (results_cct rfl _ _ (w.heap.size+1+1) (w.heap.size+1+1+1) 24 (uL qw) (uL rw4) (0,0) _ rfl ?_ rfl ?_ Tryz.underlying24 rfl (by kernel_rfl) (by kernel_rfl)) rfl ?_
   ·exact HP.out.2.1
   ·exact HP.out.2.2
   ·exact ⟨rfl,HP.out.1⟩
end Go.Proofs.YtnkilceibkkjlaaGreat
