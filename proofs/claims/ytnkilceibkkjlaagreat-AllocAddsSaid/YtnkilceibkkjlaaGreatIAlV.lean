/- What is proved here: AllocAdds' state in the world, and each call of a round. Conditions: at most sixty rounds. any struct of ints, by value, opened. a slice of ints that came in, opened. a slice of bytes that came in, opened. the cells of a struct of ints in memory, opened. No program's function is named. No condition. the alloc laws' acts that came in, opened. No condition. AllocAdds' rows: an act's box, the three m -/
import Derived.Test.YtnkilceibkkjlaaGreatIAlO
import Derived.Test.YtnkilceibkkjlaaGreatIAlS
import Derived.Test.YtnkilceibkkjlaaGreatIAllocLv
import Derived.Test.YtnkilceibkkjlaaGreatIRQuo
import Derived.Test.YtnkilceibkkjlaaGreatIRow
import Derived.Lib.SmallJoins
import Derived.Test.YtnkilceibkkjlaaGreatINum
import Derived.ChangeSlices
import Derived.Test.YtnkilceibkkjlaaGreatICell
import Derived.Test.YtnkilceibkkjlaaGreatIBase
import Derived.Test.YtnkilceibkkjlaaGreatILeast
import Derived.OpenShut
import Derived.Test.YtnkilceibkkjlaaGreatIExEqB
import Derived.Deep.MidRow
import Derived.Deep.WholeRow
set_option maxRecDepth 100000
set_option maxHeartbeats 16000000
namespace Go.Proofs.YtnkilceibkkjlaaGreat
open Go.RowKit
theorem AR.mono {n n' f f':Nat} {s:St} {m:W4} (h:AR n f s m) (hn:n≤n') (hf:f≤f'):AR n' f' s m:=⟨h.k,h.n.mono hn,h.v,h.f.mono hf⟩
theorem ctW_ok (s:St) (x:I4) (f:W4):(ctW s x f).Ok:=by
 unfold ctW
 split
 ·exact puW_ok _ _
 ·exact u0_ok
structure AW (wb:World) (q:Option Addr) (L:List Nat) (k:Nat) (s:St) (m:W4) (rs:List (Nat × Obj)) (W:World):Prop where
 hv:HV ⟨q,true,L⟩ wb s rs W
 ar:AR (2*k) (16*k) s m
section
variable {wb W W':World} {q:Option Addr} {L:List Nat} {k:Nat} {m:W4} {s:St} {rs rs':List (Nat × Obj)}
theorem AW.start (h:HV ⟨q,true,L⟩ wb emptySt rs W):AW wb q L 0 emptySt oneW rs W:=⟨h,AR.start⟩
theorem AW.below (h:AW wb q L k s m rs W) (hb:Below W.heap.size W W'):AW wb q L k s m rs W':=⟨QV.below h.hv hb,h.ar⟩
theorem AW.alloc (h:AW wb q L k s m rs W) (o:Obj):AW wb q L k s m ((W.heap.size,o) :: rs) (W.alloc o):=⟨QV.alloc h.hv o,h.ar⟩
theorem AW.drew (h:AW wb q L k s m rs W):AW wb q L k s m rs W.drew:=⟨QV.drew h.hv,h.ar⟩
theorem AW.less (h:AW wb q L k s m rs W) (hs:∀ x,x∈rs'→x∈rs):AW wb q L k s m rs' W:=⟨QV.less h.hv hs,h.ar⟩
theorem AW.row (h:AW wb q L k s m rs W) {g:Nat} {o:Obj} (hm:(g,o)∈rs):W.heap[g]? = some o:=QV.row h.hv hm
theorem AW.lt (h:AW wb q L k s m rs W) {g:Nat} {o:Obj} (hm:(g,o)∈rs):g < W.heap.size:=lt_of_at (h.row hm)
theorem AW.turn (h:AW wb q L k s m rs W) {g:Nat} {o o':Obj} (hm:(g,o)∈rs) (hW:W'.heap[g]? = some o') (hs:W'.heap.size=W.heap.size) (ho:∀ k,k≠g→W'.heap[k]? = W.heap[k]?) (hx:W'.os=W.os∧W'.tape=W.tape∧W'.output=W.output)
  (qs:List (Nat × Obj)) (hqs:∀ x,x∈qs→x∈rs∧x.1≠g):AW wb q L k s m ((g,o') :: qs) W':=⟨QV.turn h.hv hm hW hs ho hx qs hqs,h.ar⟩
theorem AW.put4 (h:AW wb q L k s m rs W) {g:Nat} {y:W4} (x:W4) (hm:(g,uO y)∈rs) (qs:List (Nat × Obj)) (hqs:∀ x,x∈qs→x∈rs∧x.1≠g) :
  AW wb q L k s m ((g,uO x) :: qs) ((((W.setCell ⟨g,0,none⟩ (.int .u64 x.1)).setCell ⟨g,1,none⟩ (.int .u64 x.2.1)).setCell ⟨g,2,none⟩ (.int .u64 x.2.2.1)).setCell ⟨g,3,none⟩ (.int .u64 x.2.2.2)):=⟨QV.put4 h.hv x hm qs hqs,h.ar⟩
theorem AW.reads (h:AW wb q L k s m rs W) {f:FuncId} {args:Array Value} {v:Value} (hC:Calls Tryz.prog f args W fun e W'=>e = .returned v∧Below W.heap.size W W'):Calls Tryz.prog f args W fun e W'=>e = .returned v∧AW wb q L k s m rs W' :=
 hC.mono fun _ _ ⟨he,hb⟩=>⟨he,h.below hb⟩
theorem AW.readAt (h:AW wb q L k s m rs W) (hk:k≤60):ReadAt W.heap.size W q s:=by
 obtain ⟨L',h1,_⟩:=h.hv.on
 exact QSt.read (h:=⟨q,true,L'⟩) h1 h.ar.f (by omega)
theorem AW.now (h:AW wb q L k s m rs W) (hk:k≤60) {j:Nat} (hj:j < 3):Calls Tryz.prog 18 #[.pointer q,idV (xI j)] W fun e W'=>e = .returned (uV (cur s (xI j)))∧AW wb q L k s m rs W' :=
 h.reads (current_any W q s (xI j) (xI_ok hj) (h.readAt hk))
theorem AW.encd (h:AW wb q L k s m rs W) (hk:k≤60):Calls Tryz.prog 27 #[.pointer q,.int .i64 7,.int .i64 1] W fun e W'=>e = .returned (uV (s.amt KA))∧AW wb q L k s m rs W' :=
 h.reads (encumbered_any W q s 7 1 (by decide) (by decide) (h.readAt hk))
theorem AW.sumd (h:AW wb q L k s m rs W) (hk:k≤60):Calls Tryz.prog 26 #[.pointer q,.int .i64 7,.int .i64 1] W fun e W'=>e = .returned (uV (s.amt KA))∧AW wb q L k s m rs W':=by
 have hz:=h.ar.f.size
 have hl:s.ents.length≤s.size:=by unfold St.size; omega
 have hc:=sum_any W q s 7 1 (by decide) (by decide) (h.readAt hk) (by omega) (fun x hx=>Nat.lt_of_le_of_lt (h.ar.k.key x hx) (by omega))
 rw [sumA_law h.ar.k h.ar.v] at hc
 exact h.reads hc
theorem AW.modify (h:AW wb q L k s m rs W) (hk:k≤60) {j:Nat} (hj:j < 3) {tt:W4} (hto:tt.Ok) (bk dl tl:Int) (sl:Bool) :
  Calls Tryz.prog 19 #[.pointer q,idV (xI j),chV tt m bk dl tl sl] W fun e W'=>∃ (s':St) (n er:Int),e = .returned (.tuple #[.int .i64 n,.int .i64 er])∧AW wb q L (k+1) s' m rs W':=by
 have hC:=QV.call h.hv (s':=mdSt s (xI j) tt m bk dl tl sl) (f:=19) (args:=#[.pointer q,idV (xI j),chV tt m bk dl tl sl]) (v:=.tuple #[.int .i64 (mdN s (xI j) tt m bk dl tl sl),.int .i64 (mdE s (xI j) tt m bk dl tl sl)]) fun L' hq =>
  amodify_q W ⟨q,true,L'⟩ s (16*k) bk dl tl (xI j) tt m sl rfl (xI_ok hj) hto h.ar.v.mo hq h.ar.f (by omega) fun _ _=>md_ok h.ar.k h.ar.n (by omega) h.ar.f (by omega) hj tt m bk dl tl sl
 have hL:=modify_law h.ar (k:=j) (by omega) hj hto bk dl tl sl
 exact hC.mono fun e W' ⟨he,hv⟩=>⟨_,_,_,he,⟨hv,hL⟩⟩
theorem AW.mature (h:AW wb q L k s m rs W) (hk:k≤60) {j:Nat} (hj:j < 3) :
  Calls Tryz.prog 23 #[.pointer q,idV (xI j)] W fun e W'=>∃ (s':St) (b:Bool),e = .returned (.bool b)∧AW wb q L (k+1) s' m rs W':=by
 have hN:=h.ar.n.same (ka_same h.ar.k.srt (lessV (s.amt KA) (pend s (xI j)).2.1)) (by decide) (by decide)
 have hE:(ends (mtA s (xI j)) 33 [(xI j).1,(xI j).2.1]).2≤2*k:=hN.eb
 have hC:=QV.call h.hv (s':=mtSt s (xI j)) (f:=23) (args:=#[.pointer q,idV (xI j)]) (v:=.bool (!decide ((pend s (xI j)).1=0))) fun L' hq =>
  amature_q W ⟨q,true,L'⟩ s (16*k) (xI j) rfl (xI_ok hj) hq h.ar.f (by omega) (Nat.lt_of_le_of_lt hE (by omega))
 have hL:=(mature_law h.ar (k:=j) (by omega) hj).mono (n':=2*(k+1)) (f':=16*(k+1)) (by omega) (by omega)
 exact hC.mono fun e W' ⟨he,hv⟩=>⟨_,_,he,⟨hv,hL⟩⟩
theorem AW.cut (h:AW wb q L k s m rs W) (hk:k≤60) {j:Nat} (hj:j < 3) {z:W4} (hz:z.Ok) :
  Calls Tryz.prog 25 #[.pointer q,idV (xI j),uV z] W fun e W'=>∃ (s':St) (c:W4) (er:Int),e = .returned (.tuple #[uV c,.int .i64 er])∧c.Ok∧uCmp c (cur s (xI j))≤0∧(∀ i,i < 3→i≠j→cur s' (xI i)=cur s (xI i))∧AW wb q L (k+1) s' (if er=0 then subW m c else m) rs W':=by
 have hC:=QV.call h.hv (s':=ctSt s (xI j) z) (f:=25) (args:=#[.pointer q,idV (xI j),uV z]) (v:=.tuple #[uV (ctW s (xI j) z),.int .i64 (ctE s (xI j) z)]) fun L' hq =>
  acut_q W ⟨q,true,L'⟩ s (16*k) (xI j) z rfl (xI_ok hj) hz hq h.ar.f (by omega)
 obtain ⟨hL,h2,h3⟩:=aCut_law h.ar hj z
 have hL2:=hL.mono (n':=2*(k+1)) (f':=16*(k+1)) (by omega) (by omega)
 unfold ctM at hL2
 exact hC.mono fun e W' ⟨he,hv⟩=>⟨_,_,_,he,ctW_ok _ _ _,uCmp_le.2 h2,h3,⟨hv,hL2⟩⟩
end
end Go.Proofs.YtnkilceibkkjlaaGreat
namespace Go.Proofs.YtnkilceibkkjlaaGreat
open Go.RowKit Go.ChangeShapes Go.WideShapes Go.ChangeAt Go.Joins
section
variable {H:Type} {enc:TypeId × Value→H} {P:Program} {w:World} {base:Nat} {spare:Nat→Bool} {held:Bool}
def intFields (P:Program) (fs:Array Field):Bool:=(List.range fs.size).all fun i=>match fs[i]? with
 | some f=>f.offset == i && P.cellsOf f.type == 1 && (match P.underlying f.type with | some (.int .i64)=>true | _=>false)
 | none=>false
theorem intFields_at {fs:Array Field} (h:intFields P fs=true) (i:Nat) (f:Field) (hf:fs[i]? = some f):f.offset=i∧P.cellsOf f.type=1∧P.underlying f.type=some (.int .i64):=by
 have hi:i < fs.size:=(Array.getElem?_eq_some_iff.1 hf).1
 have:=List.all_eq_true.1 h i (by simpa using hi)
 simp only [hf,Bool.and_eq_true,beq_iff_eq] at this
 refine ⟨this.1.1,this.1.2,?_⟩
 have h2:=this.2
 split at h2
 ·assumption
 ·cases h2
end
end Go.Proofs.YtnkilceibkkjlaaGreat
namespace Go.Proofs.YtnkilceibkkjlaaGreat
open Go.RowKit Go.ChangeShapes Go.WideShapes Go.ChangeAt
section
variable {H:Type} {enc:TypeId × Value→H} {w:World} {base:Nat} {spare:Nat→Bool} {held:Bool}
theorem wf_lt {n:Int} (h:(Lit.int .i64 n).wf=true) : -9223372036854775808≤n∧n < 9223372036854775808:=by
 have e1:IntKind.i64.min = -9223372036854775808:=rfl
 have e2:IntKind.i64.max=9223372036854775807:=rfl
 simp only [Lit.wf,Bool.and_eq_true,decide_eq_true_eq,e1,e2] at h
 omega
end
end Go.Proofs.YtnkilceibkkjlaaGreat
namespace Go.Proofs.YtnkilceibkkjlaaGreat
open Go.RowKit Go.ChangeShapes Go.WideShapes Go.ChangeAt
section
variable {H:Type} {enc:TypeId × Value→H} {w:World} {base:Nat} {spare:Nat→Bool} {held:Bool}
end
end Go.Proofs.YtnkilceibkkjlaaGreat
namespace Go.Proofs.YtnkilceibkkjlaaGreat
open Go.RowKit Go.ChangeShapes Go.WideShapes Go.ChangeAt
section
variable {H:Type} {enc:TypeId × Value→H} {P:Program} {w:World} {base:Nat} {spare:Nat→Bool} {held:Bool}
theorem open_int_cells {fuel:Nat} {t:TypeId} {fs:Array Field} {cs:List Value} {x:DataW H × List MemPlace} (hs:P.underlying t=some (.struct fs)) (hone:intFields P fs=true) (hC:P.cellsOf t=fs.size)
  (h:DataW.trod enc P w base spare held fuel t cs=some x):∃ ns:List Int,ns.length=fs.size∧cs=ns.map (fun n=>Value.int .i64 n)∧∀ n∈ns,(Lit.int .i64 n).wf=true:=by
 obtain ⟨xs,n,_,hx,hlen,hxl,hg⟩:=DataW.trod_struct hs h
 rw [hC] at hlen
 have hcell:∀ i (hi:i < cs.length),∃ n:Int,cs[i] = .int .i64 n∧(Lit.int .i64 n).wf=true:=by
  intro i hi
  have hfi:fs[i]? = some fs[i]:=Array.getElem?_eq_getElem (by omega)
  obtain ⟨ho,hk,hu⟩:=intFields_at hone i _ hfi
  have h1:=hg i _ hfi
  rw [ho,hk] at h1
  rw [List.drop_eq_getElem_cons hi] at h1
  have hxi:xs[i]? = some (xs[i]'(by omega)):=List.getElem?_eq_getElem (by omega)
  rw [hxi] at h1
  obtain ⟨n,hn,hx⟩:=DataW.trod_int hu h1
  have hn2:cs[i] :: List.take 0 (List.drop (i+1) cs) = [.int .i64 n]:=hn
  exact ⟨n,(List.cons.inj hn2).1,hx.2⟩
 refine ⟨cs.map intOf,by simpa using hlen,?_,fun n hn => ?_⟩
 ·rw [List.map_map]
  apply List.ext_getElem
  ·simp
  ·intro i h1 h2
   obtain ⟨n,hn,_⟩:=hcell i h1
   simp [hn,intOf]
 ·obtain ⟨v,hv,rfl⟩:=List.mem_map.1 hn
  obtain ⟨i,hi,he⟩:=List.mem_iff_getElem.1 hv
  obtain ⟨m,hm,hw⟩:=hcell i hi
  have:v = .int .i64 m:=by rw [← he,← hm]
  rw [this]; exact hw
end
end Go.Proofs.YtnkilceibkkjlaaGreat
namespace Go.Proofs.YtnkilceibkkjlaaGreat
open Go.RowKit Go.ChangeShapes Go.WideShapes Go.ChangeAt
structure LAct where
 kd:Int
 x:I4
 tt:W4
 mx:W4
 bk:Int
 dl:Int
 tl:Int
 sl:Bool
 fv:W4
def LAct.L (A:LAct):Array Value:=#[.int .i64 A.kd,.int .i64 A.x.1,.int .i64 A.x.2.1,.int .i64 A.x.2.2.1,.int .i64 A.x.2.2.2,.int .u64 A.tt.1,.int .u64 A.tt.2.1,.int .u64 A.tt.2.2.1,.int .u64 A.tt.2.2.2,.int .u64 A.mx.1,.int .u64 A.mx.2.1,.int .u64 A.mx.2.2.1,.int .u64 A.mx.2.2.2,.int .i64 A.bk,.int .i64 A.dl,.int .i64 A.tl,.bool A.sl,.int .u64 A.fv.1,.int .u64 A.fv.2.1,.int .u64 A.fv.2.2.1,.int .u64 A.fv.2.2.2]
structure LAct.Ok (A:LAct):Prop where
 x:A.x.Ok
 tt:A.tt.Ok
 mx:A.mx.Ok
 fv:A.fv.Ok
structure Acts29In (w:World) (a:Option Addr) (l:List LAct):Prop where
 at0:∀ k A,l[k]? = some A→∃ ad,a=some ad∧∀ j v,A.L[j]? = some v→w.cell? ((ad.add (k*21)).add j)=some v
 ok:∀ A∈l,A.Ok
theorem list_of29 {α:Type} {P:Nat→α→Prop}:∀ n,(∀ i,i < n→∃ y,P i y)→∃ l:List α,l.length=n∧∀ (i:Nat) y,l[i]? = some y→P i y
 | 0,_=>⟨[],rfl,fun i y h=>by simp at h⟩
 | n+1,h=>by
  obtain ⟨l,hl,hp⟩:=list_of29 n fun i hi=>h i (by omega)
  obtain ⟨z,hz⟩:=h n (by omega)
  refine ⟨l ++ [z],by simp [hl],fun i y hy => ?_⟩
  rw [List.getElem?_append] at hy
  split at hy
  ·exact hp i y hy
  ·rename_i hi
   have:i=n:=by
    have:=(List.getElem?_eq_some_iff.1 hy).1
    simp at this; omega
   subst this
   rw [hl,Nat.sub_self] at hy
   cases hy
   exact hz
theorem o29_u64 {n:Int} (h:(Lit.int .u64 n).wf=true):∃ m:Nat,n=m∧m < 18446744073709551616:=by
 have e1:IntKind.u64.min=0:=rfl
 have e2:IntKind.u64.max=18446744073709551615:=rfl
 simp only [Lit.wf,Bool.and_eq_true,decide_eq_true_eq,e1,e2] at h
 exact ⟨n.toNat,by omega,by omega⟩
section
variable {H:Type} {enc:TypeId × Value→H} {w:World} {base:Nat} {spare:Nat→Bool} {held:Bool}
theorem open_w29 {fuel:Nat} {cs:List Value} {x:DataW H × List MemPlace} (h:DataW.trod enc Tryz.prog w base spare held fuel 24 cs=some x):∃ y:W4,cs=(uL y).toList∧y.Ok:=by
 have hc1:Tryz.prog.cellsOf 22=1:=by kernel_rfl
 have hc4:Tryz.prog.cellsOf 24=4:=by kernel_rfl
 obtain ⟨xs,m,_,_,hlen,hxl,hf⟩:=DataW.trod_array Tryz.underlying24 h
 rw [hc4] at hlen
 match cs,hlen,xs,hxl with
 | [c0,c1,c2,c3],_,[y0,y1,y2,y3],_ =>
  have h0:=hf 0 (by omega)
  have h1:=hf 1 (by omega)
  have h2:=hf 2 (by omega)
  have h3:=hf 3 (by omega)
  simp [hc1] at h0 h1 h2 h3
  obtain ⟨n0,e0,_,s0⟩:=DataW.trod_int Tryz.underlying22 h0
  obtain ⟨n1,e1,_,s1⟩:=DataW.trod_int Tryz.underlying22 h1
  obtain ⟨n2,e2,_,s2⟩:=DataW.trod_int Tryz.underlying22 h2
  obtain ⟨n3,e3,_,s3⟩:=DataW.trod_int Tryz.underlying22 h3
  obtain ⟨m0,rfl,b0⟩:=o29_u64 s0
  obtain ⟨m1,rfl,b1⟩:=o29_u64 s1
  obtain ⟨m2,rfl,b2⟩:=o29_u64 s2
  obtain ⟨m3,rfl,b3⟩:=o29_u64 s3
  simp only [List.cons.injEq,and_true] at e0 e1 e2 e3
  subst e0 e1 e2 e3
  exact ⟨(m0,m1,m2,m3),rfl,b0,b1,b2,b3⟩
theorem open_c29 {fuel:Nat} {cs:List Value} {x:DataW H × List MemPlace} (h:DataW.trod enc Tryz.prog w base spare held fuel 36 cs=some x):∃ (a b:W4) (k d t:Int) (s:Bool),cs=(chL a b k d t s).toList∧a.Ok∧b.Ok:=by
 have hc1:Tryz.prog.cellsOf 3=1:=by kernel_rfl
 have hcb:Tryz.prog.cellsOf 4=1:=by kernel_rfl
 have hc4:Tryz.prog.cellsOf 24=4:=by kernel_rfl
 have hc12:Tryz.prog.cellsOf 36=12:=by kernel_rfl
 obtain ⟨xs,m,_,_,hlen,hxl,hf⟩:=DataW.trod_struct Tryz.underlying36 h
 rw [hc12] at hlen
 match cs,hlen,xs,hxl with
 | [c0,c1,c2,c3,c4,c5,c6,c7,c8,c9,c10,c11],_,[y0,y1,y2,y3,y4,y5],_ =>
  have h0:=hf 0 _ rfl
  have h1:=hf 1 _ rfl
  have h2:=hf 2 _ rfl
  have h3:=hf 3 _ rfl
  have h4:=hf 4 _ rfl
  have h5:=hf 5 _ rfl
  simp [hc1,hc4,hcb] at h0 h1 h2 h3 h4 h5
  obtain ⟨a,ea,ka⟩:=open_w29 h0
  obtain ⟨b,eb,kb⟩:=open_w29 h1
  obtain ⟨n2,e2,_,_⟩:=DataW.trod_int Tryz.underlying3 h2
  obtain ⟨n3,e3,_,_⟩:=DataW.trod_int Tryz.underlying3 h3
  obtain ⟨n4,e4,_,_⟩:=DataW.trod_int Tryz.underlying3 h4
  obtain ⟨s5,e5,_⟩:=DataW.trod_bool Tryz.underlying4 h5
  simp only [List.cons.injEq,and_true] at ea eb e2 e3 e4 e5
  obtain ⟨rfl,rfl,rfl,rfl⟩:=ea
  obtain ⟨rfl,rfl,rfl,rfl⟩:=eb
  subst e2 e3 e4 e5
  exact ⟨a,b,n2,n3,n4,s5,rfl,ka,kb⟩
theorem open_l29 {fuel:Nat} {cs:List Value} {x:DataW H × List MemPlace} (h:DataW.trod enc Tryz.prog w base spare held fuel 38 cs=some x):∃ A:LAct,cs=A.L.toList∧A.Ok:=by
 have hc1:Tryz.prog.cellsOf 3=1:=by kernel_rfl
 have hcI:Tryz.prog.cellsOf 34=4:=by kernel_rfl
 have hc4:Tryz.prog.cellsOf 24=4:=by kernel_rfl
 have hc12:Tryz.prog.cellsOf 36=12:=by kernel_rfl
 have hc21:Tryz.prog.cellsOf 38=21:=by kernel_rfl
 obtain ⟨xs,m,_,_,hlen,hxl,hf⟩:=DataW.trod_struct Tryz.underlying38 h
 rw [hc21] at hlen
 match cs,hlen,xs,hxl with
 | [c0,c1,c2,c3,c4,c5,c6,c7,c8,c9,c10,c11,c12,c13,c14,c15,c16,c17,c18,c19,c20],_,[y0,y1,y2,y3],_ =>
  have h0:=hf 0 _ rfl
  have h1:=hf 1 _ rfl
  have h2:=hf 2 _ rfl
  have h3:=hf 3 _ rfl
  simp [hc1,hc4,hcI,hc12] at h0 h1 h2 h3
  obtain ⟨n0,e0,_,_⟩:=DataW.trod_int Tryz.underlying3 h0
  obtain ⟨ns,hl1,e1,hw⟩:=open_int_cells Tryz.underlying34 (by kernel_rfl) (by kernel_rfl) h1
  obtain ⟨a,b,k,dl,tl,s,e2,ka,kb⟩:=open_c29 h2
  obtain ⟨fv,e3,kf⟩:=open_w29 h3
  match ns,hl1 with
  | [x0,x1,x2,x3],_ =>
   simp only [List.map_cons,List.map_nil,List.cons.injEq,and_true] at e0 e1 e2 e3
   obtain ⟨rfl,rfl,rfl,rfl⟩:=e1
   obtain ⟨rfl,rfl,rfl,rfl,rfl,rfl,rfl,rfl,rfl,rfl,rfl,rfl⟩:=e2
   obtain ⟨rfl,rfl,rfl,rfl⟩:=e3
   subst e0
   exact ⟨⟨n0,(x0,x1,x2,x3),a,b,k,dl,tl,s,fv⟩,rfl,⟨fun n hn=>(wf_lt (hw n hn)).2,ka,kb,kf⟩⟩
theorem open_acts29 {r:Reach} {b0:Nat} {v:Value} {d:DataW H} {p:List MemPlace} (hv:Value.okWide Tryz.prog w r b0 32 v) (h:DataW.Trod enc Tryz.prog w base spare held 32 v d p) :
  ∃ (l:List LAct) (a:Option Addr) (c:Nat),v = .slice a l.length c∧Acts29In w a l:=by
 obtain ⟨a,len,cap,rfl⟩:=okWide_slice Tryz.underlying32 hv
 obtain ⟨fuel,hf⟩:=h
 have hc21:Tryz.prog.cellsOf 38=21:=by kernel_rfl
 rcases DataW.trod_slice Tryz.underlying32 hf with ⟨h1,_⟩ | ⟨a',len',cap',elems,rest,n,_,h1,h2,_,_,_,hlen,hel,_⟩
 ·have h2:[Value.slice a len cap] = [.slice none 0 0]:=h1
  cases h2
  exact ⟨[],none,0,rfl,fun k x hx=>(by simp at hx),fun x hx=>(by cases hx)⟩
 ·have h3:[Value.slice a len cap] = [.slice (some a') len' cap']:=h1
  cases h3
  rw [hc21] at hel
  have each:∀ i,i < len→∃ A:LAct,w.cells? base (a'.add (i*21)) 21=some A.L.toList∧A.Ok:=fun i hi=>by
   have:=hel i hi
   rw [List.getElem?_eq_getElem (by omega:i < elems.length),Option.bind_eq_some_iff] at this
   obtain ⟨cs,hcs,ht⟩:=this
   obtain ⟨A,rfl,hA⟩:=open_l29 ht
   exact ⟨A,hcs,hA⟩
  obtain ⟨l,hl,hp⟩:=list_of29 len each
  subst hl
  refine ⟨l,some a',cap,rfl,fun k A hk=>⟨a',rfl,fun j v hj => ?_⟩,fun A hA => ?_⟩
  ·obtain ⟨hcs,_⟩:=hp k A hk
   obtain ⟨_,_,hc⟩:=World.cells?_some hcs
   have hj21:j < 21:=(Array.getElem?_eq_some_iff.1 hj).1
   rw [hc j hj21]
   simpa using hj
  ·obtain ⟨i,hi⟩:=List.mem_iff_getElem?.1 hA
   exact (hp i A hi).2
end
end Go.Proofs.YtnkilceibkkjlaaGreat
namespace Go.Proofs.YtnkilceibkkjlaaGreat
open Go.RowKit
theorem wpList_load29 {P:Program} {ops:Array Oper} {rest:List Oper} {op:Oper} {a:Act} {w:World} {Q:Exit→Act→World→Prop} (hgd:op.guard=none) (ty:TypeId) (x:Operand) (ho:op.op = .load ty x)
  (p:Addr) (hx:a.eval x = .pointer (some p)) (cs:Array Value) (hc:∀ j v,cs[j]? = some v→w.cell? (p.add j)=some v) (d:TypeDesc) (hu:P.underlying ty=some d) (hd:d.isRow=true) (hi:(P.info? ty).map (·.size)=some cs.size)
  (h:wpList P ops Q rest (a.put op.dst (.agg cs)) w):wpList P ops Q (op :: rest) a w:=by
 have hl:(loadCells p cs.size).run P w = .ok cs w:=by
  have:=run_loadCells_list (P:=P) w p cs.toList (fun j v hv=>hc j v (by simpa using hv))
  simpa using this
 refine wpList_plain hgd fun _ hK => ?_
 cases hq:P.info? ty with
 | none=>simp [hq] at hi
 | some i =>
  have hs:i.size=cs.size:=by simpa [hq] using hi
  have hagg:(isAgg ty).run P w = .ok true w:=by
   unfold isAgg
   rw [Sem.run_bind,run_underlying hu w]
   cases d <;> simp_all
  have hv:(loadVar ty p).run P w = .ok (.agg cs) w:=by simp [loadVar,Sem.run_bind,hagg,sizeOf,typeInfo,hq,hs,hl]
  unfold Oper.wp execOp
  simp only [ho,hx,Instr.loadAt,Instr.sureAddr,Sem.run_bind,Sem.run_pure,Result.andThen_ok,hv]
  exact hK _ _ h
theorem set_mod (n:Int):∃ j:Nat,j < 3∧wrap64 ((IntKind.u64.wrap n).tmod 3)=(j:Int):=by
 have h0:0≤IntKind.u64.wrap n:=by
  have e:IntKind.u64.wrap n=n % 18446744073709551616:=by simp [IntKind.wrap,show IntKind.u64.bits=64 from rfl,show IntKind.u64.signed=false from rfl]
  omega
 rw [Int.tmod_eq_emod_of_nonneg h0]
 refine ⟨(IntKind.u64.wrap n % 3).toNat,by omega,?_⟩
 unfold wrap64; omega
theorem lact_one (A:LAct):A.L.all (·.oneCell')=true:=by simp [LAct.L,Value.oneCell']
abbrev actO (A:LAct):Obj:=.cells A.L 38
abbrev wasL (f:Nat→W4):Array Value:=#[.int .u64 (f 0).1,.int .u64 (f 0).2.1,.int .u64 (f 0).2.2.1,.int .u64 (f 0).2.2.2,.int .u64 (f 1).1,.int .u64 (f 1).2.1,.int .u64 (f 1).2.2.1,.int .u64 (f 1).2.2.2,.int .u64 (f 2).1,.int .u64 (f 2).2.1,.int .u64 (f 2).2.2.1,.int .u64 (f 2).2.2.2]
abbrev wasO (f:Nat→W4):Obj:=.cells (wasL f) 60
def setF (f:Nat→W4) (i:Nat) (v:W4):Nat→W4:=fun k=>if k=i then v else f k
theorem row21 {w:World} {g:Nat} {A:LAct} (h:w.heap[g]? = some (actO A)):w.cell? ⟨g,0,none⟩=some (.int .i64 A.kd) ∧
  (w.cell? ⟨g,1,none⟩=some (.int .i64 A.x.1)∧w.cell? ⟨g,2,none⟩=some (.int .i64 A.x.2.1)∧w.cell? ⟨g,3,none⟩=some (.int .i64 A.x.2.2.1)∧w.cell? ⟨g,4,none⟩=some (.int .i64 A.x.2.2.2)) ∧
  (w.cell? ⟨g,5,none⟩=some (.int .u64 A.tt.1)∧w.cell? ⟨g,6,none⟩=some (.int .u64 A.tt.2.1)∧w.cell? ⟨g,7,none⟩=some (.int .u64 A.tt.2.2.1)∧w.cell? ⟨g,8,none⟩=some (.int .u64 A.tt.2.2.2)) ∧
  (w.cell? ⟨g,9,none⟩=some (.int .u64 A.mx.1)∧w.cell? ⟨g,10,none⟩=some (.int .u64 A.mx.2.1)∧w.cell? ⟨g,11,none⟩=some (.int .u64 A.mx.2.2.1)∧w.cell? ⟨g,12,none⟩=some (.int .u64 A.mx.2.2.2)) ∧
  (w.cell? ⟨g,13,none⟩=some (.int .i64 A.bk)∧w.cell? ⟨g,14,none⟩=some (.int .i64 A.dl)∧w.cell? ⟨g,15,none⟩=some (.int .i64 A.tl)∧w.cell? ⟨g,16,none⟩=some (.bool A.sl)) ∧
  (w.cell? ⟨g,17,none⟩=some (.int .u64 A.fv.1)∧w.cell? ⟨g,18,none⟩=some (.int .u64 A.fv.2.1)∧w.cell? ⟨g,19,none⟩=some (.int .u64 A.fv.2.2.1)∧w.cell? ⟨g,20,none⟩=some (.int .u64 A.fv.2.2.2))∧∀ j,w.frozen? ⟨g,j,none⟩=false:=by
 have hc:∀ (o:Nat) v,A.L[o]? = some v→w.cell? ⟨g,o,none⟩=some v:=fun o v hv=>by rw [cell_of_row _ _ _ _ _ _ h]; exact hv
 exact ⟨hc 0 _ rfl,⟨hc 1 _ rfl,hc 2 _ rfl,hc 3 _ rfl,hc 4 _ rfl⟩,⟨hc 5 _ rfl,hc 6 _ rfl,hc 7 _ rfl,hc 8 _ rfl⟩,⟨hc 9 _ rfl,hc 10 _ rfl,hc 11 _ rfl,hc 12 _ rfl⟩,⟨hc 13 _ rfl,hc 14 _ rfl,hc 15 _ rfl,hc 16 _ rfl⟩,⟨hc 17 _ rfl,hc 18 _ rfl,hc 19 _ rfl,hc 20 _ rfl⟩,fun j=>frozen_of_row _ _ _ _ _ h⟩
theorem rowJ {w:World} {g:Nat} {kd:Int} {j:Nat} {tt mx fv:W4} {bk dl tl:Int} {sl:Bool} (h:w.heap[g]? = some (actO ⟨kd,xI j,tt,mx,bk,dl,tl,sl,fv⟩)):w.cell? ⟨g,0,none⟩=some (.int .i64 kd) ∧
  (w.cell? ⟨g,1,none⟩=some (.int .i64 7)∧w.cell? ⟨g,2,none⟩=some (.int .i64 1)∧w.cell? ⟨g,3,none⟩=some (.int .i64 9)∧w.cell? ⟨g,4,none⟩=some (.int .i64 (j:Int))) ∧
  (w.cell? ⟨g,5,none⟩=some (.int .u64 tt.1)∧w.cell? ⟨g,6,none⟩=some (.int .u64 tt.2.1)∧w.cell? ⟨g,7,none⟩=some (.int .u64 tt.2.2.1)∧w.cell? ⟨g,8,none⟩=some (.int .u64 tt.2.2.2)) ∧
  (w.cell? ⟨g,9,none⟩=some (.int .u64 mx.1)∧w.cell? ⟨g,10,none⟩=some (.int .u64 mx.2.1)∧w.cell? ⟨g,11,none⟩=some (.int .u64 mx.2.2.1)∧w.cell? ⟨g,12,none⟩=some (.int .u64 mx.2.2.2)) ∧
  (w.cell? ⟨g,13,none⟩=some (.int .i64 bk)∧w.cell? ⟨g,14,none⟩=some (.int .i64 dl)∧w.cell? ⟨g,15,none⟩=some (.int .i64 tl)∧w.cell? ⟨g,16,none⟩=some (.bool sl)) ∧
  (w.cell? ⟨g,17,none⟩=some (.int .u64 fv.1)∧w.cell? ⟨g,18,none⟩=some (.int .u64 fv.2.1)∧w.cell? ⟨g,19,none⟩=some (.int .u64 fv.2.2.1)∧w.cell? ⟨g,20,none⟩=some (.int .u64 fv.2.2.2))∧∀ j,w.frozen? ⟨g,j,none⟩=false:=row21 h
theorem wasAt {w:World} {g:Nat} {f:Nat→W4} (h:w.heap[g]? = some (wasO f)) {k:Nat} (hk:k < 3):∀ j v,(uL (f k))[j]? = some v→w.cell? ⟨g,k*4+j,none⟩=some v:=fun j v hj=>by
 rw [cell_of_row _ _ _ _ _ _ h]
 have hj4:j < 4:=(Array.getElem?_eq_some_iff.1 hj).1
 match k,hk,j,hj4 with
 | 0,_,0,_=>exact hj
 | 0,_,1,_=>exact hj
 | 0,_,2,_=>exact hj
 | 0,_,3,_=>exact hj
 | 1,_,0,_=>exact hj
 | 1,_,1,_=>exact hj
 | 1,_,2,_=>exact hj
 | 1,_,3,_=>exact hj
 | 2,_,0,_=>exact hj
 | 2,_,1,_=>exact hj
 | 2,_,2,_=>exact hj
 | 2,_,3,_=>exact hj
theorem wasRow {w:World} {g:Nat} {f:Nat→W4} (h:w.heap[g]? = some (wasO f)) {k:Nat} (hk:k < 3):w.cell? ⟨g,k*4,none⟩=some (.int .u64 (f k).1)∧w.cell? ⟨g,k*4+1,none⟩=some (.int .u64 (f k).2.1)∧w.cell? ⟨g,k*4+2,none⟩=some (.int .u64 (f k).2.2.1)∧w.cell? ⟨g,k*4+3,none⟩=some (.int .u64 (f k).2.2.2)∧∀ j,w.frozen? ⟨g,j,none⟩=false :=
 ⟨wasAt h hk 0 _ rfl,wasAt h hk 1 _ rfl,wasAt h hk 2 _ rfl,wasAt h hk 3 _ rfl,fun _=>frozen_of_row _ _ _ _ _ h⟩
theorem wasPut {w:World} {g:Nat} {f:Nat→W4} (h:w.heap[g]? = some (.cells (wasL f) 60 (0,0))) {k:Nat} (hk:k < 3) (v:W4) :
  ((((w.setCell ⟨g,k*4,none⟩ (.int .u64 v.1)).setCell ⟨g,k*4+1,none⟩ (.int .u64 v.2.1)).setCell ⟨g,k*4+2,none⟩ (.int .u64 v.2.2.1)).setCell ⟨g,k*4+3,none⟩ (.int .u64 v.2.2.2)).heap[g]? = some (.cells (wasL (setF f k v)) 60 (0,0)):=by
 match k,hk with
 | 0,_=>exact setCell_row _ (setCell_row _ (setCell_row _ (setCell_row _ h)))
 | 1,_=>exact setCell_row _ (setCell_row _ (setCell_row _ (setCell_row _ h)))
 | 2,_=>exact setCell_row _ (setCell_row _ (setCell_row _ (setCell_row _ h)))
theorem actPutX {w:World} {g:Nat} {A:LAct} (h:w.heap[g]? = some (.cells A.L 38 (0,0))) (x:I4) :
  ((((w.setCell ⟨g,1,none⟩ (.int .i64 x.1)).setCell ⟨g,2,none⟩ (.int .i64 x.2.1)).setCell ⟨g,3,none⟩ (.int .i64 x.2.2.1)).setCell ⟨g,4,none⟩ (.int .i64 x.2.2.2)).heap[g]? = some (.cells ({ A with x:=x }:LAct).L 38 (0,0)) :=
 setCell_row _ (setCell_row _ (setCell_row _ (setCell_row _ h)))
theorem actPutM {w:World} {g:Nat} {A:LAct} (h:w.heap[g]? = some (.cells A.L 38 (0,0))) (m:W4) :
  ((((w.setCell ⟨g,9,none⟩ (.int .u64 m.1)).setCell ⟨g,10,none⟩ (.int .u64 m.2.1)).setCell ⟨g,11,none⟩ (.int .u64 m.2.2.1)).setCell ⟨g,12,none⟩ (.int .u64 m.2.2.2)).heap[g]? = some (.cells ({ A with mx:=m }:LAct).L 38 (0,0)) :=
 setCell_row _ (setCell_row _ (setCell_row _ (setCell_row _ h)))
section
variable {wb W:World} {q:Option Addr} {L:List Nat} {k:Nat} {m:W4} {s:St} {rs:List (Nat × Obj)}
theorem AW.putX (h:AW wb q L k s m rs W) {g:Nat} {A:LAct} (x:I4) (hm:(g,actO A)∈rs) (qs:List (Nat × Obj)) (hqs:∀ x,x∈qs→x∈rs∧x.1≠g) :
  AW wb q L k s m ((g,actO { A with x:=x }) :: qs) ((((W.setCell ⟨g,1,none⟩ (.int .i64 x.1)).setCell ⟨g,2,none⟩ (.int .i64 x.2.1)).setCell ⟨g,3,none⟩ (.int .i64 x.2.2.1)).setCell ⟨g,4,none⟩ (.int .i64 x.2.2.2)) :=
 h.turn hm (actPutX (h.row hm) x) (by simp) (fun _ hk=>by rw [Below.heap_setCell _ _ _ _ hk,Below.heap_setCell _ _ _ _ hk,Below.heap_setCell _ _ _ _ hk,Below.heap_setCell _ _ _ _ hk]) ⟨rfl,rfl,rfl⟩ qs hqs
theorem AW.putJ (h:AW wb q L k s m rs W) {g:Nat} {A:LAct} (j:Nat) (hm:(g,actO A)∈rs) (qs:List (Nat × Obj)) (hqs:∀ x,x∈qs→x∈rs∧x.1≠g) :
  AW wb q L k s m ((g,actO { A with x:=xI j }) :: qs) ((((W.setCell ⟨g,1,none⟩ (.int .i64 7)).setCell ⟨g,2,none⟩ (.int .i64 1)).setCell ⟨g,3,none⟩ (.int .i64 9)).setCell ⟨g,4,none⟩ (.int .i64 (j:Int))):=h.putX (xI j) hm qs hqs
theorem AW.nowL (h:AW wb q L k s m rs W) (hk:k≤60) (j:Nat) (hj:j < 3):Calls Tryz.prog 18 #[.pointer q,.agg #[.int .i64 7,.int .i64 1,.int .i64 9,.int .i64 (j:Int)]] W fun e W'=>e = .returned (uV (cur s (xI j)))∧AW wb q L k s m rs W':=h.now hk hj
theorem AW.modifyL (h:AW wb q L k s m rs W) (hk:k≤60) {j:Nat} (hj:j < 3) {tt:W4} (hto:tt.Ok) (bk dl tl:Int) (sl:Bool) :
  Calls Tryz.prog 19 #[.pointer q,.agg #[.int .i64 7,.int .i64 1,.int .i64 9,.int .i64 (j:Int)],chV tt m bk dl tl sl] W fun e W'=>∃ (s':St) (n er:Int),e = .returned (.tuple #[.int .i64 n,.int .i64 er])∧AW wb q L (k+1) s' m rs W':=h.modify hk hj hto bk dl tl sl
theorem AW.matureL (h:AW wb q L k s m rs W) (hk:k≤60) {j:Nat} (hj:j < 3) :
  Calls Tryz.prog 23 #[.pointer q,.agg #[.int .i64 7,.int .i64 1,.int .i64 9,.int .i64 (j:Int)]] W fun e W'=>∃ (s':St) (b:Bool),e = .returned (.bool b)∧AW wb q L (k+1) s' m rs W':=h.mature hk hj
theorem AW.cutL (h:AW wb q L k s m rs W) (hk:k≤60) {j:Nat} (hj:j < 3) {z:W4} (hz:z.Ok) :
  Calls Tryz.prog 25 #[.pointer q,.agg #[.int .i64 7,.int .i64 1,.int .i64 9,.int .i64 (j:Int)],uV z] W fun e W'=>∃ (s':St) (c:W4) (er:Int),e = .returned (.tuple #[uV c,.int .i64 er])∧c.Ok∧uCmp c (cur s (xI j))≤0∧(∀ i,i < 3→i≠j→cur s' (xI i)=cur s (xI i))∧AW wb q L (k+1) s' (if er=0 then subW m c else m) rs W':=h.cut hk hj hz
abbrev was0:Nat→W4:=fun _=>(0,0,0,0)
theorem AW.allocW (h:AW wb q L k s m rs W):AW wb q L k s m ((W.heap.size,wasO was0) :: rs) (W.alloc (.cells #[.int .u64 0,.int .u64 0,.int .u64 0,.int .u64 0,.int .u64 0,.int .u64 0,.int .u64 0,.int .u64 0,.int .u64 0,.int .u64 0,.int .u64 0,.int .u64 0] 60)):=h.alloc (wasO was0)
theorem AW.putM (h:AW wb q L k s m rs W) {g:Nat} {A:LAct} (x:W4) (hm:(g,actO A)∈rs) (qs:List (Nat × Obj)) (hqs:∀ x,x∈qs→x∈rs∧x.1≠g) :
  AW wb q L k s m ((g,actO { A with mx:=x }) :: qs) ((((W.setCell ⟨g,9,none⟩ (.int .u64 x.1)).setCell ⟨g,10,none⟩ (.int .u64 x.2.1)).setCell ⟨g,11,none⟩ (.int .u64 x.2.2.1)).setCell ⟨g,12,none⟩ (.int .u64 x.2.2.2)) :=
 h.turn hm (actPutM (h.row hm) x) (by simp) (fun _ hk=>by rw [Below.heap_setCell _ _ _ _ hk,Below.heap_setCell _ _ _ _ hk,Below.heap_setCell _ _ _ _ hk,Below.heap_setCell _ _ _ _ hk]) ⟨rfl,rfl,rfl⟩ qs hqs
theorem AW.putW (h:AW wb q L k s m rs W) {g:Nat} {f:Nat→W4} {i:Nat} (hi:i < 3) (x:W4) (hm:(g,wasO f)∈rs) (qs:List (Nat × Obj)) (hqs:∀ x,x∈qs→x∈rs∧x.1≠g) :
  AW wb q L k s m ((g,wasO (setF f i x)) :: qs) ((((W.setCell ⟨g,i*4,none⟩ (.int .u64 x.1)).setCell ⟨g,i*4+1,none⟩ (.int .u64 x.2.1)).setCell ⟨g,i*4+2,none⟩ (.int .u64 x.2.2.1)).setCell ⟨g,i*4+3,none⟩ (.int .u64 x.2.2.2)) :=
 h.turn hm (wasPut (h.row hm) hi x) (by simp) (fun _ hk=>by rw [Below.heap_setCell _ _ _ _ hk,Below.heap_setCell _ _ _ _ hk,Below.heap_setCell _ _ _ _ hk,Below.heap_setCell _ _ _ _ hk]) ⟨rfl,rfl,rfl⟩ qs hqs
end
section
variable {ops:Array Oper} {o:Oper} {a:Go.Act} {w:World} {K:Value→World→Prop} {x y:Operand}
theorem rgl_fa (hg:Region.wanted o (yielded ops a.tmps)=true) {g:Nat} (ho:o.op = .fieldAddr 38 x 1) (hx:a.eval x = .pointer (some ⟨g,0,none⟩)) (hk:K (.pointer (some ⟨g,1,none⟩)) w):rgDo Tryz.prog ops o a w K:=by
 refine rg_value hg ?_ hk
 clear hg hk
 generalize a.eval=ev at hx ⊢
 unfold execOp
 simp only [ho,hx]
 go_simp
theorem rgl_fi (hg:Region.wanted o (yielded ops a.tmps)=true) {g:Nat} (ho:o.op = .fieldAddr 34 x 3) (hx:a.eval x = .pointer (some ⟨g,1,none⟩)) (hk:K (.pointer (some ⟨g,4,none⟩)) w):rgDo Tryz.prog ops o a w K:=by
 refine rg_value hg ?_ hk
 clear hg hk
 generalize a.eval=ev at hx ⊢
 unfold execOp
 simp only [ho,hx]
 go_simp
theorem rgl_idx (hg:Region.wanted o (yielded ops a.tmps)=true) {g k:Nat} (ho:o.op = .indexAddr 60 x y) (hx:a.eval x = .pointer (some ⟨g,0,none⟩)) (hy:a.eval y = .int .i64 (k:Int)) (hk3:k < 3) (hk:K (.pointer (some ⟨g,k*4,none⟩)) w):rgDo Tryz.prog ops o a w K:=by
 refine rg_value hg ?_ hk
 clear hg hk
 generalize a.eval=ev at hx hy ⊢
 have h0:¬ (3:Int)≤(k:Int):=by omega
 unfold execOp
 simp only [ho,hx,hy]
 go_simp
 all_goals (intro h3; exact absurd h3 h0)
theorem rgl_load (hg:Region.wanted o (yielded ops a.tmps)=true) {g k:Nat} {r:W4} (ho:o.op = .load 24 x) (hx:a.eval x = .pointer (some ⟨g,k,none⟩)) (hc:w.cell? ⟨g,k,none⟩=some (.int .u64 r.1)∧w.cell? ⟨g,k+1,none⟩=some (.int .u64 r.2.1)∧w.cell? ⟨g,k+2,none⟩=some (.int .u64 r.2.2.1)∧w.cell? ⟨g,k+3,none⟩=some (.int .u64 r.2.2.2)∧∀ j,w.frozen? ⟨g,j,none⟩=false) (hk:K (uV r) w):rgDo Tryz.prog ops o a w K:=by
 obtain ⟨c0,c1,c2,c3,_⟩:=hc
 refine rg_value hg ?_ hk
 clear hg hk
 generalize a.eval=ev at hx ⊢
 unfold execOp
 simp only [ho,hx]
 go_simp
theorem rgl_neI (hg:Region.wanted o (yielded ops a.tmps)=true) {i j:Int} {b:Bool} (ho:o.op = .binOp .neq 3 x y 3) (hx:a.eval x = .int .i64 i) (hy:a.eval y = .int .i64 j) (hb:(i != j)=b) (hk:K (.bool b) w):rgDo Tryz.prog ops o a w K:=by
 subst hb
 refine rg_value hg ?_ hk
 clear hg hk
 generalize a.eval=ev at hx hy ⊢
 unfold execOp
 simp only [ho,hx,hy]
 go_simp
theorem rgl_neU {u:W4} (hg:Region.wanted o (yielded ops a.tmps)=true) (ho:o.op = .binOp .neq 24 x y 24) (hx:a.eval x=uV u) (hy:a.eval y=uV u) (hk:K (.bool false) w):rgDo Tryz.prog ops o a w K:=by
 refine rg_value hg ?_ hk
 clear hg hk
 generalize a.eval=ev at hx hy ⊢
 unfold execOp
 have:=eqU u u w
 rw [decide_eq_true rfl] at this
 have hq:Program.eqGuardType Tryz.prog Tryz.prog.depth 24=false:=by kernel_rfl
 simp only [ho,hx,hy]
 go_simp
theorem rgl_id (hg:Region.wanted o (yielded ops a.tmps)=true) {n:Int} (ho:o.op = .build 34 #[(0,.const (.int .i64 7)),(1,.const (.int .i64 1)),(2,.const (.int .i64 9)),(3,x)]) (hx:a.eval x = .int .i64 n) (hk:K (.agg #[.int .i64 7,.int .i64 1,.int .i64 9,.int .i64 n]) w):rgDo Tryz.prog ops o a w K:=by
 refine rg_value hg ?_ hk
 clear hg hk
 have hc:∀ n:Int,a.eval (.const (.int .i64 n)) = .int .i64 n:=fun _=>rfl
 have h7:=hc 7
 have h1:=hc 1
 have h9:=hc 9
 clear hc
 generalize a.eval=ev at hx h7 h1 h9 ⊢
 unfold execOp
 simp only [ho]
 go_simp
end
end Go.Proofs.YtnkilceibkkjlaaGreat
