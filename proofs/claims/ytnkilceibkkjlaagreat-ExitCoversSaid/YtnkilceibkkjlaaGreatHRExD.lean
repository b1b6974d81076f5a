/- What is proved here: exits of the program: Slashable. Conditions: sizes, ints below 2^63. the reference's withdrawals: Slashable. Conditions: sizes, ints below 2^63. the reference's withdrawals: Cut. Conditions: sizes. keys of any numbers: a key is parsed back, and what parses is a key; a key of two numbers that leads one of three. No program's function is named. No condition. exits of the program: Done. Conditions: a -/
import Derived.Test.YtnkilceibkkjlaaGreatHExC
import Derived.Test.YtnkilceibkkjlaaGreatHExHat
import Derived.Test.YtnkilceibkkjlaaGreatHRExAdP
import Derived.Test.YtnkilceibkkjlaaGreatHRowW
import Derived.Test.YtnkilceibkkjlaaGreatHRFacA
import Derived.Test.YtnkilceibkkjlaaGreatHBl
import Derived.Test.YtnkilceibkkjlaaGreatHExAd
set_option maxRecDepth 100000
set_option maxHeartbeats 16000000
namespace Go.Proofs.YtnkilceibkkjlaaGreat
open Go.RowKit
def St.slash (s:St) (o t b d:Int):W4:=if d < 0∨b≤d then s.hlast 16 [o,t] else gapW (s.hlast 16 [o,t]) (s.hat 16 [o,t] (b - d - 1))
theorem slash_ok (s:St) (o t b d:Int):(s.slash o t b d).Ok:=by
 unfold St.slash; split
 ·exact hlast_ok _ _ _
 ·exact gapW_ok _ _
theorem xslashN_q (w:World) (h:Hand) (s:St) (f:Nat) (o t b d:Int) (ho:I63 o) (ht:I63 t) (hd0:d < 0) (hq:QSt w h s) (hf:s.Fit f) (hm:f < 100000000000) :
  Calls Tryz.prog 46 #[.pointer h.ptr,.int .i64 o,.int .i64 t,.int .i64 b,.int .i64 d] w fun e w'=>e = .returned (uV (s.hlast 16 [o,t]))∧Below w.heap.size w w':=by
 have hB:=(BV.start w).alloc zO
 have hl:IdOk [o,t]:=⟨by simp,fun y hy=>by
  rcases List.mem_cons.1 hy with h | h
  ·subst h; exact ho
  ·rw [List.mem_singleton] at h; subst h; exact ht⟩
 have HLA:Hid (∀ rs W g,(g,i2O o t)∈rs→BV w rs W→Calls Tryz.prog 117 #[.pointer h.ptr,.int .i64 16,.slice (some ⟨g,0,none⟩) 2 2] W fun e w'=>e = .returned (.tuple #[uV (s.hlast 16 [o,t]),.bool (decide (s.hlen 16 [o,t]≠0))])∧BV w rs w'):=fun rs W g hg hV =>
  hV.reads (histLast_q W h s f 16 (by omega) (by omega) _ _ (ints_at2 (hV.row hg)) hl (hq.below (BV.bl hV)) hf hm)
 have HB:=Lib.hid hB
 clear hB hl hq hf hm ho ht
 have hd2:(d < 0)=True:=eq_true hd0
 clear hd0
 generalize decide (s.hlen 16 [o,t]≠0)=lb at *
 generalize s.hlast 16 [o,t]=hd at *
 go_enter Tryz.func46,Tryz.ntmps46
 go_upto_region 2 with fail
 have hB2:=HB.out.alloc (i2O o t)
 rw [World.size_alloc] at hB2
 generalize hw2:(w.alloc zO).alloc (i2O o t)=w2 at *
 clear hw2 HB
 have HL2:=Lib.hid (HLA.out _ _ (w.heap.size+1) (by simp) hB2)
 clear HLA hB2
 go_wp2_with fail
 refine Calls.mono HL2.out ?_
 rintro e w3 ⟨rfl,hB3⟩
 have HB4:=Lib.hid (hB3.alloc (uO hd))
 clear HL2 hB3
 go_upto_region 3 with fail
 generalize hw4:w3.alloc (uO hd)=w4 at *
 generalize w3.heap.size=g4 at *
 clear hw4
 have hz:w4.heap[w.heap.size]? = some (.cells (uL (0,0,0,0)) 24 (0,0)):=HB4.out.row (g:=w.heap.size) (o:=zO) (by simp)
 obtain ⟨z0,z1,z2,z3,z4,z5,z6,z7⟩:=row4 (x:=(0,0,0,0)) hz
 obtain ⟨m0,m1,m2,m3,m4,m5,m6,m7⟩:=row4 (HB4.out.row (g:=g4) (o:=uO hd) (by simp))
 have HZ:=Lib.hid (put4 hz hd)
 have HBB:=Lib.hid (put4_below (BV.bl HB4.out) (Nat.le_refl _) (.int .u64 hd.1) (.int .u64 hd.2.1) (.int .u64 hd.2.2.1) (.int .u64 hd.2.2.2))
 clear hz HB4
 go_wp2_with fail
 refine bodyPost_ret (results_cell_row rfl _ _ w.heap.size 24 (uL hd) (0,0) _ rfl HZ.out Tryz.underlying24 rfl (by kernel_rfl)) rfl ?_
 exact ⟨rfl,HBB.out⟩
theorem xslashP_q (w:World) (h:Hand) (s:St) (f:Nat) (o t b d:Int) (ho:I63 o) (ht:I63 t) (hb:I63 b) (hd0:0≤d) (hbd:d < b) (hq:QSt w h s) (hf:s.Fit f) (hm:f < 100000000000) (hn62:s.hlen 16 [o,t] < 4611686018427387904) :
  Calls Tryz.prog 46 #[.pointer h.ptr,.int .i64 o,.int .i64 t,.int .i64 b,.int .i64 d] w fun e w'=>e = .returned (uV (gapW (s.hlast 16 [o,t]) (s.hat 16 [o,t] (b - d - 1))))∧Below w.heap.size w w':=by
 have hB:=(BV.start w).alloc zO
 have hl:IdOk [o,t]:=⟨by simp,fun y hy=>by
  rcases List.mem_cons.1 hy with h | h
  ·subst h; exact ho
  ·rw [List.mem_singleton] at h; subst h; exact ht⟩
 have HLA:Hid (∀ rs W g,(g,i2O o t)∈rs→BV w rs W→Calls Tryz.prog 117 #[.pointer h.ptr,.int .i64 16,.slice (some ⟨g,0,none⟩) 2 2] W fun e w'=>e = .returned (.tuple #[uV (s.hlast 16 [o,t]),.bool (decide (s.hlen 16 [o,t]≠0))])∧BV w rs w'):=fun rs W g hg hV =>
  hV.reads (histLast_q W h s f 16 (by omega) (by omega) _ _ (ints_at2 (hV.row hg)) hl (hq.below (BV.bl hV)) hf hm)
 have HAT:Hid (∀ rs W g,(g,i2O o t)∈rs→BV w rs W→Calls Tryz.prog 118 #[.pointer h.ptr,.int .i64 16,.slice (some ⟨g,0,none⟩) 2 2,.int .i64 (b - d - 1)] W fun e w'=>e = .returned (.tuple #[uV (s.hat 16 [o,t] (b - d - 1)),.bool (decide (s.hpos 16 [o,t] (b - d - 1)≠0))])∧BV w rs w'):=fun rs W g hg hV =>
  hV.reads (hat_q W h s f 16 (by omega) (by omega) _ _ _ (ints_at2 (hV.row hg)) hl (hq.below (BV.bl hV)) hf hm hn62)
 have HSB:Hid (∀ rs W,BV w rs W→Calls Tryz.prog 71 #[uV (s.hlast 16 [o,t]),uV (s.hat 16 [o,t] (b - d - 1))] W fun e w'=>e = .returned (.tuple #[uV (gapW (s.hlast 16 [o,t]) (s.hat 16 [o,t] (b - d - 1))),.bool (uSubC (s.hlast 16 [o,t]) (s.hat 16 [o,t] (b - d - 1)) == 0)])∧BV w rs w'):=fun rs W hV=>hV.reads (usub_any _ _ (hlast_ok _ _ _) (hat_ok _ _ _ _) W)
 have HB:=Lib.hid hB
 unfold I63 at hb
 have hw1:IntKind.i64.wrap (b - d)=b - d:=by rw [IntKind.wrap_i64]; omega
 have hw1':wrap64 (b - d)=b - d:=by unfold wrap64; omega
 obtain ⟨bb,hbb⟩:∃ bb,bb=b - d - 1:=⟨_,rfl⟩
 have hw2:IntKind.i64.wrap (b - d - 1)=bb:=by rw [IntKind.wrap_i64]; omega
 have hw2':wrap64 (b - d - 1)=bb:=by unfold wrap64; omega
 rw [← hbb] at HAT HSB ⊢
 clear hB hl hq hf hm ho ht hn62 hb hbb
 have hbd2:(b≤d)=False:=eq_false (by omega)
 have hd2:(d < 0)=False:=eq_false (by omega)
 clear hbd hd0
 generalize decide (s.hlen 16 [o,t]≠0)=lb at *
 generalize decide (s.hpos 16 [o,t] bb≠0)=lc at *
 generalize (uSubC (s.hlast 16 [o,t]) (s.hat 16 [o,t] bb) == 0)=ld at *
 generalize gapW (s.hlast 16 [o,t]) (s.hat 16 [o,t] bb)=gp at *
 generalize s.hlast 16 [o,t]=hd at *
 generalize s.hat 16 [o,t] bb=ha at *
 go_enter Tryz.func46,Tryz.ntmps46
 go_upto_region 2 with fail
 have hB2:=HB.out.alloc (i2O o t)
 rw [World.size_alloc] at hB2
 generalize hw2:(w.alloc zO).alloc (i2O o t)=w2 at *
 clear hw2 HB
 have HL2:=Lib.hid (HLA.out _ _ (w.heap.size+1) (by simp) hB2)
 clear HLA hB2
 go_wp2_with fail
 refine Calls.mono HL2.out ?_
 rintro e w3 ⟨rfl,hB3⟩
 have HB4:=Lib.hid (hB3.alloc (uO hd))
 clear HL2 hB3
 go_upto_region 5 with fail
 generalize hw4:w3.alloc (uO hd)=w4 at *
 generalize w3.heap.size=g4 at *
 clear hw4
 have HA4:=Lib.hid (HAT.out _ _ (w.heap.size+1) (by simp) HB4.out)
 clear HAT HB4 hbd2 hd2
 go_wp2_with fail
 refine Calls.mono HA4.out ?_
 rintro e w5 ⟨rfl,hB5⟩
 have HB6:=Lib.hid (hB5.alloc (uO ha))
 clear HA4 hB5 hw1 hw1' hw2'
 go_upto_region 6 with fail
 generalize hw6:w5.alloc (uO ha)=w6 at *
 generalize w5.heap.size=g6 at *
 clear hw6
 obtain ⟨m0,m1,m2,m3,m4,m5,m6,m7⟩:=row4 (HB6.out.row (g:=g4) (o:=uO hd) (by simp))
 obtain ⟨n0,n1,n2,n3,n4,n5,n6,n7⟩:=row4 (HB6.out.row (g:=g6) (o:=uO ha) (by simp))
 have HS6:=Lib.hid (HSB.out _ _ HB6.out)
 clear HSB HB6
 go_wp2_with fail
 refine Calls.mono HS6.out ?_
 rintro e w7 ⟨rfl,hB7⟩
 have HB8:=Lib.hid (hB7.alloc (uO gp))
 clear HS6 hB7 m0 m1 m2 m3 m4 m5 m6 m7 n0 n1 n2 n3 n4 n5 n6 n7
 go_upto_region 7 with fail
 generalize hw8:w7.alloc (uO gp)=w8 at *
 generalize w7.heap.size=g8 at *
 clear hw8
 have hz:w8.heap[w.heap.size]? = some (.cells (uL (0,0,0,0)) 24 (0,0)):=HB8.out.row (g:=w.heap.size) (o:=zO) (by simp)
 obtain ⟨z0,z1,z2,z3,z4,z5,z6,z7⟩:=row4 (x:=(0,0,0,0)) hz
 obtain ⟨m0,m1,m2,m3,m4,m5,m6,m7⟩:=row4 (HB8.out.row (g:=g8) (o:=uO gp) (by simp))
 have HZ:=Lib.hid (put4 hz gp)
 have HBB:=Lib.hid (put4_below (BV.bl HB8.out) (Nat.le_refl _) (.int .u64 gp.1) (.int .u64 gp.2.1) (.int .u64 gp.2.2.1) (.int .u64 gp.2.2.2))
 clear hz HB8
 go_wp2_with fail
 refine bodyPost_ret (results_cell_row rfl _ _ w.heap.size 24 (uL gp) (0,0) _ rfl HZ.out Tryz.underlying24 rfl (by kernel_rfl)) rfl ?_
 exact ⟨rfl,HBB.out⟩
theorem xslash_q (w:World) (h:Hand) (s:St) (f:Nat) (o t b d:Int) (ho:I63 o) (ht:I63 t) (hb:I63 b) (hq:QSt w h s) (hf:s.Fit f) (hm:f < 100000000000) (hn62:s.hlen 16 [o,t] < 4611686018427387904) :
  Calls Tryz.prog 46 #[.pointer h.ptr,.int .i64 o,.int .i64 t,.int .i64 b,.int .i64 d] w fun e w'=>e = .returned (uV (s.slash o t b d))∧Below w.heap.size w w':=by
 unfold St.slash
 by_cases h1:d < 0
 ·rw [if_pos (.inl h1)]
  exact xslashN_q w h s f o t b d ho ht h1 hq hf hm
 ·by_cases h2:b≤d
  ·rw [if_pos (.inr h2)]
   exact xslash0_q w h s f o t b d ho ht (by omega) h2 hq hf hm
  ·rw [if_neg (by omega)]
   exact xslashP_q w h s f o t b d ho ht hb (by omega) (by omega) hq hf hm hn62
end Go.Proofs.YtnkilceibkkjlaaGreat
namespace Go.Proofs.YtnkilceibkkjlaaGreat
open Go.RowKit
theorem be_inj':∀ (l1 l2:List UInt8) (x y:Nat),l1.length=l2.length→l1.foldl (fun x b=>x*256+b.toNat) x=l2.foldl (fun x b=>x*256+b.toNat) y→x=y∧l1=l2
 | [],[],x,y,_,h=>⟨h,rfl⟩
 | [],_ :: _,_,_,hl,_=>by simp at hl
 | _ :: _,[],_,_,hl,_=>by simp at hl
 | a :: l1,b :: l2,x,y,hl,h=>by
  simp only [List.foldl_cons] at h
  obtain ⟨h1,h2⟩:=be_inj' l1 l2 _ _ (by simpa using hl) h
  have ha:=UInt8.toNat_lt a
  have hb:=UInt8.toNat_lt b
  have hab:a.toNat=b.toNat:=by omega
  exact ⟨by omega,by rw [h2,UInt8.toNat_inj.1 hab]⟩
theorem be8_be {r:List UInt8} (hl:r.length=8) (hb:be r < 9223372036854775808):be8 (be r)=r:=by
 have h2:=numsL_numB (be r) hb
 rw [numB_list,numsL_step _ (by rw [be8_len]; omega),List.take_of_length_le (by rw [be8_len]; omega),List.drop_of_length_le (by rw [be8_len]; omega)] at h2
 split at h2
 ·simp [numsL] at h2
  exact ((be_inj' r (be8 (be r)) 0 0 (by rw [be8_len]; omega) h2.symm).2).symm
 ·cases h2
theorem numsL_inv:∀ (ns:List Nat) (r:List UInt8),numsL r=some ns→r=ns.flatMap be8∧∀ x∈ns,x < 9223372036854775808
 | [],r,h=>by
  have hl:=numsL_len r.length r [] (Nat.le_refl _) h
  simp at hl
  subst hl
  exact ⟨rfl,fun x hx=>by cases hx⟩
 | n :: ns,r,h=>by
  have hl:=numsL_len r.length r (n :: ns) (Nat.le_refl _) h
  simp at hl
  rw [numsL_step _ (by omega)] at h
  split at h
  ·next hb =>
   rw [Option.map_eq_some_iff] at h
   obtain ⟨ms,hm,e⟩:=h
   injection e with e1 e2
   subst e1
   subst e2
   obtain ⟨h1,h2⟩:=numsL_inv _ _ hm
   refine ⟨?_,fun x hx => ?_⟩
   ·rw [List.flatMap_cons,← h1,be8_be (by rw [List.length_take]; omega) hb,List.take_append_drop]
   ·rcases List.mem_cons.1 hx with rfl | hx
    ·exact hb
    ·exact h2 x hx
  ·cases h
def asInts (ns:List Nat):List Int:=ns.map fun (n:Nat)=>(n:Int)
theorem keyL_list (t:Nat) (ns:List Nat):(keyL t (asInts ns)).data.toList=UInt8.ofNat t :: ns.flatMap be8:=by
 rw [keyL_pos (by intro x hx; obtain ⟨n,_,rfl⟩:=List.mem_map.1 hx; omega)]
 simp [keyBytes,asInts,List.flatMap_map]
theorem key_parse {k:ByteArray} {t:Nat} {ns:List Nat} (h:parseK k=some (t,ns)):k=keyL t (asInts ns)∧∀ x∈ns,x < 9223372036854775808:=by
 unfold parseK at h
 cases hk:k.data.toList with
 | nil=>rw [hk] at h; cases h
 | cons b r =>
  rw [hk] at h
  have h':(if b=0 then none else (numsL r).map fun ns=>(b.toNat,ns))=some (t,ns):=h
  split at h'
  ·cases h'
  ·rw [Option.map_eq_some_iff] at h'
   obtain ⟨ms,hm,e⟩:=h'
   injection e with e1 e2
   subst e1
   subst e2
   obtain ⟨h1,h2⟩:=numsL_inv _ _ hm
   refine ⟨?_,h2⟩
   have:k.data.toList=(keyL b.toNat (asInts ms)).data.toList:=by rw [keyL_list,hk,← h1,UInt8.ofNat_toNat]
   exact congrArg ByteArray.mk (Array.toList_inj.1 this)
theorem parse_keyL {t:Nat} (h1:1≤t) (h2:t≤255) {ns:List Nat} (h:∀ x∈ns,x < 9223372036854775808):parseK (keyL t (asInts ns))=some (t,ns):=by
 unfold parseK
 rw [keyL_list]
 have h0:UInt8.ofNat t≠0:=fun e=>by
  have:=congrArg UInt8.toNat e
  rw [UInt8.toNat_ofNat'] at this
  have h3:(0:UInt8).toNat=0:=rfl
  rw [h3] at this
  omega
 show (if UInt8.ofNat t=0 then none else (numsL (ns.flatMap be8)).map fun ns=>((UInt8.ofNat t).toNat,ns))=_
 rw [if_neg h0]
 have h3:=numsL_row (asInts ns) (by intro n hn; obtain ⟨m,hm,rfl⟩:=List.mem_map.1 hn; have:=h m hm; omega)
 have h4:rowBy (asInts ns)=ns.flatMap be8:=by simp [rowBy,asInts,List.flatMap_map]
 have h5:(asInts ns).map (·.toNat)=ns:=by simp [asInts,Function.comp_def]
 rw [h4,h5] at h3
 rw [h3,UInt8.toNat_ofNat',Option.map_some]
 have:t % 256=t:=by omega
 rw [this]
theorem keyL_inj {t u:Nat} (ht1:1≤t) (ht:t≤255) (hu1:1≤u) (hu:u≤255) {ns ms:List Nat} (hn:∀ x∈ns,x < 9223372036854775808) (hm:∀ x∈ms,x < 9223372036854775808) (h:keyL t (asInts ns)=keyL u (asInts ms)):t=u∧ns=ms:=by
 have h1:=parse_keyL ht1 ht hn
 rw [h,parse_keyL hu1 hu hm] at h1
 injection h1 with h1
 injection h1 with h1 h2
 exact ⟨h1.symm,h2.symm⟩
def xdnA (s:St) (id:Int) (m:W4):W4:=paysW (s.ex id) m
def xdnE (s:St) (id:Int) (m:W4):Int:=if s.exIs id=true then lessE' (s.amt (keyL 19 [(s.ex id).sg])) (xdnA s id m) else 8
def xdnW (s:St) (id:Int) (m:W4):W4:=if xdnE s id m=0 then xdnA s id m else (0,0,0,0)
def Hand.dn1 (h:Hand) (s:St) (id:Int) (m:W4):St:=h.subSt s (keyL 19 [(s.ex id).sg]) (xdnA s id m)
def Hand.dnS (h:Hand) (s:St) (id:Int) (m:W4):Nat→St
 | 0=>h.dn1 s id m
 | 1=>(h.dn1 s id m).del (keyL 15 [id])
 | 2=>((h.dn1 s id m).del (keyL 15 [id])).del (keyL 17 [id])
 | _+3=>(((h.dn1 s id m).del (keyL 15 [id])).del (keyL 17 [id])).del (keyL 18 [id])
def Hand.dn5 (h:Hand) (s:St) (id:Int) (m:W4):St:=(h.dnS s id m 3).setInt (keyL 20 [(s.ex id).st]) ((((h.dnS s id m 3).int (keyL 20 [(s.ex id).st]):Nat):Int) - 1)
def Hand.dnSt (h:Hand) (s:St) (id:Int) (m:W4):St:=if xdnE s id m=0 then h.dn5 s id m else s
theorem rowOf_lt {v:ByteArray}:∀ n∈rowOf v,n < 9223372036854775808:=fun n hn=>by
 unfold rowOf at hn
 cases hx:numsL v.data.toList with
 | none=>rw [hx] at hn; cases hn
 | some ns=>rw [hx] at hn; exact (numsL_inv _ _ hx).2 n hn
theorem ex_i63 (s:St) (id:Int):I63 (s.ex id).st∧I63 (s.ex id).op∧I63 (s.ex id).sg∧I63 (s.ex id).bl:=by
 unfold St.ex
 split
 ·rename_i a b c d hr
  have h:=fun n hn=>rowOf_lt (v:=s.val (keyL 15 [id])) n (by rw [hr]; exact hn)
  have ha:=h a (by simp)
  have hb:=h b (by simp)
  have hc:=h c (by simp)
  have hd:=h d (by simp)
  exact ⟨by show (a:Int) < _; omega,by show (b:Int) < _; omega,by show (c:Int) < _; omega,by show (d:Int) < _; omega⟩
 ·exact ⟨by decide,by decide,by decide,by decide⟩
theorem ex_woOk (s:St) (id:Int):(s.ex id).wo.Ok∧(s.ex id).mx.Ok:=by
 unfold St.ex
 split
 ·exact ⟨amt_ok _ _,amt_ok _ _⟩
 ·exact ⟨u0_ok,u0_ok⟩
theorem idx3_0 (w:World):(Instr.index 169 (.agg #[.int .i64 15,.int .i64 17,.int .i64 18]) (.int .i64 0)).run Tryz.prog w = .ok (.int .i64 15) w:=by kernel_rfl
theorem idx3_1 (w:World):(Instr.index 169 (.agg #[.int .i64 15,.int .i64 17,.int .i64 18]) (.int .i64 1)).run Tryz.prog w = .ok (.int .i64 17) w:=by kernel_rfl
theorem idx3_2 (w:World):(Instr.index 169 (.agg #[.int .i64 15,.int .i64 17,.int .i64 18]) (.int .i64 2)).run Tryz.prog w = .ok (.int .i64 18) w:=by kernel_rfl
theorem hdel_q (w:World) (h:Hand) (s:St) (k:ByteArray) (hon:h.on=true) (hq:QSt w h s) (hz:s.size < 1000000000000) :
  Calls Tryz.prog 85 #[.pointer h.ptr,.string k] w fun e w'=>e = .returned (.bool (getE s.ents k).isSome)∧QOn w h (s.del k) w':=by
 rcases hq with ⟨_,b,hp,hS⟩ | ⟨h0,_⟩
 ·rw [hp]
  exact (delete_any w b s h.L k hS hz).mono fun e w' ⟨he,L',h1,h2⟩=>⟨he,L',.inl ⟨hon,b,hp,h1⟩,h2⟩
 ·rw [hon] at h0; cases h0
theorem del_fit {s:St} {f:Nat} (hf:s.Fit f) (k:ByteArray):(s.del k).Fit (f+2):=by
 have:=hf.put k (v:=emptyB) (by decide)
 unfold St.put at this
 rwa [if_pos rfl] at this
theorem Hand.dn1_fit {h:Hand} {s:St} {f:Nat} (hf:s.Fit f) (id:Int) (m:W4):(h.dn1 s id m).Fit (f+2):=by
 unfold Hand.dn1 Hand.subSt
 split
 ·exact Hand.st_fit (hf.mono (by omega)) (hf.setAmt _ _)
 ·exact hf.mono (by omega)
theorem Hand.dnS_fit {h:Hand} {s:St} {f:Nat} (hf:s.Fit f) (id:Int) (m:W4):∀ k,(h.dnS s id m k).Fit (f+8)
 | 0=>(Hand.dn1_fit hf id m).mono (by omega)
 | 1=>(del_fit (Hand.dn1_fit hf id m) _).mono (by omega)
 | 2=>(del_fit (del_fit (Hand.dn1_fit hf id m) _) _).mono (by omega)
 | _+3=>del_fit (del_fit (del_fit (Hand.dn1_fit hf id m) _) _) _
theorem Hand.dnSt_fit {h:Hand} {s:St} {f:Nat} (hf:s.Fit f) (id:Int) (m:W4):(h.dnSt s id m).Fit (f+10):=by
 unfold Hand.dnSt
 split
 ·exact (Hand.dnS_fit hf id m 3).setInt _ _
 ·exact hf.mono (by omega)
theorem xdone_q (w:World) (h:Hand) (s:St) (f:Nat) (id:Int) (m:W4) (hon:h.on=true) (hid:I63 id) (hmo:m.Ok) (hq:QSt w h s) (hf:s.Fit f) (hm:f < 1000000000) :
  Calls Tryz.prog 42 #[.pointer h.ptr,.int .i64 id,uV m] w fun e w'=>e = .returned (.tuple #[uV (xdnW s id m),.int .i64 (xdnE s id m)])∧QOn w h (h.dnSt s id m) w':=by
 have hB:=((HV.start hq).alloc (uO m)).alloc zO
 rw [World.size_alloc] at hB
 obtain ⟨x1,x2,x3,x4⟩:=ex_i63 s id
 obtain ⟨x5,x6⟩:=ex_woOk s id
 have hsz:∀ {s':St} {g:Nat},s'.Fit g→g < 2000000000→s'.size < 1000000000000:=fun h1 h2=>Nat.lt_of_le_of_lt h1.size (by omega)
 have HMD:Hid (∀ rs W,HV h w s rs W→Calls Tryz.prog 66 #[.pointer h.ptr] W fun e w'=>e = .returned (.bool true)∧HV h w s rs w'):=fun rs W hV=>hV.reads fun L' h1=>hmade_q W ⟨h.ptr,h.on,L'⟩ s hon h1
 have HGT:Hid (∀ rs W,HV h w s rs W→Calls Tryz.prog 44 #[.pointer h.ptr,.int .i64 id] W fun e w'=>e = .returned (.tuple #[.agg (s.ex id).L,.bool (s.exIs id)])∧HV h w s rs w'):=fun rs W hV=>hV.reads fun L' h1=>xGet_q W ⟨h.ptr,h.on,L'⟩ s f id hid h1 hf (by omega)
 have HPY:Hid (∀ rs W,HV h w s rs W→Calls Tryz.prog 13 #[.agg (s.ex id).L,uV m] W fun e w'=>e = .returned (uV (xdnA s id m))∧HV h w s rs w'):=fun rs W hV=>hV.reads fun L' h1=>pays_any (s.ex id) m x5 x6 hmo W
 have HK19:Hid (∀ W v,IntsAt W v [(s.ex id).sg]→Calls Tryz.prog 90 #[.int .i64 19,v] W fun e w'=>e = .returned (.string (keyL 19 [(s.ex id).sg]))∧Below W.heap.size W w'):=fun W v hv=>keyI1_any 19 (by decide) (by decide) _ x3 W v hv
 have HCS:Hid (∀ rs W,HV h w s rs W→Calls Tryz.prog 88 #[.pointer h.ptr,.string (keyL 19 [(s.ex id).sg]),uV (xdnA s id m)] W fun e w'=>e = .returned (.int .i64 (lessE' (s.amt (keyL 19 [(s.ex id).sg])) (xdnA s id m)))∧HV h w (h.dnS s id m 0) rs w'):=fun rs W hV=>QV.call hV fun L' h1=>cSub_q W ⟨h.ptr,h.on,L'⟩ s f _ _ (paysW_ok x5 m) h1 hf (by omega)
 have HKY:Hid (∀ t:Nat,1≤t→t≤255→∀ s' rs W,HV h w s' rs W→Calls Tryz.prog 90 #[.int .i64 t,.slice (some ⟨W.heap.size,0,none⟩) 1 1] (W.alloc (.cells #[.int .i64 id] 3)) fun e w'=>e = .returned (.string (keyL t [id]))∧HV h w s' rs w'):=fun t h1 h2 s' rs W hV=>(key1_any t h1 h2 id hid W).mono fun e w' ⟨he,hb⟩=>⟨he,QV.below hV hb⟩
 have HK20:Hid (∀ s' rs W,HV h w s' rs W→Calls Tryz.prog 90 #[.int .i64 20,.slice (some ⟨W.heap.size,0,none⟩) 1 1] (W.alloc (.cells #[.int .i64 (s.ex id).st] 3)) fun e w'=>e = .returned (.string (keyL 20 [(s.ex id).st]))∧HV h w s' rs w'):=fun s' rs W hV=>(key1_any 20 (by decide) (by decide) _ x1 W).mono fun e w' ⟨he,hb⟩=>⟨he,QV.below hV hb⟩
 have HQ:Hid (∀ k:Nat,k < 3→∃ t:Nat,(1≤t∧t≤255)∧(∀ w',(Instr.index 169 (.agg #[.int .i64 15,.int .i64 17,.int .i64 18]) (.int .i64 k)).run Tryz.prog w' = .ok (.int .i64 t) w')∧∀ rs W,HV h w (h.dnS s id m k) rs W→∃ ok,Calls Tryz.prog 85 #[.pointer h.ptr,.string (keyL t [id])] W fun e w'=>e = .returned (.bool ok)∧HV h w (h.dnS s id m (k+1)) rs w'):=fun k hk=>by
  have hd:∀ k' kk rs W,HV h w (h.dnS s id m k') rs W→Calls Tryz.prog 85 #[.pointer h.ptr,.string kk] W fun e w'=>e = .returned (.bool (getE (h.dnS s id m k').ents kk).isSome)∧HV h w ((h.dnS s id m k').del kk) rs w':=fun k' kk rs W hV=>QV.call hV fun L' h1=>hdel_q W ⟨h.ptr,h.on,L'⟩ _ _ hon h1 (hsz (Hand.dnS_fit hf id m k') (by omega))
  match k,hk with
  | 0,_=>exact ⟨15,by decide,idx3_0,fun rs W hV=>⟨_,hd 0 _ rs W hV⟩⟩
  | 1,_=>exact ⟨17,by decide,idx3_1,fun rs W hV=>⟨_,hd 1 _ rs W hV⟩⟩
  | 2,_=>exact ⟨18,by decide,idx3_2,fun rs W hV=>⟨_,hd 2 _ rs W hV⟩⟩
 have HIN:Hid (∀ rs W,HV h w (h.dnS s id m 3) rs W→Calls Tryz.prog 99 #[.pointer h.ptr,.string (keyL 20 [(s.ex id).st])] W fun e w'=>e = .returned (.int .i64 ((h.dnS s id m 3).int (keyL 20 [(s.ex id).st])))∧HV h w (h.dnS s id m 3) rs w'):=fun rs W hV=>hV.reads fun L' h1=>(h1.read (Hand.dnS_fit hf id m 3) (by omega)).int _
 have hn63:=int_lt63 (h.dnS s id m 3) (keyL 20 [(s.ex id).st])
 have HSI:Hid (∀ rs W,HV h w (h.dnS s id m 3) rs W→Calls Tryz.prog 114 #[.pointer h.ptr,.string (keyL 20 [(s.ex id).st]),.int .i64 ((((h.dnS s id m 3).int (keyL 20 [(s.ex id).st]):Nat):Int) - 1)] W fun e w'=>e = .returned (.tuple #[])∧HV h w (h.dn5 s id m) rs w'):=fun rs W hV=>QV.call hV fun L' h1=>hsetInt_q W ⟨h.ptr,h.on,L'⟩ _ _ _ hon (by omega) h1 (hsz (Hand.dnS_fit hf id m 3) (by omega))
 have hlaw:(s.exIs id=false→xdnE s id m=8∧xdnW s id m=(0,0,0,0)∧h.dnSt s id m=s)∧(s.exIs id=true→xdnE s id m=lessE' (s.amt (keyL 19 [(s.ex id).sg])) (xdnA s id m)∧(lessE' (s.amt (keyL 19 [(s.ex id).sg])) (xdnA s id m)=0→xdnW s id m=xdnA s id m∧h.dnSt s id m=h.dn5 s id m)∧(lessE' (s.amt (keyL 19 [(s.ex id).sg])) (xdnA s id m)≠0→xdnW s id m=(0,0,0,0)∧h.dnSt s id m=s∧h.dnS s id m 0=s)):=by
  refine ⟨fun h1 => ?_,fun h1 => ?_⟩
  ·have he:xdnE s id m=8:=by unfold xdnE; rw [if_neg (by rw [h1]; decide)]
   unfold xdnW Hand.dnSt
   rw [he,if_neg (by decide),if_neg (by decide)]
   exact ⟨rfl,rfl,rfl⟩
  ·have he:xdnE s id m=lessE' (s.amt (keyL 19 [(s.ex id).sg])) (xdnA s id m):=by unfold xdnE; rw [if_pos h1]
   unfold xdnW Hand.dnSt
   rw [he]
   refine ⟨rfl,fun h2=>by rw [if_pos h2,if_pos h2]; exact ⟨rfl,rfl⟩,fun h2 => ?_⟩
   rw [if_neg h2,if_neg h2]
   refine ⟨rfl,rfl,?_⟩
   show h.dn1 s id m=s
   unfold Hand.dn1 Hand.subSt
   rw [if_neg h2]
 have HLAW:=Lib.hid hlaw
 have HB:=Lib.hid hB
 have HQR:=Lib.hid hq
 clear hlaw hB hsz hq hf hm hid hmo x1 x2 x3 x4 x5 x6 hon
 generalize xdnE s id m=rE at *
 generalize xdnW s id m=rW at *
 generalize h.dnSt s id m=rS at *
 generalize lessE' (s.amt (keyL 19 [(s.ex id).sg])) (xdnA s id m)=eS at *
 generalize h.dn5 s id m=s5 at *
 obtain ⟨n20,hn20⟩:∃ n:Nat,n=(h.dnS s id m 3).int (keyL 20 [(s.ex id).st]):=⟨_,rfl⟩
 rw [← hn20] at HIN HSI hn63
 clear hn20
 obtain ⟨n21,hn21⟩:∃ n1:Int,n1=(n20:Int) - 1:=⟨_,rfl⟩
 have hwr:IntKind.i64.wrap ((n20:Int) - 1)=n21:=by rw [hn21,IntKind.wrap_i64]; omega
 have hwr2:wrap64 ((n20:Int) - 1)=n21:=by rw [hn21]; unfold wrap64; omega
 rw [← hn21] at HSI
 clear hn21 hn63
 generalize h.dnS s id m=dS at *
 generalize xdnA s id m=pa at *
 generalize s.exIs id=is at *
 obtain ⟨⟨xs,xo,xt,xb,W,M⟩,hx⟩:∃ x,x=s.ex id:=⟨_,rfl⟩
 rw [← hx] at HGT HPY HK19 HCS HK20 HIN HSI
 clear hx
 dsimp only [Ex.L] at HGT HPY HK19 HCS HK20 HIN HSI
 go_enter Tryz.func42,Tryz.ntmps42
 go_upto_region 1 with fail
 generalize hw1:(w.alloc (uO m)).alloc zO=w1 at *
 clear hw1
 have HG1:=Lib.hid (HGT.out _ _ HB.out)
 clear HB HGT
 go_wp2_with fail
 refine Calls.mono HG1.out ?_
 rintro e w2 ⟨rfl,hB2⟩
 have HB3:=Lib.hid (hB2.alloc (.cells #[.int .i64 xs,.int .i64 xo,.int .i64 xt,.int .i64 xb,.int .u64 W.1,.int .u64 W.2.1,.int .u64 W.2.2.1,.int .u64 W.2.2.2,.int .u64 M.1,.int .u64 M.2.1,.int .u64 M.2.2.1,.int .u64 M.2.2.2] 26))
 have HNE1:Hid (w.heap.size+1≠w2.heap.size∧w.heap.size≠w2.heap.size):=by
  have h1:=lt_of_at (hB2.row (g:=w.heap.size+1) (o:=zO) (by simp))
  exact ⟨by omega,by omega⟩
 clear HG1 hB2
 go_upto_region 2 with fail
 generalize hw3:w2.alloc (.cells #[.int .i64 xs,.int .i64 xo,.int .i64 xt,.int .i64 xb,.int .u64 W.1,.int .u64 W.2.1,.int .u64 W.2.2.1,.int .u64 W.2.2.2,.int .u64 M.1,.int .u64 M.2.1,.int .u64 M.2.2.1,.int .u64 M.2.2.2] 26)=w3 at *
 generalize w2.heap.size=gx at *
 clear hw3
 have HM3:=Lib.hid (HMD.out _ _ HB3.out)
 clear HB3 HMD
 go_wp2_with fail
 refine Calls.mono HM3.out ?_
 rintro e w4 ⟨rfl,hB4⟩
 have HB4:=Lib.hid hB4
 clear hB4 HM3
 cases is with
 | false =>
  obtain ⟨rfl,rfl,rfl⟩:=HLAW.out.1 (by trivial)
  obtain ⟨z0,z1,z2,z3,z4,z5,z6,z7⟩:=row4 (HB4.out.u4 (g:=w.heap.size+1) (x:=(0,0,0,0)) (by simp))
  have HZ:=Lib.hid (HB4.out.put4 (g:=w.heap.size+1) (y:=(0,0,0,0)) (0,0,0,0) (by simp) [] (fun _ hx=>by cases hx))
  clear HB4 HLAW HPY HK19 HCS HKY HK20 HQ HIN HSI
  go_wp2_with fail
  refine bodyPost_ret (results_cell_row2 rfl _ _ (w.heap.size+1) 24 (uL (0,0,0,0)) (0,0) _ rfl (HZ.out.row (by simp)) Tryz.underlying24 rfl (by kernel_rfl)) rfl ?_
  exact ⟨rfl,HV.done HZ.out⟩
 | true =>
  obtain ⟨hE,hE0,hE1⟩:=HLAW.out.2 (by trivial)
  have hE2:=hE.symm
  subst hE2
  clear hE
  have HE:=Lib.hid (And.intro hE0 hE1)
  clear hE0 hE1 HLAW
  obtain ⟨⟨k0,k1,k2,k3⟩,⟨p0,p1,p2,p3⟩,⟨q0,q1,q2,q3⟩⟩:=rowE (x:=⟨xs,xo,xt,xb,W,M⟩) (HB4.out.row (g:=gx) (o:=.cells #[.int .i64 xs,.int .i64 xo,.int .i64 xt,.int .i64 xb,.int .u64 W.1,.int .u64 W.2.1,.int .u64 W.2.2.1,.int .u64 W.2.2.2,.int .u64 M.1,.int .u64 M.2.1,.int .u64 M.2.2.1,.int .u64 M.2.2.2] 26) (by simp))
  obtain ⟨m0,m1,m2,m3,_⟩:=row4 (HB4.out.u4 (g:=w.heap.size) (x:=m) (by simp))
  have HP4:=Lib.hid (HPY.out _ _ HB4.out)
  clear HB4 HPY
  go_wp2_with fail
  refine Calls.mono HP4.out ?_
  rintro e w5 ⟨rfl,hB5⟩
  have HB6:=Lib.hid (hB5.alloc (uO pa))
  clear HP4 hB5 k0 k1 k2 k3 p0 p1 p2 p3 q0 q1 q2 q3 m0 m1 m2 m3
  go_upto_region 7 with fail
  generalize hw6:w5.alloc (uO pa)=w6 at *
  generalize w5.heap.size=ga at *
  clear hw6
  have HB0:=Lib.hid (bl_drew (Below.refl w6.heap.size w6))
  refine wp_region_rely_tail 6 [[],[],[1],[1,2],[1,2,3],[],[0,1,2,3,4,5],[0,1,2,3,4,5,6]]
   [rgC (Below w6.heap.size w6),rgV 0 (.pointer h.ptr),rgV 1 (.pointer (some ⟨gx,2,none⟩)),rgV 2 (.int .i64 xt),rgI 3 ([xt]),rgV 4 (.string (keyL 19 [xt])),rgV 5 (uV pa)] _ (by kernel_rfl) (by kernel_rfl) (by decide) (by kernel_rfl) (by kernel_rfl)
   (fun vs=>by simp only [rgAct,rgPut,List.setIfInBounds_toArray,List.set_cons_zero,List.set_cons_succ]; exact rfl)
   ⟨fun _ _ _ hb h=>bl_then h hb,rgV_st,rgV_st,rgV_st,rgI_st,rgV_st,rgV_st,trivial⟩ ?_ ?_ ?_
  ·refine rgAll_yes rfl HB0.out ?_
   iterate 6 refine rgAll_no rfl ?_
   exact trivial
  ·refine ⟨?_,?_,?_,?_,?_,?_,trivial⟩
   ·intro vs w7 hA K hK
    obtain ⟨_,_⟩:=hA
    refine rg_move rfl (.inl rfl) rfl (hK _ _ (.inl (Below.refl _ _)) ?_)
    exact rgNew_one 1 rfl fun _=>rfl
   ·intro vs w7 hA K hK
    obtain ⟨_,_⟩:=hA
    refine rg_ex2 rfl rfl rfl (hK _ _ (.inl (Below.refl _ _)) ?_)
    exact rgNew_one 2 rfl fun _=>rfl
   ·intro vs w7 hA K hK
    obtain ⟨hC,e1,_⟩:=hA
    refine rg_loadN rfl rfl (rg1 e1) (rowE (x:=⟨xs,xo,xt,xb,W,M⟩) ((HB6.out.below hC).row (g:=gx) (o:=exO ⟨xs,xo,xt,xb,W,M⟩) (by simp [Ex.L]))).1.2.2.1 (hK _ _ (.inl (Below.refl _ _)) ?_)
    exact rgNew_one 3 rfl fun _=>rfl
   ·intro vs w7 hA K hK
    obtain ⟨_,_,e2,_⟩:=hA
    refine rg_ints1 rfl rfl (rg1 e2) (hK _ _ (.inl (bl_alloc (Below.refl _ _) _)) ?_)
    iterate 4 refine rgNew_no rfl ?_
    refine rgNew_yes rfl (fun _=>one_ints _ _) ?_
    iterate 2 refine rgNew_no rfl ?_
    exact trivial
   ·intro vs w7 hA K hK
    obtain ⟨_,_,_,i3,_⟩:=hA
    refine rg_fn rfl rfl rfl (by kernel_rfl) rfl (Calls.mono (HK19.out _ _ i3) ?_)
    rintro e w2 ⟨rfl,hb⟩
    refine ⟨_,rfl,hK _ _ (.inl hb) ?_⟩
    exact rgNew_one 5 rfl fun _=>rfl
   ·intro vs w7 hA K hK
    obtain ⟨hC,_⟩:=hA
    refine rg_loadU rfl rfl rfl ((HB6.out.below hC).u4 (g:=ga) (x:=pa) (by simp)) (hK _ _ (.inl (Below.refl _ _)) ?_)
    exact rgNew_one 6 rfl fun _=>rfl
  ·intro vs w7 hA
   obtain ⟨hC,e0,e1,e2,i3,e4,e5,_⟩:=hA
   have e0:=rg1 e0
   have e1:=rg1 e1
   have e2:=rg1 e2
   have e4:=rg1 e4
   have e5:=rg1 e5
   refine rgTail_cons ?_
   refine rg_fn rfl rfl rfl (by kernel_rfl) (show [vs 0,vs 4,vs 5]=_ from by rw [e0,e4,e5]) (Calls.mono (HCS.out _ _ (HB6.out.below hC)) ?_)
   rintro e w9 ⟨rfl,hB9⟩
   refine ⟨_,rfl,?_⟩
   refine rgTail_cons ?_
   refine rg_move rfl (.inr rfl) rfl ?_
   refine rgTail_nil ?_
   simp only [rgSet,Nat.reduceEqDiff,↓reduceIte,e0,e1,e2,e4,e5]
   have HB9:=Lib.hid hB9
   clear hB9 HB0 HB6 HK19 HCS e0 e1 e2 i3 e4 e5 hC
   by_cases he0:eS=0
   ·obtain ⟨rfl,rfl⟩:=HE.out.1 he0
    subst he0
    clear HE
    go_wp2_with fail
    go_loopw [45] (fun iv wr=>∃ k:Nat,iv = .int .i64 k∧k≤3∧HV h w (dS k) [(ga,uO rW),(gx,exO ⟨xs,xo,xt,xb,W,M⟩),(w.heap.size+1,zO),(w.heap.size,uO m)] wr) (fun iv _=>3 - (intOf iv).toNat)
    case atStart=>exact ⟨0,rfl,by omega,HB9.out⟩
    case round =>
     obtain ⟨k,rfl,hk,hA⟩:=hrel
     clear HB9
     by_cases hlt:k < 3
     ·obtain ⟨t,⟨ht1,ht2⟩,hidx,hdel⟩:=HQ.out k hlt
      have HK:=Lib.hid (HKY.out t ht1 ht2 _ _ _ hA)
      have HD:=Lib.hid hdel
      clear hdel HQ HKY hA ht1 ht2 HIN HSI HK20
      generalize ((t:Nat):Int)=tt at *
      go_wp2_with fail
      refine Calls.mono HK.out ?_
      rintro e w10 ⟨rfl,hB10⟩
      obtain ⟨ok,hD⟩:=HD.out _ _ hB10
      have HDD:=Lib.hid hD
      clear hD HD HK hB10 hidx
      go_wp2_with fail
      refine Calls.mono HDD.out ?_
      rintro e w11 ⟨rfl,hB11⟩
      have HB11:=Lib.hid hB11
      clear hB11 HDD
      go_wp2_with fail
      go_roundw
      case rel=>exact ⟨k+1,by go_num,by omega,HB11.out⟩
      case measure=>simp [intOf]; omega
     ·obtain rfl:k=3:=by omega
      have HB12:=Lib.hid hA
      clear hA HQ HKY hlt hk
      obtain ⟨⟨k0,k1,k2,k3⟩,_,_⟩:=rowE (x:=⟨xs,xo,xt,xb,W,M⟩) (HB12.out.row (g:=gx) (o:=exO ⟨xs,xo,xt,xb,W,M⟩) (by simp))
      have HK:=Lib.hid (HK20.out _ _ _ HB12.out)
      clear HB12 HK20
      go_wp2_with fail
      refine Calls.mono HK.out ?_
      rintro e w13 ⟨rfl,hB13⟩
      have HI:=Lib.hid (HIN.out _ _ hB13)
      clear hB13 HIN HK k0 k1 k2 k3
      go_wp2_with fail
      refine Calls.mono HI.out ?_
      rintro e w14 ⟨rfl,hB14⟩
      have HS:=Lib.hid (HSI.out _ _ hB14)
      clear hB14 HSI HI
      go_wp2_with fail
      refine Calls.mono HS.out ?_
      rintro e w15 ⟨rfl,hB15⟩
      obtain ⟨y0,y1,y2,y3,_⟩:=row4 (hB15.u4 (g:=ga) (x:=rW) (by simp))
      obtain ⟨z0,z1,z2,z3,z4,z5,z6,z7⟩:=row4 (hB15.u4 (g:=w.heap.size+1) (x:=(0,0,0,0)) (by simp))
      have HZ:=Lib.hid (hB15.put4 (g:=w.heap.size+1) (y:=(0,0,0,0)) rW (by simp) [] (fun _ hx=>by cases hx))
      clear hB15 HS
      go_wp2_with fail
      try rw [Exit.noGoto_ret]
      refine bodyPost_ret (results_cell_row2 rfl _ _ (w.heap.size+1) 24 (uL rW) (0,0) _ rfl (HZ.out.row (by simp)) Tryz.underlying24 rfl (by kernel_rfl)) rfl ?_
      exact ⟨rfl,HV.done HZ.out⟩
   ·obtain ⟨rfl,rfl,hs0⟩:=HE.out.2 he0
    rw [hs0] at HB9
    have he1:(eS == 0)=false:=by rw [beq_eq_false_iff_ne]; exact he0
    obtain ⟨z0,z1,z2,z3,z4,z5,z6,z7⟩:=row4 (HB9.out.u4 (g:=w.heap.size+1) (x:=(0,0,0,0)) (by simp))
    have HZ:=Lib.hid (HB9.out.put4 (g:=w.heap.size+1) (y:=(0,0,0,0)) (0,0,0,0) (by simp) [] (fun _ hx=>by cases hx))
    clear HB9 HE HKY HK20 HQ HIN HSI he0 hs0
    go_wp2_with fail
    refine bodyPost_ret (results_cell_row2 rfl _ _ (w.heap.size+1) 24 (uL (0,0,0,0)) (0,0) _ rfl (HZ.out.row (by simp)) Tryz.underlying24 rfl (by kernel_rfl)) rfl ?_
    exact ⟨rfl,HV.done HZ.out⟩
end Go.Proofs.YtnkilceibkkjlaaGreat
