/- What is proved here: a drawn region whose values are known ahead but for some, with whatever holds of what is listed, of the values and of the world. Conditions: none. alloc.Pending, over any store that is read. Its condition: ints below 2^63. alloc where no store was made: Modify, Mature, Waits. Its condition: ints below 2^63. package exit's small functions of the program: wad.Scale, u256.Min, factor.Scaled, Pays, Le -/
import Derived.Test.YtnkilceibkkjlaaGreatIRelyC
import Derived.Test.YtnkilceibkkjlaaGreatIHoldD
import Derived.Test.YtnkilceibkkjlaaGreatIMUp
import Derived.Test.YtnkilceibkkjlaaGreatIHoldB
set_option maxRecDepth 100000
set_option maxHeartbeats 16000000
namespace Go.Proofs.YtnkilceibkkjlaaGreat
open Go.RowKit
def reEq (un:List Nat) (vs:Nat→Value) (cs:List Value):List Nat→Prop
 | []=>True
 | j :: l=>(bif un.contains j then True else vs j=cs.getD j undef)∧reEq un vs cs l
theorem reEq_of {un:List Nat} {vs:Nat→Value} {cs:List Value}:∀ {l:List Nat},(∀ j∈l,bif un.contains j then True else vs j=cs.getD j undef)→reEq un vs cs l
 | [],_=>trivial
 | j :: _,h=>⟨h j (by simp),reEq_of fun i hi=>h i (by simp [hi])⟩
def reSteps (P:Program) (ops:Array Oper) (pr:List (List Nat)) (cs:List Value) (un:List Nat) (I:(Nat→Bool)→(Nat→Value)→World→Prop) (fr:(Nat→Value)→Act):Nat→List Oper→Prop
 | _,[]=>True
 | k,o :: l=>(∀ L vs w,reEq un vs cs (pr.getD k [])→I L vs w→(∀ j,(pr.getD k []).contains j=true→L j=true)→L k=false→(∀ j,(pr.getD j []).contains k=true→L j=false)→rgDo P ops o (fr vs) w fun v w'=>(bif un.contains k then True else v=cs.getD k undef)∧I (fun j=>if j=k then true else L j) (rgSet vs k v) w')∧reSteps P ops pr cs un I fr (k+1) l
theorem reSteps_at {P:Program} {ops:Array Oper} {pr:List (List Nat)} {cs:List Value} {un:List Nat} {I:(Nat→Bool)→(Nat→Value)→World→Prop} {fr:(Nat→Value)→Act}:∀ {l:List Oper} {k:Nat},reSteps P ops pr cs un I fr k l→∀ (i:Nat) (o:Oper),l[i]? = some o →
  ∀ L vs w,reEq un vs cs (pr.getD (k+i) [])→I L vs w→(∀ j,(pr.getD (k+i) []).contains j=true→L j=true)→L (k+i)=false→(∀ j,(pr.getD j []).contains (k+i)=true→L j=false)→rgDo P ops o (fr vs) w fun v w'=>(bif un.contains (k+i) then True else v=cs.getD (k+i) undef)∧I (fun j=>if j=k+i then true else L j) (rgSet vs (k+i) v) w'
 | [],_,_,i,o,h=>by simp at h
 | x :: l,k,h,0,o,ho=>by
  simp only [List.getElem?_cons_zero,Option.some.injEq] at ho
  subst ho; exact h.1
 | x :: l,k,h,i+1,o,ho=>by
  have:=reSteps_at h.2 i o (by simpa using ho)
  rwa [show k+1+i=k+(i+1) by omega] at this
theorem wp_region_free {P:Program} {id:Nat} {Q:Exit→Act→World→Prop} {a:Act} {w:World} {l:List Oper} (pr:List (List Nat)) (cs:List Value) (un:List Nat) (I:(Nat→Bool)→(Nat→Value)→World→Prop) (fr:(Nat→Value)→Act) {frc:(Nat→Value)→Act}
  (hm:P.follows .mixedOrders=true) (hB:rgB l.toArray pr a.tmps.size=true) (hpl:decide (pr.length≤l.length)=true) (hfr:∀ vs,rgAct l a vs=fr vs) (hfc:∀ vs:Nat→Value,fr (fun j=>bif un.contains j then vs j else cs.getD j undef)=frc vs)
  (h0:I (fun _=>false) (fun _=>undef) w.drew)
  (hs:reSteps P l.toArray pr cs un I fr 0 l)
  (hend:∀ L vs w,I L vs w→(∀ j,j < l.length→L j=true)→Q .normal (frc vs) w):(Code.region id l.toArray true).wp P Q a w:=by
 refine wp_region_any hm ?_
 have hok:=rgB_ok hB
 have hsz:l.toArray.size=l.length:=by simp
 have hpl:=of_decide_eq_true hpl
 refine wpAny_rely hok (fun L vs w=>(∀ j,L j=true→bif un.contains j then True else vs j=cs.getD j undef)∧I L vs w∧∀ j,l.length≤j→L j=false) ?_ ?_ l.toArray.size (Array.replicate l.toArray.size false) (fun _=>undef) a w.drew ?_ ?_ ?_
 ·intro i o ho L vs w hI hpre hLi hpost
  obtain ⟨hv,hP,hbig⟩:=hI
  have hil:i < l.length:=by rw [← hsz]; exact (Array.getElem?_eq_some_iff.1 ho).1
  have hi:=reSteps_at hs i o (by simpa using ho)
  rw [Nat.zero_add] at hi
  rw [show rgAct l.toArray.toList a vs=rgAct l a vs from rfl,hfr vs]
  refine rgDo_mono (fun v w' he=>⟨fun j hj => ?_,he.2,fun j hj => ?_⟩) (hi L vs w (reEq_of fun j hj=>hv j (hpre j hj)) hP (fun j hj=>hpre j (by simpa using hj)) hLi (fun j hj => ?_))
  ·by_cases hji:j=i
   ·subst hji
    have:=he.1
    simpa [rgSet] using this
   ·have:(if j=i then true else L j)=true:=hj
    rw [if_neg hji] at this
    have h2:=hv j this
    simpa [rgSet,hji] using h2
  ·show (if j=i then true else L j)=false
   rw [if_neg (by omega)]
   exact hbig j hj
  ·by_cases hjl:j < l.length
   ·exact hpost j l[j] (by simp [hjl]) (by simpa using hj)
   ·exact hbig j (by omega)
 ·intro L vs w hI hall
  obtain ⟨hv,hP,_⟩:=hI
  have e:rgAct l.toArray.toList a vs=frc vs:=by
   rw [← hfc,← hfr]
   show ({ a with tmps:=_ }:Act) = { a with tmps:=_ }
   congr 1
   refine rgPut_congr l 0 _ _ _ fun j hj => ?_
   rw [Nat.zero_add]
   have h1:=hv j (hall j (by rw [hsz]; exact hj))
   cases hc:un.contains j with
   | true=>rfl
   | false=>rw [hc] at h1; exact h1
  rw [e]
  exact hend L vs w hP fun j hj=>hall j (by rw [hsz]; exact hj)
 ·refine ⟨rfl,rfl,fun t ht => ?_,by simp,fun j oj _ hl => ?_⟩
  ·refine (rgPut_ne _ _ _ _ _ fun j o hj hd => ?_).symm
   have:=ht j o (by simpa using hj) hd
   rw [getD_replicate_false] at this; cases this
  ·rw [getD_replicate_false] at hl; cases hl
 ·refine Nat.le_trans (List.length_filter_le _ _) (by simp)
 ·have e:(fun j=>(Array.replicate l.toArray.size false).getD j false)=fun _=>false:=by funext j; rw [getD_replicate_false]
  refine ⟨fun j hj => ?_,?_,fun j _ => ?_⟩
  ·have:(Array.replicate l.toArray.size false).getD j false=true:=hj
   rw [getD_replicate_false] at this; cases this
  ·rw [e]; exact h0
  ·show (Array.replicate l.toArray.size false).getD j false=false
   rw [getD_replicate_false]
theorem rgE_ints1 {ops:Array Oper} {o:Oper} {a:Act} {w:World} {K:Value→World→Prop} {x:Operand} {m:Int} (hg:Region.wanted o (yielded ops a.tmps)=true) (ho:o.op = .buildSlice 75 1 #[(0,x)]) (hx:a.eval x = .int .i64 m)
  (hk:K (.slice (some ⟨w.heap.size,0,none⟩) 1 1) (w.alloc (.cells #[.int .i64 m] 3))):rgDo Tryz.prog ops o a w K:=by
 refine rg_value' hg ?_ hk
 unfold execOp
 simp only [ho,hx,List.map_toArray,List.map_cons,List.map_nil]
 go_simp
theorem rg_append {P:Program} {ops:Array Oper} {o:Oper} {a:Act} {w:World} {K:Value→World→Prop} (hgd:Region.wanted o (yielded ops a.tmps)=true) (s x:Operand) (t t2:TypeId) (ho:o.op = .call { callee:=.builtin .append,args:=#[s,x],argTypes:=#[t,t2] })
  {e:TypeId} {z:Value} {size bytes:Nat} (T:SliceT P t e z size bytes) (T2:SliceT P t2 e z size bytes)
  {v:Value} {n:Nat} {xs:List Value} (hs:a.eval s=v) (hown:Own w e size v n xs)
  {ad:Addr} {m c:Nat} (news:List Value) (hx:a.eval x = .slice (some ad) m c) (hl:news.length=m*size) (hnews:∀ j u,news[j]? = some u→w.cell? (ad.add j)=some u) (h1:∀ u∈news,u.oneCell'=true)
  (h63:n+m≤maxLen) (hbytes:(n+m)*bytes≤140737488355328)
  (hk:∀ v' w',Appended w e size v n m xs news v' w'→K v' w'):rgDo P ops o a w K:=by
 obtain ⟨v',w',hr,hA⟩:=run_append_T T T2 o.type hown news hl hnews h1 h63 hbytes
 exact rg_value' hgd (exec_append ho hs hx hr) (hk v' w' hA)
def PSt (w:World) (x:I4) (g:Nat) (a b:Nat) (W:World):Prop:=Below w.heap.size w W∧(W.cell? ⟨g,0,none⟩=some (.int .i64 a)∧W.cell? ⟨g,1,none⟩=some (.int .i64 b))∧IdC w.heap.size x W∧W.heap[w.heap.size+1]? = some (.cells (uL (0,0,0,0)) 24 (0,0))
theorem PSt.below {w:World} {x:I4} {g a b:Nat} {W W':World} (h:PSt w x g a b W) (hb:Below W.heap.size W W'):PSt w x g a b W' :=
 ⟨bl_then h.1 hb,⟨bl_cell hb h.2.1.1,bl_cell hb h.2.1.2⟩,idc_below h.2.2.1 hb,(hb.block _ (Array.getElem?_eq_some_iff.1 h.2.2.2).1).trans h.2.2.2⟩
theorem PSt.out {w:World} {x:I4} {g a b:Nat} {W:World} (h:PSt w x g a b W):(W.cell? ⟨g,0,none⟩=some (.int .i64 a)∧W.cell? ⟨g,1,none⟩=some (.int .i64 b))∧IdC w.heap.size x W∧W.frozen? ⟨w.heap.size+1,0,none⟩=false∧W.frozen? ⟨w.heap.size+1,1,none⟩=false∧W.frozen? ⟨w.heap.size+1,2,none⟩=false∧W.frozen? ⟨w.heap.size+1,3,none⟩=false:=by
 obtain ⟨_,_,_,_,f0,f1,f2,f3⟩:=row4 h.2.2.2
 exact ⟨h.2.1,h.2.2.1,f0,f1,f2,f3⟩
theorem pending_any (w:World) (q:Option Addr) (s:St) (x:I4) (hx:x.Ok) (h:ReadAt w.heap.size w q s):Calls Tryz.prog 20 #[.pointer q,idV x] w fun e w'=>e = .returned (.tuple #[.int .i64 (pend s x).1,uV (pend s x).2.1,.int .i64 (pend s x).2.2])∧Below w.heap.size w w':=by
 have hrow:((w.alloc (.cells (idL x) 34)).alloc (.cells (uL (0,0,0,0)) 24)).heap[w.heap.size]? = some (.cells (idL x) 34 (0,0)):=by
  rw [heap_alloc_old _ _ (by simp)]; exact heap_alloc_new w (.cells (idL x) 34)
 have hc:IdC w.heap.size x ((w.alloc (.cells (idL x) 34)).alloc (.cells #[.int .u64 0,.int .u64 0,.int .u64 0,.int .u64 0] 24)):=idc_row hrow
 obtain ⟨q0,q1,q2,q3⟩:=hc
 have HC:Hid (Calls Tryz.prog 65 #[idV x,.int .i64 30] ((w.alloc (.cells (idL x) 34)).alloc (.cells (uL (0,0,0,0)) 24)) fun e w1=>e = .returned (.string (aKey 30 x)) ∧
  Calls Tryz.prog 75 #[.pointer q,.string (aKey 30 x)] w1 fun e w2=>∃ v,e = .returned v∧Own w2 3 1 v (rowOf (s.val (aKey 30 x))).length (intsV (rowOf (s.val (aKey 30 x))))∧(∀ g,v.ownBlock=some g→w.heap.size+1 < g)∧Below w.heap.size w w2∧IdC w.heap.size x w2∧w2.heap[w.heap.size+1]? = some (.cells (uL (0,0,0,0)) 24 (0,0))):=by
  refine (akey_any 30 (by decide) (by decide) x hx _).mono fun e w1 ⟨he,hb⟩=>⟨he,?_⟩
  have hi1:IdC w.heap.size x w1:=idc_below (idc_row hrow) hb
  have hsz:=hb.size
  simp only [World.size_alloc] at hsz
  obtain ⟨hb1,hr1⟩:=newRow2 _ _ hb
  refine ((h.below hb1).row (aKey 30 x)).mono fun e w2 ⟨v,he,ho,hg,hb2⟩=>⟨v,he,ho,fun g hgg=>(by have:=hg g hgg; omega),bl_then hb1 hb2,idc_below hi1 hb2,(hb2.block _ (Array.getElem?_eq_some_iff.1 hr1).1).trans hr1⟩
 have HA:Hid (∀ W,Below w.heap.size w W→Calls Tryz.prog 64 #[.pointer q,.string (aKey 31 x)] W fun e w2=>e = .returned (uV (toAmt (s.val (aKey 31 x))))∧Below W.heap.size W w2):=fun W hb=>((h.below hb).up hb.size).amount _
 have HP:Hid (pend s x=pendOf (rowOf (s.val (aKey 30 x))) (toAmt (s.val (aKey 31 x)))):=rfl
 have HK:Hid (∀ W,Calls Tryz.prog 65 #[idV x,.int .i64 31] W fun e w'=>e = .returned (.string (aKey 31 x))∧Below W.heap.size W w'):=fun W=>akey_any 31 (by decide) (by decide) x hx W
 clear hrow h
 generalize toAmt (s.val (aKey 31 x))=y at *
 generalize rowOf (s.val (aKey 30 x))=l at *
 generalize aKey 30 x=k at *
 generalize aKey 31 x=k2 at *
 generalize pend s x=p at *
 by_cases h2:l.length=2
 ·obtain ⟨a,b,rfl⟩:∃ a b,l = [a,b]:=by
   match l,h2 with
   | [a,b],_=>exact ⟨a,b,rfl⟩
  have hp:p=(a,y,b):=HP.out
  subst hp
  clear h2 HP
  go_enter Tryz.func20,Tryz.ntmps20
  go_wp2_with fail
  refine Calls.mono HC.out ?_
  rintro e w1 ⟨rfl,hD⟩
  have HD:=Lib.hid hD
  clear hD HC
  go_wp2_with fail
  refine Calls.mono HD.out ?_
  rintro e w2 ⟨v,rfl,ho,hgn,hb2,hI2,hr2⟩
  obtain ⟨g,c,rfl,c0,c1⟩:=own_two ho
  have hg1:w.heap.size+1 < g:=hgn g rfl
  have hP:PSt w x g a b w2:=⟨hb2,⟨c0,c1⟩,hI2,hr2⟩
  have hPd:PSt w x g a b w2.drew:=⟨bl_drew hb2,⟨c0,c1⟩,hI2,hr2⟩
  have HP:=Lib.hid hPd
  obtain ⟨_,⟨i0,i1,i2,i3⟩,f0,f1,f2,f3⟩:=hP.out
  have n1:g≠w.heap.size+1:=by omega
  have n2:=Ne.symm n1
  clear HD ho hgn hb2 hI2 hr2 hP hPd
  go_wp2_with fail
  go_region_held3 (fun w'=>w'.cell? ⟨g,0,none⟩=some (.int .i64 a)∧w'.cell? ⟨g,1,none⟩=some (.int .i64 b)∧w'.cell? ⟨w.heap.size,0,none⟩=some (.int .i64 x.1)∧w'.cell? ⟨w.heap.size,1,none⟩=some (.int .i64 x.2.1)∧w'.cell? ⟨w.heap.size,2,none⟩=some (.int .i64 x.2.2.1)∧w'.cell? ⟨w.heap.size,3,none⟩=some (.int .i64 x.2.2.2)∧w'.frozen? ⟨w.heap.size+1,0,none⟩=false∧w'.frozen? ⟨w.heap.size+1,1,none⟩=false∧w'.frozen? ⟨w.heap.size+1,2,none⟩=false∧w'.frozen? ⟨w.heap.size+1,3,none⟩=false) (first | assumption | go_keep)
   (first
    | (go_at_call 65; refine Calls.mono (HK.out _) ?_; rintro e w3 ⟨rfl,hb3⟩; have HP3:=Lib.hid (HP.out.below hb3); obtain ⟨⟨d0,d1⟩,⟨j0,j1,j2,j3⟩,e0,e1,e2,e3⟩:=HP3.out.out)
    | (go_at_call 64; refine Calls.mono (HA.out _ HP3.out.1) ?_; rintro e w4 ⟨rfl,hb4⟩; have HP4:=Lib.hid (HP3.out.below hb4); obtain ⟨⟨m0,m1⟩,⟨l0,l1,l2,l3⟩,_⟩:=HP4.out.out; obtain ⟨t0,t1,t2,t3,k0,k1,k2,k3⟩:=row4 HP4.out.2.2.2))
  all_goals
   go_wp2_with fail
   refine bodyPost_ret (results_tmp_row_tmp rfl _ _ (w.heap.size+1) 24 (uL y) (0,0) _ rfl (put4 HP4.out.2.2.2 y) Tryz.underlying24 rfl (by kernel_rfl)) rfl ?_
   exact ⟨rfl,put4_below HP4.out.1 (by omega) _ _ _ _⟩
 ·have hp:p=(0,(0,0,0,0),0):=by
   rw [HP.out]; unfold pendOf
   match l,h2 with
   | [],_=>rfl
   | [_],_=>rfl
   | _ :: _ :: _ :: _,_=>rfl
  subst hp
  have HC1:Hid (Calls Tryz.prog 65 #[idV x,.int .i64 30] ((w.alloc (.cells (idL x) 34)).alloc (.cells (uL (0,0,0,0)) 24)) fun e w1=>e = .returned (.string k) ∧
   Calls Tryz.prog 75 #[.pointer q,.string k] w1 fun e w2=>∃ ad c,e = .returned (.slice ad l.length c)∧Below w.heap.size w w2∧w2.heap[w.heap.size+1]? = some (.cells (uL (0,0,0,0)) 24 (0,0))):=by
   refine HC.out.mono fun e w1 ⟨he,h1⟩=>⟨he,h1.mono fun e w2 ⟨v,he,hO,_,hb,_,hr⟩ => ?_⟩
   obtain ⟨ad,c,hu,_⟩:=hO.form
   subst hu
   exact ⟨ad,c,he,hb,hr⟩
  have hne:((l.length:Int) == 2)=false:=beq_eq_false_iff_ne.2 (by omega)
  clear HC HP h2
  generalize l.length=ln at *
  go_enter Tryz.func20,Tryz.ntmps20
  go_wp2_with fail
  refine Calls.mono HC1.out ?_
  rintro e w1 ⟨rfl,hD⟩
  have HD:=Lib.hid hD
  clear hD HC1
  go_wp2_with fail
  refine Calls.mono HD.out ?_
  rintro e w2 ⟨ad,c,rfl,hb2,hrow⟩
  have HR:=Lib.hid hrow
  obtain ⟨_,_,_,_,r0,r1,r2,r3⟩:=row4 hrow
  clear hrow HD
  go_wp2_with fail
  refine bodyPost_ret (results_tmp_row_tmp rfl _ _ (w.heap.size+1) 24 (uL (0,0,0,0)) (0,0) _ rfl (put4 HR.out (0,0,0,0)) Tryz.underlying24 rfl (by kernel_rfl)) rfl ?_
  exact ⟨rfl,put4_below hb2 (by omega) _ _ _ _⟩
abbrev chL (a b:W4) (x y z:Int) (t:Bool):Array Value:=#[.int .u64 a.1,.int .u64 a.2.1,.int .u64 a.2.2.1,.int .u64 a.2.2.2,.int .u64 b.1,.int .u64 b.2.1,.int .u64 b.2.2.1,.int .u64 b.2.2.2,.int .i64 x,.int .i64 y,.int .i64 z,.bool t]
abbrev chV (a b:W4) (x y z:Int) (t:Bool):Value:=.agg (chL a b x y z t)
abbrev qL (q:Option Addr) (t:Int) (v:Value) (a b:Int):Array Value:=#[.pointer q,.int .i64 t,v,.int .i64 a,.int .i64 b]
theorem aRow5 {w:World} {g:Nat} {a b c d e:Value} {t:TypeId} (h:w.heap[g]? = some (.cells #[a,b,c,d,e] t (0,0))):(w.cell? ⟨g,0,none⟩=some a∧w.cell? ⟨g,1,none⟩=some b∧w.cell? ⟨g,2,none⟩=some c∧w.cell? ⟨g,3,none⟩=some d∧w.cell? ⟨g,4,none⟩=some e)∧w.frozen? ⟨g,0,none⟩=false∧w.frozen? ⟨g,1,none⟩=false∧w.frozen? ⟨g,2,none⟩=false∧w.frozen? ⟨g,3,none⟩=false∧w.frozen? ⟨g,4,none⟩=false :=
 ⟨⟨by rw [cell_of_row _ _ _ _ _ _ h]; rfl,by rw [cell_of_row _ _ _ _ _ _ h]; rfl,by rw [cell_of_row _ _ _ _ _ _ h]; rfl,by rw [cell_of_row _ _ _ _ _ _ h]; rfl,by rw [cell_of_row _ _ _ _ _ _ h]; rfl⟩,frozen_of_row _ _ _ _ _ h,frozen_of_row _ _ _ _ _ h,frozen_of_row _ _ _ _ _ h,frozen_of_row _ _ _ _ _ h,frozen_of_row _ _ _ _ _ h⟩
theorem heap_drew' (w:World):w.drew.heap=w.heap:=rfl
theorem rowOf_empty:rowOf emptyB = []:=by unfold rowOf emptyB; rfl
theorem of_not (w:World) (q:Option Addr) (t:Nat) (ht1:1≤t) (ht2:t≤255) (ad:Option Addr) (c:Nat) (l:List Int) (hv:IntsAt w (.slice ad l.length c) l) (hl:l.length < 1000000) (hr:∀ n∈l,n < 9223372036854775808) (h:NoStore w q):Calls Tryz.prog 138 #[.pointer q,.int .i64 t,.slice ad l.length c] w fun e w'=>e = .returned (.agg (qL q t (.slice ad l.length c) 0 0))∧Below w.heap.size w w':=by
 have hb0:=bl_alloc (bl_alloc (Below.refl _ w) (.cells (qL none 0 (.slice none 0 0) 0 0) 188)) (.cells (qL q t (.slice ad l.length c) 0 0) 188)
 have HC:Hid (Calls Tryz.prog 90 #[.int .i64 t,.slice ad l.length c] ((w.alloc (.cells (qL none 0 (.slice none 0 0) 0 0) 188)).alloc (.cells (qL q t (.slice ad l.length c) 0 0) 188)) fun e w1=>e = .returned (.string (keyL t l)) ∧
  Calls Tryz.prog 75 #[.pointer q,.string (keyL t l)] w1 fun e w2=>∃ a2 c2,e = .returned (.slice a2 0 c2)∧Below w.heap.size w w2∧w2.heap[w.heap.size]? = some (.cells (qL none 0 (.slice none 0 0) 0 0) 188 (0,0))∧w2.heap[w.heap.size+1]? = some (.cells (qL q t (.slice ad l.length c) 0 0) 188 (0,0))):=by
  have hr0:((w.alloc (.cells (qL none 0 (.slice none 0 0) 0 0) 188)).alloc (.cells (qL q t (.slice ad l.length c) 0 0) 188)).heap[w.heap.size]? = some (.cells (qL none 0 (.slice none 0 0) 0 0) 188 (0,0)):=by
   rw [heap_alloc_old _ _ (by simp)]; exact heap_alloc_new w (.cells (qL none 0 (.slice none 0 0) 0 0) 188)
  have hr1:=heap_alloc_new (w.alloc (.cells (qL none 0 (.slice none 0 0) 0 0) 188)) (.cells (qL q t (.slice ad l.length c) 0 0) 188)
  rw [World.size_alloc] at hr1
  refine (key_any t ht1 ht2 _ l _ (hv.below hb0) (by omega) hr).mono fun e w1 ⟨he,hb⟩=>⟨he,?_⟩
  have hb1:=bl_then hb0 hb
  have hp0:=(hb.block _ (Array.getElem?_eq_some_iff.1 hr0).1).trans hr0
  have hp1:=(hb.block _ (Array.getElem?_eq_some_iff.1 hr1).1).trans hr1
  refine ((ReadAt.not (h.below hb1)).row (keyL t l)).mono fun e w2 ⟨v,he,ho,hg,hb2⟩ => ?_
  rw [show rowOf ((⟨[],[]⟩:St).val (keyL t l)) = [] from rowOf_empty] at ho
  obtain ⟨a2,c2,rfl,_⟩:=ho.form
  exact ⟨a2,c2,he,bl_then hb1 hb2,(hb2.block _ (Array.getElem?_eq_some_iff.1 hp0).1).trans hp0,(hb2.block _ (Array.getElem?_eq_some_iff.1 hp1).1).trans hp1⟩
 clear h hb0 hv hr
 generalize keyL t l=k at *
 generalize l.length=n at *
 go_enter Tryz.func138,Tryz.ntmps138
 go_wp2_with fail
 refine Calls.mono HC.out ?_
 rintro e w1 ⟨rfl,hD⟩
 have HD:=Lib.hid hD
 clear hD HC
 go_wp2_with fail
 refine Calls.mono HD.out ?_
 rintro e w2 ⟨a2,c2,rfl,hb2,hr0,hr1⟩
 have HR0:=Lib.hid hr0
 have HB:=Lib.hid hb2
 have f0:=aRow5 hr0
 have f1:=aRow5 hr1
 obtain ⟨⟨_,_,_,_,_⟩,_,_,_,_,_⟩:=f0
 obtain ⟨⟨_,_,_,_,_⟩,_⟩:=f1
 clear HD hr0 hr1 hb2
 go_wp2_with fail
 go_region
 all_goals
  go_wp2_with fail
  refine bodyPost_ret (results_cell_row rfl _ _ w.heap.size 188 (qL q t (.slice ad n c) 0 0) (0,0) _ rfl ?_ Tryz.underlying188 rfl (by kernel_rfl)) rfl ?_
  ·rw [heap_drew']
   exact setCell_row _ (setCell_row _ (setCell_row _ (setCell_row _ (setCell_row _ HR0.out))))
  ·exact ⟨rfl,bl_drew ((put4_below HB.out (Nat.le_refl _) _ _ _ _).setCell (p:=⟨w.heap.size,4,none⟩) (Nat.le_refl _) _)⟩
theorem qlen_any (w:World) (q:Option Addr) (t:Int) (v:Value) (a b:Nat) (hab:a≤b) (hb:b < 9223372036854775808):Calls Tryz.prog 139 #[.agg (qL q t v a b)] w fun e w'=>e = .returned (.int .i64 ((b - a:Nat):Int))∧Below w.heap.size w w':=by
 have hb0:=bl_alloc (Below.refl _ w) (.cells (qL q t v a b) 188)
 have f0:=aRow5 (heap_alloc_new w (.cells (qL q t v a b) 188))
 obtain ⟨⟨_,_,_,c3,c4⟩,_⟩:=f0
 go_enter Tryz.func139,Tryz.ntmps139
 go_wp2_with fail
 go_ret
 exact ⟨by simp; omega,hb0⟩
def scW (a t f:W4):W4:=if uN f=0 then (0,0,0,0) else dnW a t f
def minW (a b:W4):W4:=if uN a≤uN b then a else b
structure Ex where
 st:Int
 op:Int
 sg:Int
 bl:Int
 wo:W4
 mx:W4
def Ex.L (x:Ex):Array Value:=#[.int .i64 x.st,.int .i64 x.op,.int .i64 x.sg,.int .i64 x.bl,.int .u64 x.wo.1,.int .u64 x.wo.2.1,.int .u64 x.wo.2.2.1,.int .u64 x.wo.2.2.2,.int .u64 x.mx.1,.int .u64 x.mx.2.1,.int .u64 x.mx.2.2.1,.int .u64 x.mx.2.2.2]
structure Ex.Ok (x:Ex):Prop where
 st:I63 x.st
 op:I63 x.op
 sg:I63 x.sg
 bl:I63 x.bl
 wo:x.wo.Ok
 mx:x.mx.Ok
def paysW (x:Ex) (m:W4):W4:=if x.op=0 then x.wo else if uN x.mx < uN m then (0,0,0,0) else scW x.wo m x.mx
theorem own_ints {w:World} {v:Value} {l:List Int} (h:Own w 3 1 v l.length (l.map fun n=>Value.int .i64 n)):IntsAt w v l:=by
 obtain ⟨_,a,c,he,hc⟩:=h.src
 rcases h.2 with ⟨rfl,h0⟩ | ⟨g,cap,cur,rfl,_⟩
 ·exact .inl ⟨rfl,List.eq_nil_of_length_eq_zero h0⟩
 ·cases he
  refine .inr ⟨_,_,rfl,fun j x hj => ?_⟩
  obtain ⟨ad,h5,h6⟩:=hc j (.int .i64 x) (by simp [hj])
  cases h5
  exact h6
theorem ints_src {w:World} {y:Value} {l:List Int} (h:IntsAt w y l):Src w 1 y l.length (l.map fun n=>Value.int .i64 n):=by
 refine ⟨by simp,?_⟩
 rcases h with ⟨rfl,rfl⟩ | ⟨a,c,rfl,hc⟩
 ·exact ⟨none,0,rfl,fun j u hj=>by simp at hj⟩
 ·refine ⟨some a,c,rfl,fun j u hj => ?_⟩
  rw [List.getElem?_map,Option.map_eq_some_iff] at hj
  obtain ⟨x,hx,rfl⟩:=hj
  exact ⟨a,rfl,hc j x hx⟩
def RetInts (w:World) (l:List Int) (e:Ending) (w':World):Prop:=∃ v,e = .returned v∧Own w' 3 1 v l.length (l.map fun n=>Value.int .i64 n)∧(∀ g,v.ownBlock=some g→w.heap.size≤g)∧Below w.heap.size w w'
theorem cloneI_any (w:World) (y:Value) (l:List Int) (h:IntsAt w y l) (hl:l.length < 1000000000000):Calls Tryz.prog 210 #[y] w (RetInts w l):=by
 have hS:=ints_src h
 rcases h with ⟨rfl,rfl⟩ | ⟨ad,c,rfl,hc⟩
 ·have HE:Hid (RetInts w [] (.returned (.slice none 0 0)) w):=⟨_,rfl,Own.nil _ _ _,fun g hg=>by simp [Value.ownBlock] at hg,Below.refl _ _⟩
  have hsn:=fun (w:World)=>Lib.run_eql_slice_nil (P:=Tryz.prog) w 75 3 none 0 0 0 0 intT.und
  generalize RetInts w []=R at *
  clear hS
  go_enter Tryz.func210,Tryz.ntmps210
  go_wp2
  exact HE.out
 ·have hown:Own (w.alloc (.cells #[] 3)) 3 1 (.slice (some ⟨w.heap.size,0,none⟩) 0 0) 0 [] :=
   ⟨rfl,.inr ⟨w.heap.size,0,#[],rfl,heap_alloc_new w _,Nat.le_refl _,Nat.zero_le _,Nat.zero_le _,rfl⟩⟩
  have hS2:=hS.below (w':=w.alloc (.cells #[] 3)) ((Below.refl _ w).alloc (Nat.le_refl _) _)
  have HE:Hid (∀ v' w',Appended (w.alloc (.cells #[] 3)) 3 1 (.slice (some ⟨w.heap.size,0,none⟩) 0 0) 0 l.length [] (l.map fun n=>Value.int .i64 n) v' w'→RetInts w l (.returned v') w'):=fun v' w' hA=>by
   refine ⟨v',rfl,by simpa using hA.own,fun g hg => ?_,((Below.refl _ w).alloc (Nat.le_refl _) _).grown hA.grown (by simp) (fun k hk=>by simp [Value.ownBlock] at hk; omega)⟩
   rcases hA.block g hg with h | h
   ·simp [Value.ownBlock] at h; omega
   ·simp at h; omega
  have hmx:0+l.length≤maxLen:=by unfold maxLen; omega
  have hone:∀ u∈l.map (fun n=>Value.int .i64 n),u.oneCell'=true:=fun u hu=>by
   obtain ⟨x,_,rfl⟩:=List.mem_map.1 hu; rfl
  generalize RetInts w l=R at *
  generalize (l.map fun n=>Value.int .i64 n)=xs at *
  generalize l.length=n at *
  have hsn:=fun (w:World)=>Lib.run_eql_slice_nil (P:=Tryz.prog) w 75 3 (some ad) n c 0 0 intT.und
  clear hS hc
  go_enter Tryz.func210,Tryz.ntmps210
  go_wp2_with (at_builtin; refine wpList_append_src rfl _ _ 75 75 rfl intT intT _ 0 [] rfl hown _ n xs rfl hS2 hone hmx (by omega) ?_)
  intro v' w' hA
  have hR:=HE.out v' w' hA
  go_wp2
  exact hR
structure IdOk (l:List Int):Prop where
 len:l.length≤100
 lt:∀ x∈l,I63 x
def St.hlen (s:St) (t:Nat) (l:List Int):Nat:=s.int (keyL t l)
def hpt (v:ByteArray):Nat × W4:=if v.size < 8 then (0,(0,0,0,0)) else match numsL (v.extract 0 8).data.toList with
 | some [n]=>if (v.extract 8 v.size).size=32 then (n,toAmt (v.extract 8 v.size)) else (0,(0,0,0,0))
 | _=>(0,(0,0,0,0))
theorem ReadAt.get {n:Nat} {w:World} {q:Option Addr} {s:St} (h:ReadAt n w q s) (k:ByteArray):∃ ok,GetIs w q k (s.val k) ok:=by
 rcases h with ⟨b,L,rfl,h,_,hv,_⟩ | ⟨h,_,rfl⟩
 ·exact ⟨_,h.get k⟩
 ·exact ⟨false,h.get k⟩
theorem ReadAt.vsz {n:Nat} {w:World} {q:Option Addr} {s:St} (h:ReadAt n w q s) (k:ByteArray):(s.val k).size < 1000000000000:=by
 rcases h with ⟨b,L,rfl,h,_,hv,_⟩ | ⟨h,_,rfl⟩
 ·exact hv k
 ·show emptyB.size < _; decide
theorem hpt_ok (v:ByteArray):(hpt v).2.Ok:=by
 unfold hpt
 split
 ·exact u0_ok
 ·split
  ·split
   ·exact toAmt_ok _
   ·exact u0_ok
  ·exact u0_ok
def St.hlast (s:St) (t:Nat) (l:List Int):W4:=if s.hlen t l=0 then (0,0,0,0) else (hpt (s.val (keyL t (l ++ [((s.hlen t l:Nat):Int) - 1])))).2
theorem rg_faQ0 {ops:Array Oper} {o:Oper} {a:Act} {w:World} {K:Value→World→Prop} {x:Operand} {g:Nat} (hg:Region.wanted o (yielded ops a.tmps)=true) (ho:o.op = .fieldAddr 188 x 0) (hx:a.eval x = .pointer (some ⟨g,0,none⟩)) (hk:K (.pointer (some ⟨g,0,none⟩)) w):rgDo Tryz.prog ops o a w K:=by
 refine rg_value hg ?_ hk
 clear hg hk
 generalize a.eval=ev at hx ⊢
 unfold execOp
 simp only [ho,hx]
 go_simp
theorem rg_faQ1 {ops:Array Oper} {o:Oper} {a:Act} {w:World} {K:Value→World→Prop} {x:Operand} {g:Nat} (hg:Region.wanted o (yielded ops a.tmps)=true) (ho:o.op = .fieldAddr 188 x 1) (hx:a.eval x = .pointer (some ⟨g,0,none⟩)) (hk:K (.pointer (some ⟨g,1,none⟩)) w):rgDo Tryz.prog ops o a w K:=by
 refine rg_value hg ?_ hk
 clear hg hk
 generalize a.eval=ev at hx ⊢
 unfold execOp
 simp only [ho,hx]
 go_simp
theorem rg_faQ2 {ops:Array Oper} {o:Oper} {a:Act} {w:World} {K:Value→World→Prop} {x:Operand} {g:Nat} (hg:Region.wanted o (yielded ops a.tmps)=true) (ho:o.op = .fieldAddr 188 x 2) (hx:a.eval x = .pointer (some ⟨g,0,none⟩)) (hk:K (.pointer (some ⟨g,2,none⟩)) w):rgDo Tryz.prog ops o a w K:=by
 refine rg_value hg ?_ hk
 clear hg hk
 generalize a.eval=ev at hx ⊢
 unfold execOp
 simp only [ho,hx]
 go_simp
theorem rg_faQ3 {ops:Array Oper} {o:Oper} {a:Act} {w:World} {K:Value→World→Prop} {x:Operand} {g:Nat} (hg:Region.wanted o (yielded ops a.tmps)=true) (ho:o.op = .fieldAddr 188 x 3) (hx:a.eval x = .pointer (some ⟨g,0,none⟩)) (hk:K (.pointer (some ⟨g,3,none⟩)) w):rgDo Tryz.prog ops o a w K:=by
 refine rg_value hg ?_ hk
 clear hg hk
 generalize a.eval=ev at hx ⊢
 unfold execOp
 simp only [ho,hx]
 go_simp
theorem rg_loadI {ops:Array Oper} {o:Oper} {a:Act} {w:World} {K:Value→World→Prop} {x:Operand} {g k:Nat} {n:Int} (hg:Region.wanted o (yielded ops a.tmps)=true) (ho:o.op = .load 3 x) (hx:a.eval x = .pointer (some ⟨g,k,none⟩)) (hc:w.cell? ⟨g,k,none⟩=some (.int .i64 n)) (hk:K (.int .i64 n) w):rgDo Tryz.prog ops o a w K:=by
 refine rg_value hg ?_ hk
 clear hg hk
 generalize a.eval=ev at hx ⊢
 unfold execOp
 simp only [ho,hx]
 go_simp
theorem rg_loadS {ops:Array Oper} {o:Oper} {a:Act} {w:World} {K:Value→World→Prop} {x:Operand} {g k:Nat} {v:Value} (hg:Region.wanted o (yielded ops a.tmps)=true) (ho:o.op = .load 75 x) (hx:a.eval x = .pointer (some ⟨g,k,none⟩)) (hc:w.cell? ⟨g,k,none⟩=some v) (hk:K v w):rgDo Tryz.prog ops o a w K:=by
 refine rg_value hg ?_ hk
 clear hg hk
 generalize a.eval=ev at hx ⊢
 unfold execOp
 simp only [ho,hx]
 go_simp
theorem rg_loadQ {ops:Array Oper} {o:Oper} {a:Act} {w:World} {K:Value→World→Prop} {x:Operand} {g k:Nat} {v:Value} (hg:Region.wanted o (yielded ops a.tmps)=true) (ho:o.op = .load 39 x) (hx:a.eval x = .pointer (some ⟨g,k,none⟩)) (hc:w.cell? ⟨g,k,none⟩=some v) (hk:K v w):rgDo Tryz.prog ops o a w K:=by
 refine rg_value hg ?_ hk
 clear hg hk
 generalize a.eval=ev at hx ⊢
 unfold execOp
 simp only [ho,hx]
 go_simp
abbrev qO (q:Option Addr) (t:Int) (v:Value) (a b:Int):Obj:=.cells (qL q t v a b) 188
def QaI (w1:World) (l:List Int) (n:Int) (b4 b6 b7:Bool) (y p z:Value) (W:World):Prop :=
 Below w1.heap.size w1 W∧(b7=false→(b4=true→Own W 3 1 y l.length (l.map fun n=>Value.int .i64 n)∧∀ k,y.ownBlock=some k→w1.heap.size≤k)∧(b6=true→∃ g,p = .slice (some ⟨g,0,none⟩) 1 1∧W.heap[g]? = some (.cells #[.int .i64 n] 3 (0,0))))∧(b7=true→IntsAt W z (l ++ [n]))
theorem QaI.below {w1 W W':World} {l:List Int} {n:Int} {b4 b6 b7:Bool} {y p z:Value} (h:QaI w1 l n b4 b6 b7 y p z W) (hb:Below W.heap.size W W'):QaI w1 l n b4 b6 b7 y p z W':=by
 obtain ⟨h1,h2,h3⟩:=h
 refine ⟨bl_then h1 hb,fun e=>⟨fun e4 => ?_,fun e6 => ?_⟩,fun e=>(h3 e).below hb⟩
 ·obtain ⟨o1,o2⟩:=(h2 e).1 e4
  exact ⟨o1.frame fun k hk=>hb.block k (o1.lt k hk),o2⟩
 ·obtain ⟨g,e1,e2⟩:=(h2 e).2 e6
  exact ⟨g,e1,(hb.block g (lt_of_at e2)).trans e2⟩
theorem fqAt_any (t:Nat) (ht1:1≤t) (ht2:t≤255) (w:World) (q:Option Addr) (y:Value) (l:List Int) (a b n:Int) (h:IntsAt w y l) (hl:IdOk l) (hn:I63 n):Calls Tryz.prog 152 #[.agg (qL q t y a b),.int .i64 n] w fun e w'=>e = .returned (.string (keyL t (l ++ [n])))∧Below w.heap.size w w':=by
 have hb0:=bl_alloc (Below.refl _ w) (qO q t y a b)
 have HI:=Lib.hid (h.below hb0)
 have HR:Hid ((w.alloc (qO q t y a b)).heap[w.heap.size]? = some (.cells (qL q t y a b) 188 (0,0))):=heap_alloc_new w (qO q t y a b)
 have HB0:=Lib.hid hb0
 have HL:=Lib.hid hl
 have HN:=Lib.hid hn
 clear h hl hn hb0
 go_enter Tryz.func152,Tryz.ntmps152
 go_upto_region 1 with fail
 generalize w.alloc (qO q t y a b)=w1 at *
 have HG:=Lib.hid (lt_of_at HR.out)
 have HW:Hid (∀ W,Below w1.heap.size w1 W→W.cell? ⟨w.heap.size,1,none⟩=some (.int .i64 t)∧W.cell? ⟨w.heap.size,2,none⟩=some y):=fun W hb=>by
  have hr:=(hb.block _ HG.out).trans HR.out
  exact ⟨by rw [cell_of_row _ _ _ _ _ _ hr]; rfl,by rw [cell_of_row _ _ _ _ _ _ hr]; rfl⟩
 have H0:Hid (QaI w1 l n false false false undef undef undef w1.drew):=⟨bl_drew (Below.refl _ _),fun _=>⟨fun e=>(by cases e),fun e=>(by cases e)⟩,fun e=>(by cases e)⟩
 obtain ⟨g,hgg⟩:∃ g,g=w.heap.size:=⟨_,rfl⟩
 rw [← hgg] at HW ⊢
 refine wp_region_free [[],[0],[],[2],[2,3],[],[5],[2,3,4,5,6],[0,1,2,3,4,5,6,7],[0,1,2,3,4,5,6,7,8]]
  [.pointer (some ⟨g,1,none⟩),.int .i64 t,.pointer (some ⟨g,2,none⟩),y,undef,.int .i64 n,undef,undef,.string (keyL t (l ++ [n])),.string (keyL t (l ++ [n]))] [4,6,7]
  (fun L vs W=>QaI w1 l n (L 4) (L 6) (L 7) (vs 4) (vs 6) (vs 7) W) _ (by kernel_rfl) (by kernel_rfl) (by kernel_rfl)
  (fun vs=>by simp only [rgAct,rgPut,List.setIfInBounds_toArray,List.set_cons_zero,List.set_cons_succ]; exact rfl)
  (fun vs=>by exact rfl) H0.out ?_ ?_
 ·refine ⟨?_,?_,?_,?_,?_,?_,?_,?_,?_,?_,trivial⟩
  ·intro L vs W hA hI hp hk hq
   exact rg_faQ1 rfl rfl rfl ⟨rfl,hI⟩
  ·intro L vs W hA hI hp hk hq
   obtain ⟨e0,_⟩:=hA
   have e0:vs 0 = .pointer (some ⟨g,1,none⟩):=e0
   exact rg_loadI rfl rfl e0 (HW.out W hI.1).1 ⟨rfl,hI⟩
  ·intro L vs W hA hI hp hk hq
   exact rg_faQ2 rfl rfl rfl ⟨rfl,hI⟩
  ·intro L vs W hA hI hp hk hq
   obtain ⟨e2,_⟩:=hA
   have e2:vs 2 = .pointer (some ⟨g,2,none⟩):=e2
   exact rg_loadS rfl rfl e2 (HW.out W hI.1).2 ⟨rfl,hI⟩
  ·intro L vs W hA hI hp hk hq
   obtain ⟨_,e3,_⟩:=hA
   have e3:vs 3=y:=e3
   have h7:L 7=false:=hq 7 rfl
   refine rg_fn rfl rfl rfl (by kernel_rfl) (show [vs 3]=_ from by rw [e3]) (Calls.mono (cloneI_any W y l (HI.out.below hI.1) (by have:=HL.out.len; omega)) ?_)
   rintro e w2 ⟨v,rfl,ho,hg,hb⟩
   have hI2:=hI.below hb
   refine ⟨_,rfl,trivial,?_⟩
   refine ⟨hI2.1,fun e=>⟨fun _=>⟨ho,fun k hk=>Nat.le_trans hI.1.size (hg k hk)⟩,fun e6=>(hI2.2.1 h7).2 e6⟩,fun e => ?_⟩
   exact absurd (show L 7=true from e) (by rw [h7]; decide)
  ·intro L vs W hA hI hp hk hq
   exact rg_move rfl (.inl rfl) rfl ⟨rfl,hI⟩
  ·intro L vs W hA hI hp hk hq
   obtain ⟨e5,_⟩:=hA
   have e5:vs 5 = .int .i64 n:=e5
   have h7:L 7=false:=hq 7 rfl
   refine rgE_ints1 rfl rfl e5 ⟨trivial,?_⟩
   have hI2:=hI.below (bl_alloc (Below.refl _ W) (.cells #[.int .i64 n] 3))
   refine ⟨hI2.1,fun e=>⟨fun e4=>(hI2.2.1 h7).1 e4,fun _=>⟨_,rfl,heap_alloc_new W _⟩⟩,fun e => ?_⟩
   exact absurd (show L 7=true from e) (by rw [h7]; decide)
  ·intro L vs W hA hI hp hk hq
   have h4:L 4=true:=hp 4 rfl
   have h6:L 6=true:=hp 6 rfl
   have h7:L 7=false:=hk
   obtain ⟨ho,hge⟩:=(hI.2.1 h7).1 h4
   obtain ⟨g6,e6,hr6⟩:=(hI.2.1 h7).2 h6
   refine rg_append rfl _ _ 75 75 rfl intT intT rfl ho [.int .i64 n] e6 rfl (fun j u hj => ?_) (by intro u hu; rw [List.mem_singleton.1 hu]; rfl) (by have:=HL.out.len; unfold maxLen; omega) (by have:=HL.out.len; omega) (fun v' w' hA'=>⟨trivial,?_,fun e => ?_,fun _ => ?_⟩)
   ·rw [Addr.add_lit,Nat.zero_add,cell_of_row _ _ _ _ _ _ hr6]; simpa using hj
   ·exact Below.grown hI.1 hA'.grown hI.1.size (fun k hk=>hge k hk)
   ·exact absurd (show true=false from e) (by decide)
   ·show IntsAt w' v' (l ++ [n])
    exact own_ints (by have:=hA'.own; simpa using this)
  ·intro L vs W hA hI hp hk hq
   have h7:L 7=true:=hp 7 rfl
   obtain ⟨_,e1,_⟩:=hA
   have e1:vs 1 = .int .i64 t:=e1
   refine rg_fn rfl rfl rfl (by kernel_rfl) (show [vs 1,vs 7]=_ from by rw [e1]) (Calls.mono (key_any t ht1 ht2 (vs 7) (l ++ [n]) W (hI.2.2 h7) (by have:=HL.out.len; simp; omega) (fun x hx => ?_)) ?_)
   ·rcases List.mem_append.1 hx with h1 | h1
    ·exact HL.out.lt x h1
    ·rw [List.mem_singleton] at h1; subst h1; exact HN.out
   rintro e w2 ⟨rfl,hb⟩
   exact ⟨_,rfl,rfl,hI.below hb⟩
  ·intro L vs W hA hI hp hk hq
   obtain ⟨_,_,_,_,_,_,_,_,e8,_⟩:=hA
   have e8:vs 8 = .string (keyL t (l ++ [n])):=e8
   exact rg_move rfl (.inr rfl) e8 ⟨rfl,hI⟩
 ·intro L vs W hI _
  have HF:=Lib.hid (bl_then HB0.out hI.1)
  clear hI
  go_wp2_with fail
  go_ret
  exact ⟨rfl,HF.out⟩
theorem rg_loadId {ops:Array Oper} {o:Oper} {a:Act} {w:World} {K:Value→World→Prop} {x:Operand} {g:Nat} {r:I4} (hg:Region.wanted o (yielded ops a.tmps)=true) (ho:o.op = .load 34 x) (hx:a.eval x = .pointer (some ⟨g,0,none⟩)) (hr:w.heap[g]? = some (.cells (idL r) 34 (0,0))) (hk:K (idV r) w):rgDo Tryz.prog ops o a w K :=
 rg_load _ hg ho hx hr Tryz.underlying34 rfl (by show _=some 4; kernel_rfl) hk
def puW (a f:W4):W4:=upW a f oneW
def puB (a f:W4):Bool:=upB a f oneW
theorem puW_ok (a f:W4):(puW a f).Ok:=by
 unfold puW upW
 split
 ·exact u0_ok
 ·exact toW_ok _
def PuPh (w:World) (g:Nat) (a f r:W4):Nat→World→Prop
 | 0,W=>BV w [(g+1+1,zO),(g+1,uO f),(g,uO a)] W
 | _+1,W=>BV w [(g+1+1,uO r),(g+1,uO f),(g,uO a)] W
theorem PuPh.row {w W:World} {g:Nat} {a f r:W4} {p:Nat} (hP:PuPh w g a f r p W):W.heap[g]? = some (.cells (uL a) 24 (0,0))∧W.heap[g+1]? = some (.cells (uL f) 24 (0,0)):=by
 match p,hP with
 | 0,hP=>exact ⟨QV.row (rs:=[(g+1+1,zO),(g+1,uO f),(g,uO a)]) hP (by simp),QV.row (rs:=[(g+1+1,zO),(g+1,uO f),(g,uO a)]) hP (by simp)⟩
 | _+1,hP=>exact ⟨QV.row (rs:=[(g+1+1,uO r),(g+1,uO f),(g,uO a)]) hP (by simp),QV.row (rs:=[(g+1+1,uO r),(g+1,uO f),(g,uO a)]) hP (by simp)⟩
theorem PuPh.below {w W W':World} {g:Nat} {a f r:W4} {p:Nat} (hP:PuPh w g a f r p W) (hb:Below W.heap.size W W'):PuPh w g a f r p W':=by
 match p,hP with
 | 0,hP=>exact QV.below (rs:=[(g+1+1,zO),(g+1,uO f),(g,uO a)]) hP hb
 | _+1,hP=>exact QV.below (rs:=[(g+1+1,uO r),(g+1,uO f),(g,uO a)]) hP hb
theorem partUp_any (a f:W4) (ha:a.Ok) (hf:f.Ok) (w:World):Calls Tryz.prog 87 #[uV a,uV f] w fun e w'=>e = .returned (.tuple #[uV (puW a f),.bool (puB a f)])∧Below w.heap.size w w':=by
 have hB:=(((BV.start w).alloc (uO a)).alloc (uO f)).alloc zO
 simp only [World.size_alloc] at hB
 have HO:Hid (∀ W,Calls Tryz.prog 24 #[] W fun e w'=>e = .returned (uV oneW)∧Below W.heap.size W w'):=one_any
 have HU:Hid (∀ W,Calls Tryz.prog 154 #[uV a,uV f,uV oneW] W fun e w'=>e = .returned (.tuple #[uV (puW a f),.bool (puB a f)])∧Below W.heap.size W w'):=fun W=>mup_any a f oneW ha hf ⟨by decide,by decide,by decide,by decide⟩ W
 generalize puW a f=r at *
 generalize puB a f=rb at *
 have HB:=Lib.hid hB
 clear hB
 go_enter Tryz.func87,Tryz.ntmps87
 go_upto_region 1 with fail
 generalize ((w.alloc (uO a)).alloc (uO f)).alloc zO=w1 at *
 obtain ⟨g,hg⟩:∃ g,g=w.heap.size:=⟨_,rfl⟩
 have H0:Hid (PuPh w g a f r 0 w1.drew):=by rw [hg]; exact HB.out.drew
 rw [← hg]
 refine wp_region_const2 [[],[],[],[0,1,2],[0,1,2,3],[0,1,2,3],[0,1,2,3,4,5],[0,1,2,3,4,5,6]]
  [uV a,uV f,uV oneW,.tuple #[uV r,.bool rb],uV r,.bool rb,undef,.bool rb]
  [6] (PuPh w g a f r) _ (by kernel_rfl) (by kernel_rfl) (by kernel_rfl)
  (fun vs=>by simp only [rgAct,rgPut,List.setIfInBounds_toArray,List.set_cons_zero,List.set_cons_succ]; exact rfl)
  (by simp only [List.getD_cons_zero,List.getD_cons_succ]; exact rfl) H0.out ?_ ?_
 ·refine ⟨?_,?_,?_,?_,?_,?_,?_,?_,trivial⟩
  ·intro vs p w1 hA hP hq
   exact rg_loadU rfl rfl rfl (PuPh.row hP).1 ⟨rfl,hP⟩
  ·intro vs p w1 hA hP hq
   exact rg_loadU rfl rfl rfl (PuPh.row hP).2 ⟨rfl,hP⟩
  ·intro vs p w1 hA hP hq
   refine rg_fn rfl rfl rfl (by kernel_rfl) rfl (Calls.mono ((HO.out w1).mono fun _ _ hh=>And.intro hh.1 (PuPh.below hP hh.2)) ?_)
   rintro e w2 ⟨rfl,hP2⟩
   exact ⟨_,rfl,rfl,hP2⟩
  ·intro vs p w1 hA hP hq
   obtain ⟨e0,e1,e2,_⟩:=hA
   have e0:vs 0=uV a:=e0
   have e1:vs 1=uV f:=e1
   have e2:vs 2=uV oneW:=e2
   refine rg_fn rfl rfl rfl (by kernel_rfl) (show [vs 0,vs 1,vs 2]=_ from by rw [e0,e1,e2]) (Calls.mono ((HU.out w1).mono fun _ _ hh=>And.intro hh.1 (PuPh.below hP hh.2)) ?_)
   rintro e w2 ⟨rfl,hP2⟩
   exact ⟨_,rfl,rfl,hP2⟩
  ·intro vs p w1 hA hP hq
   obtain ⟨_,_,_,e3,_⟩:=hA
   have e3:vs 3 = .tuple #[uV r,.bool rb]:=e3
   exact rg_extract rfl rfl e3 rfl ⟨rfl,hP⟩
  ·intro vs p w1 hA hP hq
   obtain ⟨_,_,_,e3,_⟩:=hA
   have e3:vs 3 = .tuple #[uV r,.bool rb]:=e3
   exact rg_extract rfl rfl e3 rfl ⟨rfl,hP⟩
  ·intro vs p w1 hA hP hq
   obtain ⟨_,_,_,_,e4,_⟩:=hA
   have e4:vs 4=uV r:=e4
   have hp:=hq 0 rfl
   subst hp
   exact rg_storeU (r:=(0,0,0,0)) rfl rfl rfl e4 (QV.row (rs:=[(g+1+1,zO),(g+1,uO f),(g,uO a)]) (g:=g+1+1) (o:=zO) hP (by simp)) ⟨rfl,QV.setRow (rs:=[(g+1+1,zO),(g+1,uO f),(g,uO a)]) (g:=g+1+1) (cs:=uL (0,0,0,0)) hP (by simp) [(g+1,uO f),(g,uO a)] (by simp; omega)⟩
  ·intro vs p w1 hA hP hq
   obtain ⟨_,_,_,_,_,e5,_⟩:=hA
   have e5:vs 5 = .bool rb:=e5
   exact rg_move rfl (.inr rfl) e5 ⟨rfl,hP⟩
 ·intro W hW
  have hR:W.heap[g+1+1]? = some (uO r):=QV.row (rs:=[(g+1+1,uO r),(g+1,uO f),(g,uO a)]) hW (by simp)
  have HW:=Lib.hid (And.intro (BV.bl hW) hR)
  clear hW hR
  go_wp2_with fail
  refine bodyPost_ret (results_cell_row2 rfl _ _ (g+1+1) 24 (uL r) (0,0) _ rfl HW.out.2 Tryz.underlying24 rfl (by kernel_rfl)) rfl ?_
  exact ⟨rfl,HW.out.1⟩
theorem least_any (x y:W4) (hx:x.Ok) (hy:y.Ok) (w:World):Calls Tryz.prog 80 #[uV x,uV y] w fun e w'=>e = .returned (uV (lessV x y))∧Below w.heap.size w w':=by
 obtain ⟨hb,⟨a0,a1,a2,a3⟩,⟨b0,b1,b2,b3⟩,hr⟩:=three_rows w x y (0,0,0,0)
 have HS:Hid (Calls Tryz.prog 71 #[uV x,uV y] (((w.alloc (.cells (uL x) 24)).alloc (.cells (uL y) 24)).alloc (.cells (uL (0,0,0,0)) 24)) fun e w'=>e = .returned (.tuple #[uV (lessV x y),.bool (uSubC x y == 0)])∧Below w.heap.size w w'∧w'.heap[w.heap.size+2]? = some (.cells (uL (0,0,0,0)) 24 (0,0))):=(usub_any x y hx hy _).mono fun e w' ⟨he,h1⟩=>⟨he,bl_then hb h1,(h1.block _ (Array.getElem?_eq_some_iff.1 hr).1).trans hr⟩
 clear hb hr
 generalize (uSubC x y == 0)=ok at *
 generalize lessV x y=v at *
 go_enter Tryz.func80,Tryz.ntmps80
 go_wp2_with fail
 refine HS.out.mono ?_
 rintro e w3 ⟨rfl,hb3,hrow⟩
 have HR:=Lib.hid hrow
 obtain ⟨_,_,_,_,r0,r1,r2,r3⟩:=row4 hrow
 have hn3:w.heap.size+2 < w3.heap.size:=(Array.getElem?_eq_some_iff.1 hrow).1
 have hne:w3.heap.size≠w.heap.size+2:=by omega
 have hne2:=Ne.symm hne
 clear hrow HS
 go_wp2_with fail
 refine bodyPost_ret (results_cell_row rfl _ _ (w.heap.size+2) 24 (uL v) (0,0) _ rfl ?_ Tryz.underlying24 rfl (by kernel_rfl)) rfl ?_
 ·rw [heap_alloc_old _ _ (by simpa using hn3)]; exact put4 HR.out v
 ·exact ⟨rfl,bl_alloc (put4_below hb3 (by omega) _ _ _ _) _⟩
end Go.Proofs.YtnkilceibkkjlaaGreat
