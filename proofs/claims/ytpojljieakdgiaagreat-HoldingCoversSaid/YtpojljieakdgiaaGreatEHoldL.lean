/- What is proved here: a drawn region whose operations' values are known ahead, and whose world is turned by some of them in a forced order (phases). Conditions: none. a store of the program and one of the reference side by side, among a call's rows. Conditions: none. act of the holding laws: one thing done on both stores. Conditions: sizes. act of the holding laws: Shift and Cut on both stores. Conditions: sizes. act o -/
import Derived.Test.YtpojljieakdgiaaGreatERelyG
import Derived.Test.YtpojljieakdgiaaGreatERHoldS
import Derived.Test.YtpojljieakdgiaaGreatERFacA
import Derived.Test.YtpojljieakdgiaaGreatEHoldP
set_option maxRecDepth 100000
set_option maxHeartbeats 16000000
namespace Go.Proofs.YtpojljieakdgiaaGreat
open Go.RowKit
def rcEq (vs:Nat→Value) (cs:List Value):List Nat→Prop
 | []=>True
 | j :: l=>vs j=cs.getD j undef∧rcEq vs cs l
theorem rcEq_of {vs:Nat→Value} {cs:List Value}:∀ {l:List Nat},(∀ j∈l,vs j=cs.getD j undef)→rcEq vs cs l
 | [],_=>trivial
 | j :: _,h=>⟨h j (by simp),rcEq_of fun i hi=>h i (by simp [hi])⟩
def rcSteps (P:Program) (ops:Array Oper) (pr:List (List Nat)) (cs:List Value) (so:List Nat) (Ph:Nat→World→Prop) (fr:(Nat→Value)→Act):Nat→List Oper→Prop
 | _,[]=>True
 | k,o :: l=>(∀ vs p w,rcEq vs cs (pr.getD k [])→Ph p w→(∀ q,so[q]? = some k→p=q)→rgDo P ops o (fr vs) w fun v w'=>v=cs.getD k undef∧Ph (bif so.contains k then p+1 else p) w')∧rcSteps P ops pr cs so Ph fr (k+1) l
theorem rcSteps_at {P:Program} {ops:Array Oper} {pr:List (List Nat)} {cs:List Value} {so:List Nat} {Ph:Nat→World→Prop} {fr:(Nat→Value)→Act}:∀ {l:List Oper} {k:Nat},rcSteps P ops pr cs so Ph fr k l→∀ (i:Nat) (o:Oper),l[i]? = some o →
  ∀ vs p w,rcEq vs cs (pr.getD (k+i) [])→Ph p w→(∀ q,so[q]? = some (k+i)→p=q)→rgDo P ops o (fr vs) w fun v w'=>v=cs.getD (k+i) undef∧Ph (bif so.contains (k+i) then p+1 else p) w'
 | [],_,_,i,o,h=>by simp at h
 | x :: l,k,h,0,o,ho=>by
  simp only [List.getElem?_cons_zero,Option.some.injEq] at ho
  subst ho; exact h.1
 | x :: l,k,h,i+1,o,ho=>by
  have:=rcSteps_at h.2 i o (by simpa using ho)
  rwa [show k+1+i=k+(i+1) by omega] at this
def rcB (so:List Nat) (pr:List (List Nat)) (n:Nat):Bool:=(List.range so.length).all fun q=>decide (so.getD q 0 < n) && (List.range q).all fun q'=>(pr.getD (so.getD q 0) []).contains (so.getD q' 0) && (so.getD q' 0 != so.getD q 0)
theorem rcB_at {so:List Nat} {pr:List (List Nat)} {n:Nat} (h:rcB so pr n=true) {q k:Nat} (hq:so[q]? = some k):k < n∧∀ q' k',q' < q→so[q']? = some k'→k'∈pr.getD k []∧k'≠k:=by
 have hl:q < so.length:=(List.getElem?_eq_some_iff.1 hq).1
 have h1:=List.all_eq_true.1 h q (List.mem_range.2 hl)
 rw [Bool.and_eq_true,decide_eq_true_eq] at h1
 have e:so.getD q 0=k:=by rw [List.getD_eq_getElem?_getD,hq]; rfl
 rw [e] at h1
 refine ⟨h1.1,fun q' k' hlt hq' => ?_⟩
 have h2:=List.all_eq_true.1 h1.2 q' (List.mem_range.2 hlt)
 have e':so.getD q' 0=k':=by rw [List.getD_eq_getElem?_getD,hq']; rfl
 rw [e',Bool.and_eq_true] at h2
 exact ⟨by simpa using h2.1,by simpa using h2.2⟩
theorem rgPut_congr (l:List Oper):∀ (k:Nat) (vs vs':Nat→Value) (t:Array Value),(∀ j,j < l.length→vs (k+j)=vs' (k+j))→rgPut l k vs t=rgPut l k vs' t:=by
 induction l with
 | nil=>intro k vs vs' t _; rfl
 | cons o l ih =>
  intro k vs vs' t h
  have h0:vs k=vs' k:=h 0 (by simp)
  simp only [rgPut,h0]
  exact ih (k+1) vs vs' _ fun j hj=>by
   have:=h (j+1) (by simpa using hj)
   rwa [show k+(j+1)=k+1+j by omega] at this
theorem wp_region_const {P:Program} {id:Nat} {Q:Exit→Act→World→Prop} {a:Act} {w:World} {l:List Oper} (pr:List (List Nat)) (cs:List Value) (so:List Nat) (Ph:Nat→World→Prop) (fr:(Nat→Value)→Act)
  (hm:P.follows .mixedOrders=true) (hB:rgB l.toArray pr a.tmps.size=true) (hso:rcB so pr l.length=true) (hfr:∀ vs,rgAct l a vs=fr vs)
  (h0:Ph 0 w.drew)
  (hs:rcSteps P l.toArray pr cs so Ph fr 0 l)
  (hend:∀ w,Ph so.length w→Q .normal (fr fun j=>cs.getD j undef) w):(Code.region id l.toArray true).wp P Q a w:=by
 refine wp_region_any hm ?_
 have hok:=rgB_ok hB
 have hsz:l.toArray.size=l.length:=by simp
 refine wpAny_rely hok (fun L vs w=>(∀ j,L j=true→vs j=cs.getD j undef)∧∃ p,Ph p w∧p≤so.length∧∀ q k,so[q]? = some k→(L k=true↔q < p)) ?_ ?_ l.toArray.size (Array.replicate l.toArray.size false) (fun _=>undef) a w.drew ?_ ?_ ?_
 ·intro i o ho L vs w hI hpre hLi hpost
  obtain ⟨hv,p,hP,hple,hp⟩:=hI
  have hil:i < l.length:=by rw [← hsz]; exact (Array.getElem?_eq_some_iff.1 ho).1
  have hi:=rcSteps_at hs i o (by simpa using ho)
  rw [Nat.zero_add] at hi
  have hkey:∀ q,so[q]? = some i→p=q:=fun q hq=>by
   have h1:¬ q < p:=fun h=>by have:=(hp q i hq).2 h; rw [hLi] at this; cases this
   refine Nat.le_antisymm (Nat.le_of_not_lt h1) (Nat.le_of_not_lt fun h2 => ?_)
   have hql:q < so.length:=(List.getElem?_eq_some_iff.1 hq).1
   have hk:so[p]? = some so[p]:=List.getElem?_eq_getElem (by omega)
   have h3:=((rcB_at hso hq).2 p _ h2 hk).1
   exact Nat.lt_irrefl p ((hp p _ hk).1 (hpre _ h3))
  rw [show rgAct l.toArray.toList a vs=rgAct l a vs from rfl,hfr vs]
  refine rgDo_mono (fun v w' he=>⟨fun j hj => ?_,?_⟩) (hi vs p w (rcEq_of fun j hj=>hv j (hpre j hj)) hP hkey)
  ·by_cases hji:j=i
   ·subst hji
    rw [← he.1]; simp [rgSet]
   ·have:(if j=i then true else L j)=true:=hj
    rw [if_neg hji] at this
    rw [← hv j this]; simp [rgSet,hji]
  ·have hw:=he.2
   cases hc:so.contains i with
   | false =>
    rw [hc] at hw
    refine ⟨p,hw,hple,fun q k hq => ?_⟩
    have hki:k≠i:=fun e=>by
     have:so.contains k=true:=by simpa using List.mem_of_getElem? hq
     rw [e,hc] at this; cases this
    show (if k=i then true else L k)=true↔_
    rw [if_neg hki]; exact hp q k hq
   | true =>
    rw [hc] at hw
    obtain ⟨q,hq⟩:=List.mem_iff_getElem?.1 (by simpa using hc:i∈so)
    have hpq:=hkey q hq
    have hql:q < so.length:=(List.getElem?_eq_some_iff.1 hq).1
    refine ⟨p+1,hw,by omega,fun q' k hq' => ?_⟩
    show (if k=i then true else L k)=true↔_
    rcases Nat.lt_trichotomy q' q with h | h | h
    ·have h1:=(rcB_at hso hq).2 q' k h hq'
     rw [if_neg h1.2,hp q' k hq']; omega
    ·subst h
     rw [hq] at hq'; cases hq'
     rw [if_pos rfl]; constructor
     ·intro _; omega
     ·intro _; rfl
    ·have h1:=(rcB_at hso hq').2 q i h hq
     have hkl:=(rcB_at hso hq').1
     have h2:=hpost k _ (by simp [hkl]:l.toArray[k]? = some l[k]) h1.1
     rw [if_neg (Ne.symm h1.2),h2]
     constructor
     ·intro h; cases h
     ·intro h; omega
 ·intro L vs w hI hall
  obtain ⟨hv,p,hP,hple,hp⟩:=hI
  have hpl:p=so.length:=by
   refine Nat.le_antisymm hple (Nat.le_of_not_lt fun h => ?_)
   have hk:so[p]? = some so[p]:=List.getElem?_eq_getElem h
   have:=(hp p _ hk).1 (hall _ (by rw [hsz]; exact (rcB_at hso hk).1))
   exact Nat.lt_irrefl _ this
  subst hpl
  have e:rgAct l.toArray.toList a vs=fr fun j=>cs.getD j undef:=by
   rw [← hfr]
   show ({ a with tmps:=_ }:Act) = { a with tmps:=_ }
   congr 1
   exact rgPut_congr l 0 _ _ _ fun j hj=>by rw [Nat.zero_add]; exact hv j (hall j (by rw [hsz]; exact hj))
  rw [e]
  exact hend w hP
 ·refine ⟨rfl,rfl,fun t ht => ?_,by simp,fun j oj _ hl => ?_⟩
  ·refine (rgPut_ne _ _ _ _ _ fun j o hj hd => ?_).symm
   have:=ht j o (by simpa using hj) hd
   rw [getD_replicate_false] at this; cases this
  ·rw [getD_replicate_false] at hl; cases hl
 ·refine Nat.le_trans (List.length_filter_le _ _) (by simp)
 ·refine ⟨fun j hj => ?_,0,h0,Nat.zero_le _,fun q k _ => ?_⟩
  ·have:(Array.replicate l.toArray.size false).getD j false=true:=hj
   rw [getD_replicate_false] at this; cases this
  ·constructor
   ·intro h
    have:(Array.replicate l.toArray.size false).getD k false=true:=h
    rw [getD_replicate_false] at this; cases this
   ·intro h; omega
def PairRep (q:Option Addr) (on:Bool) (b:Nat) (m:St):World→List Nat→St→Prop:=fun W K s=>∃ L M,K=L ++ M∧(∀ k∈L,k∉M)∧QSt W ⟨q,on,L⟩ s∧RRep W b m M
abbrev PV (h:Hand) (b:Nat) (m:St) (w:World) (K:List Nat) (s:St) (rs:List (Nat × Obj)) (W:World):Prop:=QV (PairRep h.ptr h.on b m) w K s rs W
structure HAct where
 kd:Int
 st:Int
 op:Int
 sg:Int
 am:W4
 ax:W4
def HAct.L (A:HAct):Array Value:=#[.int .i64 A.kd,.int .i64 A.st,.int .i64 A.op,.int .i64 A.sg,.int .u64 A.am.1,.int .u64 A.am.2.1,.int .u64 A.am.2.2.1,.int .u64 A.am.2.2.2,.int .u64 A.ax.1,.int .u64 A.ax.2.1,.int .u64 A.ax.2.2.1,.int .u64 A.ax.2.2.2]
def POn (h:Hand) (b:Nat) (w:World) (K:List Nat) (s m:St) (W:World):Prop:=∃ K',PairRep h.ptr h.on b m W K' s∧Step w K W K'
theorem PV.done {h:Hand} {b:Nat} {m:St} {w W:World} {K:List Nat} {s:St} {rs:List (Nat × Obj)} (hP:PV h b m w K s rs W):POn h b w K s m W:=QV.done hP
end Go.Proofs.YtpojljieakdgiaaGreat
namespace Go.Proofs.YtpojljieakdgiaaGreat
open Go.RowKit
theorem wp_region_const2 {P:Program} {id:Nat} {Q:Exit→Act→World→Prop} {a:Act} {w:World} {l:List Oper} (pr:List (List Nat)) (cs:List Value) (so:List Nat) (Ph:Nat→World→Prop) (fr:(Nat→Value)→Act) {frc:Act}
  (hm:P.follows .mixedOrders=true) (hB:rgB l.toArray pr a.tmps.size=true) (hso:rcB so pr l.length=true) (hfr:∀ vs,rgAct l a vs=fr vs) (hfc:(fr fun j=>cs.getD j undef)=frc)
  (h0:Ph 0 w.drew)
  (hs:rcSteps P l.toArray pr cs so Ph fr 0 l)
  (hend:∀ w,Ph so.length w→Q .normal frc w):(Code.region id l.toArray true).wp P Q a w :=
 wp_region_const pr cs so Ph fr hm hB hso hfr h0 hs fun w h=>by rw [hfc]; exact hend w h
def ActPh (h:Hand) (b:Nat) (w:World) (K:List Nat) (rs:List (Nat × Obj)) (s s1 m m1:St):Nat→World→Prop
 | 0,W=>PV h b m w K s rs W
 | 1,W=>PV h b m w K s1 rs W
 | _+2,W=>PV h b m1 w K s1 rs W
theorem ActPh.row {h:Hand} {b:Nat} {w:World} {K:List Nat} {g:Nat} {o:Obj} {o1 o2:Nat × Obj} {s s1 m m1:St} {p:Nat} {W:World} (hP:ActPh h b w K [o1,o2,(g,o)] s s1 m m1 p W):W.heap[g]? = some o:=by
 match p,hP with
 | 0,hP=>exact QV.row hP (by simp)
 | 1,hP=>exact QV.row hP (by simp)
 | _+2,hP=>exact QV.row hP (by simp)
end Go.Proofs.YtpojljieakdgiaaGreat
