/- What is proved here: a drawn region whose operations' values are known ahead, and whose world is turned by some of them in a forced order (phases). Conditions: none. history of the program: a checkpoint written. Conditions: sizes, ints below 2^63, words below 2^64. history of the program: from a block on, an amount (Push). Conditions: sizes, a key that is there, a block that may be one. -/
import Derived.Test.YtnkilceibkkjlaaGreatFRelyG
import Derived.Test.YtnkilceibkkjlaaGreatFExGet
set_option maxRecDepth 100000
set_option maxHeartbeats 16000000
namespace Go.Proofs.YtnkilceibkkjlaaGreat
open Go.RowKit
def rcEq (vs:Nat→Value) (cs:List Value):List Nat→Prop
 | []=>True
 | j :: l=>vs j=cs.getD j undef∧rcEq vs cs l
theorem rcEq_of {vs:Nat→Value} {cs:List Value}:∀ {l:List Nat},(∀ j∈l,vs j=cs.getD j undef)→rcEq vs cs l
 | [],_=>trivial
 | j :: _,h=>⟨h j (by simp),rcEq_of fun i hi=>h i (by simp [hi])⟩
def rcSteps (P:Program) (ops:Array Oper) (pr:List (List Nat)) (cs:List Value) (so:List Nat) (Ph:Nat→World→Prop) (fr:(Nat→Value)→Act):Nat→List Oper→Prop
 | _,[]=>True
 | k,o :: l=>(∀ vs p w,rcEq vs cs (pr.getD k [])→Ph p w→(∀ q,so[q]? = some k→p=q)→rgDo P ops o (fr vs) w fun v w'=>v=cs.getD k undef∧Ph (bif so.contains k then p+1 else p) w')∧rcSteps P ops pr cs so Ph fr (k+1) l
theorem rcSteps_at {P:Program} {ops:Array Oper} {pr:List (List Nat)} {cs:List Value} {so:List Nat} {Ph:Nat→World→Prop} {fr:(Nat→Value)→Act}:∀ {l:List Oper} {k:Nat},rcSteps P ops pr cs so Ph fr k l→∀ (i:Nat) (o:Oper),l[i]? = some o →
  ∀ vs p w,rcEq vs cs (pr.getD (k+i) [])→Ph p w→(∀ q,so[q]? = some (k+i)→p=q)→rgDo P ops o (fr vs) w fun v w'=>v=cs.getD (k+i) undef∧Ph (bif so.contains (k+i) then p+1 else p) w'
 | [],_,_,i,o,h=>by simp at h
 | x :: l,k,h,0,o,ho=>by
  simp only [List.getElem?_cons_zero,Option.some.injEq] at ho
  subst ho; exact h.1
 | x :: l,k,h,i+1,o,ho=>by
  have:=rcSteps_at h.2 i o (by simpa using ho)
  rwa [show k+1+i=k+(i+1) by omega] at this
def rcB (so:List Nat) (pr:List (List Nat)) (n:Nat):Bool:=(List.range so.length).all fun q=>decide (so.getD q 0 < n) && (List.range q).all fun q'=>(pr.getD (so.getD q 0) []).contains (so.getD q' 0) && (so.getD q' 0 != so.getD q 0)
theorem rcB_at {so:List Nat} {pr:List (List Nat)} {n:Nat} (h:rcB so pr n=true) {q k:Nat} (hq:so[q]? = some k):k < n∧∀ q' k',q' < q→so[q']? = some k'→k'∈pr.getD k []∧k'≠k:=by
 have hl:q < so.length:=(List.getElem?_eq_some_iff.1 hq).1
 have h1:=List.all_eq_true.1 h q (List.mem_range.2 hl)
 rw [Bool.and_eq_true,decide_eq_true_eq] at h1
 have e:so.getD q 0=k:=by rw [List.getD_eq_getElem?_getD,hq]; rfl
 rw [e] at h1
 refine ⟨h1.1,fun q' k' hlt hq' => ?_⟩
 have h2:=List.all_eq_true.1 h1.2 q' (List.mem_range.2 hlt)
 have e':so.getD q' 0=k':=by rw [List.getD_eq_getElem?_getD,hq']; rfl
 rw [e',Bool.and_eq_true] at h2
 exact ⟨by simpa using h2.1,by simpa using h2.2⟩
theorem rgPut_congr (l:List Oper):∀ (k:Nat) (vs vs':Nat→Value) (t:Array Value),(∀ j,j < l.length→vs (k+j)=vs' (k+j))→rgPut l k vs t=rgPut l k vs' t:=by
 induction l with
 | nil=>intro k vs vs' t _; rfl
 | cons o l ih =>
  intro k vs vs' t h
  have h0:vs k=vs' k:=h 0 (by simp)
  simp only [rgPut,h0]
  exact ih (k+1) vs vs' _ fun j hj=>by
   have:=h (j+1) (by simpa using hj)
   rwa [show k+(j+1)=k+1+j by omega] at this
theorem wp_region_const {P:Program} {id:Nat} {Q:Exit→Act→World→Prop} {a:Act} {w:World} {l:List Oper} (pr:List (List Nat)) (cs:List Value) (so:List Nat) (Ph:Nat→World→Prop) (fr:(Nat→Value)→Act)
  (hm:P.follows .mixedOrders=true) (hB:rgB l.toArray pr a.tmps.size=true) (hso:rcB so pr l.length=true) (hfr:∀ vs,rgAct l a vs=fr vs)
  (h0:Ph 0 w.drew)
  (hs:rcSteps P l.toArray pr cs so Ph fr 0 l)
  (hend:∀ w,Ph so.length w→Q .normal (fr fun j=>cs.getD j undef) w):(Code.region id l.toArray true).wp P Q a w:=by
 refine wp_region_any hm ?_
 have hok:=rgB_ok hB
 have hsz:l.toArray.size=l.length:=by simp
 refine wpAny_rely hok (fun L vs w=>(∀ j,L j=true→vs j=cs.getD j undef)∧∃ p,Ph p w∧p≤so.length∧∀ q k,so[q]? = some k→(L k=true↔q < p)) ?_ ?_ l.toArray.size (Array.replicate l.toArray.size false) (fun _=>undef) a w.drew ?_ ?_ ?_
 ·intro i o ho L vs w hI hpre hLi hpost
  obtain ⟨hv,p,hP,hple,hp⟩:=hI
  have hil:i < l.length:=by rw [← hsz]; exact (Array.getElem?_eq_some_iff.1 ho).1
  have hi:=rcSteps_at hs i o (by simpa using ho)
  rw [Nat.zero_add] at hi
  have hkey:∀ q,so[q]? = some i→p=q:=fun q hq=>by
   have h1:¬ q < p:=fun h=>by have:=(hp q i hq).2 h; rw [hLi] at this; cases this
   refine Nat.le_antisymm (Nat.le_of_not_lt h1) (Nat.le_of_not_lt fun h2 => ?_)
   have hql:q < so.length:=(List.getElem?_eq_some_iff.1 hq).1
   have hk:so[p]? = some so[p]:=List.getElem?_eq_getElem (by omega)
   have h3:=((rcB_at hso hq).2 p _ h2 hk).1
   exact Nat.lt_irrefl p ((hp p _ hk).1 (hpre _ h3))
  rw [show rgAct l.toArray.toList a vs=rgAct l a vs from rfl,hfr vs]
  refine rgDo_mono (fun v w' he=>⟨fun j hj => ?_,?_⟩) (hi vs p w (rcEq_of fun j hj=>hv j (hpre j hj)) hP hkey)
  ·by_cases hji:j=i
   ·subst hji
    rw [← he.1]; simp [rgSet]
   ·have:(if j=i then true else L j)=true:=hj
    rw [if_neg hji] at this
    rw [← hv j this]; simp [rgSet,hji]
  ·have hw:=he.2
   cases hc:so.contains i with
   | false =>
    rw [hc] at hw
    refine ⟨p,hw,hple,fun q k hq => ?_⟩
    have hki:k≠i:=fun e=>by
     have:so.contains k=true:=by simpa using List.mem_of_getElem? hq
     rw [e,hc] at this; cases this
    show (if k=i then true else L k)=true↔_
    rw [if_neg hki]; exact hp q k hq
   | true =>
    rw [hc] at hw
    obtain ⟨q,hq⟩:=List.mem_iff_getElem?.1 (by simpa using hc:i∈so)
    have hpq:=hkey q hq
    have hql:q < so.length:=(List.getElem?_eq_some_iff.1 hq).1
    refine ⟨p+1,hw,by omega,fun q' k hq' => ?_⟩
    show (if k=i then true else L k)=true↔_
    rcases Nat.lt_trichotomy q' q with h | h | h
    ·have h1:=(rcB_at hso hq).2 q' k h hq'
     rw [if_neg h1.2,hp q' k hq']; omega
    ·subst h
     rw [hq] at hq'; cases hq'
     rw [if_pos rfl]; constructor
     ·intro _; omega
     ·intro _; rfl
    ·have h1:=(rcB_at hso hq').2 q i h hq
     have hkl:=(rcB_at hso hq').1
     have h2:=hpost k _ (by simp [hkl]:l.toArray[k]? = some l[k]) h1.1
     rw [if_neg (Ne.symm h1.2),h2]
     constructor
     ·intro h; cases h
     ·intro h; omega
 ·intro L vs w hI hall
  obtain ⟨hv,p,hP,hple,hp⟩:=hI
  have hpl:p=so.length:=by
   refine Nat.le_antisymm hple (Nat.le_of_not_lt fun h => ?_)
   have hk:so[p]? = some so[p]:=List.getElem?_eq_getElem h
   have:=(hp p _ hk).1 (hall _ (by rw [hsz]; exact (rcB_at hso hk).1))
   exact Nat.lt_irrefl _ this
  subst hpl
  have e:rgAct l.toArray.toList a vs=fr fun j=>cs.getD j undef:=by
   rw [← hfr]
   show ({ a with tmps:=_ }:Act) = { a with tmps:=_ }
   congr 1
   exact rgPut_congr l 0 _ _ _ fun j hj=>by rw [Nat.zero_add]; exact hv j (hall j (by rw [hsz]; exact hj))
  rw [e]
  exact hend w hP
 ·refine ⟨rfl,rfl,fun t ht => ?_,by simp,fun j oj _ hl => ?_⟩
  ·refine (rgPut_ne _ _ _ _ _ fun j o hj hd => ?_).symm
   have:=ht j o (by simpa using hj) hd
   rw [getD_replicate_false] at this; cases this
  ·rw [getD_replicate_false] at hl; cases hl
 ·refine Nat.le_trans (List.length_filter_le _ _) (by simp)
 ·refine ⟨fun j hj => ?_,0,h0,Nat.zero_le _,fun q k _ => ?_⟩
  ·have:(Array.replicate l.toArray.size false).getD j false=true:=hj
   rw [getD_replicate_false] at this; cases this
  ·constructor
   ·intro h
    have:(Array.replicate l.toArray.size false).getD k false=true:=h
    rw [getD_replicate_false] at this; cases this
   ·intro h; omega
theorem wp_region_const2 {P:Program} {id:Nat} {Q:Exit→Act→World→Prop} {a:Act} {w:World} {l:List Oper} (pr:List (List Nat)) (cs:List Value) (so:List Nat) (Ph:Nat→World→Prop) (fr:(Nat→Value)→Act) {frc:Act}
  (hm:P.follows .mixedOrders=true) (hB:rgB l.toArray pr a.tmps.size=true) (hso:rcB so pr l.length=true) (hfr:∀ vs,rgAct l a vs=fr vs) (hfc:(fr fun j=>cs.getD j undef)=frc)
  (h0:Ph 0 w.drew)
  (hs:rcSteps P l.toArray pr cs so Ph fr 0 l)
  (hend:∀ w,Ph so.length w→Q .normal frc w):(Code.region id l.toArray true).wp P Q a w :=
 wp_region_const pr cs so Ph fr hm hB hso hfr h0 hs fun w h=>by rw [hfc]; exact hend w h
theorem hset_q (w:World) (h:Hand) (s:St) (k v:ByteArray) (hon:h.on=true) (hq:QSt w h s) (hk:k≠emptyB) (hz:s.size < 1000000000000) :
  Calls Tryz.prog 208 #[.pointer h.ptr,.string k,.string v] w fun e w'=>e = .returned (.int .i64 0)∧QOn w h (s.set k v) w':=by
 rcases hq with ⟨_,b,hp,hS⟩ | ⟨h0,_⟩
 ·rw [hp]
  exact (set_any w b s h.L k v hS hk hz).mono fun e w' ⟨he,L',h1,h2⟩=>⟨he,L',.inl ⟨hon,b,hp,h1⟩,h2⟩
 ·rw [hon] at h0; cases h0
theorem hsetInt_q (w:World) (h:Hand) (s:St) (k:ByteArray) (n:Int) (hon:h.on=true) (hn:n < 9223372036854775808) (hq:QSt w h s) (hz:s.size < 1000000000000) :
  Calls Tryz.prog 114 #[.pointer h.ptr,.string k,.int .i64 n] w fun e w'=>e = .returned (.tuple #[])∧QOn w h (s.setInt k n) w':=by
 rcases hq with ⟨_,b,hp,hS⟩ | ⟨h0,_⟩
 ·rw [hp]
  exact (setIntG_any w b s h.L k n hn hS hz).mono fun e w' ⟨he,L',h1,h2⟩=>⟨he,L',.inl ⟨hon,b,hp,h1⟩,h2⟩
 ·rw [hon] at h0; cases h0
def ptB (b:Nat) (a:W4):ByteArray:=numB b ++ amtB a
theorem rg_pt0 {ops:Array Oper} {o:Oper} {a:Act} {w:World} {K:Value→World→Prop} {x:Operand} {g:Nat} (hg:Region.wanted o (yielded ops a.tmps)=true) (ho:o.op = .fieldAddr 233 x 0) (hx:a.eval x = .pointer (some ⟨g,0,none⟩)) (hk:K (.pointer (some ⟨g,0,none⟩)) w):rgDo Tryz.prog ops o a w K:=by
 refine rg_value hg ?_ hk
 unfold execOp
 simp only [ho,hx]
 go_simp
theorem rg_pt1 {ops:Array Oper} {o:Oper} {a:Act} {w:World} {K:Value→World→Prop} {x:Operand} {g:Nat} (hg:Region.wanted o (yielded ops a.tmps)=true) (ho:o.op = .fieldAddr 233 x 1) (hx:a.eval x = .pointer (some ⟨g,0,none⟩)) (hk:K (.pointer (some ⟨g,1,none⟩)) w):rgDo Tryz.prog ops o a w K:=by
 refine rg_value hg ?_ hk
 unfold execOp
 simp only [ho,hx]
 go_simp
theorem rg_loadN {ops:Array Oper} {o:Oper} {a:Act} {w:World} {K:Value→World→Prop} {x:Operand} {g k:Nat} {n:Int} (hg:Region.wanted o (yielded ops a.tmps)=true) (ho:o.op = .load 3 x) (hx:a.eval x = .pointer (some ⟨g,k,none⟩)) (hc:w.cell? ⟨g,k,none⟩=some (.int .i64 n)) (hk:K (.int .i64 n) w):rgDo Tryz.prog ops o a w K:=by
 refine rg_value hg ?_ hk
 unfold execOp
 simp only [ho,hx]
 go_simp
theorem rg_cat {ops:Array Oper} {o:Oper} {a:Act} {w:World} {K:Value→World→Prop} {x y:Operand} {u v:ByteArray} (hg:Region.wanted o (yielded ops a.tmps)=true) (ho:o.op = .binOp .add 9 x y 9) (hx:a.eval x = .string u) (hy:a.eval y = .string v) (hu:u.size=8) (hs:v.size=32) (hk:K (.string (u ++ v)) w):rgDo Tryz.prog ops o a w K:=by
 refine rg_value hg ?_ hk
 unfold execOp
 simp only [ho,hx,hy]
 go_simp
def HwPh (h:Hand) (w:World) (s s2:St) (rs:List (Nat × Obj)):Nat→World→Prop
 | 0,W=>HV h w s rs W∧Below w.heap.size w W
 | 1,W=>HV h w s rs W∧Below w.heap.size w W
 | 2,W=>HV h w s rs W∧Below w.heap.size w W
 | 3,W=>HV h w s rs W∧Below w.heap.size w W
 | _+4,W=>HV h w s2 rs W
theorem HwPh.row {h:Hand} {w W:World} {s s2:St} {rs:List (Nat × Obj)} {p:Nat} (hP:HwPh h w s s2 rs p W) {g:Nat} {o:Obj} (hm:(g,o)∈rs):W.heap[g]? = some o:=by
 match p,hP with
 | 0,hP | 1,hP | 2,hP | 3,hP=>exact QV.row hP.1 hm
 | _+4,hP=>exact QV.row hP hm
theorem hwriteP_q (w:World) (h:Hand) (s:St) (t:Nat) (ht1:1≤t) (ht2:t≤255) (y:Value) (l:List Int) (n:Int) (b:Nat) (a:W4) (hon:h.on=true) (hi:IntsAt w y l) (hl:IdOk l) (hn:I63 n) (hb63:b < 9223372036854775808) (hq:QSt w h s) (hz:s.size < 1000000000000) (hk:keyL t (l ++ [n])≠emptyB) :
  Calls Tryz.prog 219 #[.pointer h.ptr,.int .i64 t,y,.int .i64 n,.agg (pL b a)] w fun e w'=>e = .returned (.tuple #[])∧QOn w h (s.set (keyL t (l ++ [n])) (ptB b a)) w':=by
 have hB:=(HV.start hq).alloc (pO b a)
 have hb0:=bl_alloc (Below.refl _ w) (pO b a)
 have HAT:Hid (∀ rs W,HV h w s rs W∧Below w.heap.size w W→Calls Tryz.prog 228 #[.int .i64 t,y,.int .i64 n] W fun e w'=>e = .returned (.string (keyL t (l ++ [n])))∧HV h w s rs w'∧Below w.heap.size w w'):=fun rs W hW=>(histAt_any t ht1 ht2 W y l n (hi.below hW.2) hl hn).mono fun e w' ⟨he,h2⟩=>⟨he,QV.below hW.1 h2,bl_then hW.2 h2⟩
 have HNU:Hid (∀ rs W,HV h w s rs W∧Below w.heap.size w W→Calls Tryz.prog 162 #[.int .i64 b] W fun e w'=>e = .returned (.string (numB b))∧HV h w s rs w'∧Below w.heap.size w w'):=fun rs W hW=>(num_any b W hb63).mono fun e w' ⟨he,h2⟩=>⟨he,QV.below hW.1 h2,bl_then hW.2 h2⟩
 have HAM:Hid (∀ rs W,HV h w s rs W∧Below w.heap.size w W→Calls Tryz.prog 150 #[uV a] W fun e w'=>e = .returned (.string (amtB a))∧HV h w s rs w'∧Below w.heap.size w w'):=fun rs W hW=>(kamount_any a W).mono fun e w' ⟨he,h2⟩=>⟨he,QV.below hW.1 h2,bl_then hW.2 h2⟩
 have HST:Hid (∀ rs W,HV h w s rs W∧Below w.heap.size w W→Calls Tryz.prog 208 #[.pointer h.ptr,.string (keyL t (l ++ [n])),.string (numB b ++ amtB a)] W fun e w'=>e = .returned (.int .i64 0)∧HV h w (s.set (keyL t (l ++ [n])) (ptB b a)) rs w'):=fun rs W hW=>QV.call hW.1 fun L' h1=>hset_q W ⟨h.ptr,h.on,L'⟩ s _ _ hon h1 hk hz
 have h32:(amtB a).size=32:=by show (amtL a).toArray.size=32; simp [amtL]
 have h8:(numB b).size=8:=rfl
 generalize s.set (keyL t (l ++ [n])) (ptB b a)=s2 at *
 generalize keyL t (l ++ [n])=kk at *
 generalize amtB a=am at *
 generalize numB b=nb at *
 have HB0:Hid (HwPh h w s s2 [(w.heap.size,pO b a)] 0 (w.alloc (pO b a)).drew):=⟨hB.drew,bl_drew hb0⟩
 have HS32:=Lib.hid h32
 have HS8:=Lib.hid h8
 clear hB hb0 hi hl hn hq hz hk h32 h8
 go_enter Tryz.func219,Tryz.ntmps219
 go_upto_region 1 with fail
 refine wp_region_const2 [[],[],[],[],[1,2,3],[],[5],[1,2,3,4,5,6],[],[8],[1,2,3,4,5,6,7,8,9],[1,2,3,4,5,6,7,8,9,10],[0,1,2,3,4,5,6,7,8,9,10,11]]
  [.pointer h.ptr,.int .i64 t,y,.int .i64 n,.string kk,.pointer (some ⟨w.heap.size,0,none⟩),.int .i64 b,.string nb,.pointer (some ⟨w.heap.size,1,none⟩),uV a,.string am,.string (nb ++ am),.int .i64 0]
  [4,7,10,12] (HwPh h w s s2 [(w.heap.size,pO b a)]) _ (by kernel_rfl) (by kernel_rfl) (by kernel_rfl)
  (fun vs=>by simp only [rgAct,rgPut,List.setIfInBounds_toArray,List.set_cons_zero,List.set_cons_succ]; exact rfl)
  (by simp only [List.getD_cons_zero,List.getD_cons_succ]; exact rfl) HB0.out ?_ ?_
 ·refine ⟨?_,?_,?_,?_,?_,?_,?_,?_,?_,?_,?_,?_,?_,trivial⟩
  ·intro vs p w1 hA hP hq
   exact rg_move rfl (.inl rfl) rfl ⟨rfl,hP⟩
  ·intro vs p w1 hA hP hq
   exact rg_move rfl (.inl rfl) rfl ⟨rfl,hP⟩
  ·intro vs p w1 hA hP hq
   exact rg_move rfl (.inl rfl) rfl ⟨rfl,hP⟩
  ·intro vs p w1 hA hP hq
   exact rg_move rfl (.inl rfl) rfl ⟨rfl,hP⟩
  ·intro vs p w1 hA hP hq
   obtain ⟨e1,e2,e3,_⟩:=hA
   have e1:vs 1 = .int .i64 t:=e1
   have e2:vs 2=y:=e2
   have e3:vs 3 = .int .i64 n:=e3
   have hp:=hq 0 rfl
   subst hp
   refine rg_fn rfl rfl rfl (by kernel_rfl) (show [vs 1,vs 2,vs 3]=_ from by rw [e1,e2,e3]) (Calls.mono (HAT.out _ _ hP) ?_)
   rintro e w2 ⟨rfl,hP2⟩
   exact ⟨_,rfl,rfl,hP2⟩
  ·intro vs p w1 hA hP hq
   exact rg_pt0 rfl rfl rfl ⟨rfl,hP⟩
  ·intro vs p w1 hA hP hq
   obtain ⟨e5,_⟩:=hA
   have e5:vs 5 = .pointer (some ⟨w.heap.size,0,none⟩):=e5
   exact rg_loadN rfl rfl e5 (row5 (n:=(b:Int)) (a:=a) (HwPh.row hP (by simp))).1.1 ⟨rfl,hP⟩
  ·intro vs p w1 hA hP hq
   obtain ⟨_,_,_,_,_,e6,_⟩:=hA
   have e6:vs 6 = .int .i64 b:=e6
   have hp:=hq 1 rfl
   subst hp
   refine rg_fn rfl rfl rfl (by kernel_rfl) (show [vs 6]=_ from by rw [e6]) (Calls.mono (HNU.out _ _ hP) ?_)
   rintro e w2 ⟨rfl,hP2⟩
   exact ⟨_,rfl,rfl,hP2⟩
  ·intro vs p w1 hA hP hq
   exact rg_pt1 rfl rfl rfl ⟨rfl,hP⟩
  ·intro vs p w1 hA hP hq
   obtain ⟨e8,_⟩:=hA
   have e8:vs 8 = .pointer (some ⟨w.heap.size,1,none⟩):=e8
   exact rg_load4 rfl rfl e8 ⟨(row5 (n:=(b:Int)) (a:=a) (HwPh.row hP (by simp))).1.2.1,(row5 (n:=(b:Int)) (a:=a) (HwPh.row hP (by simp))).1.2.2.1,(row5 (n:=(b:Int)) (a:=a) (HwPh.row hP (by simp))).1.2.2.2.1,(row5 (n:=(b:Int)) (a:=a) (HwPh.row hP (by simp))).1.2.2.2.2⟩ ⟨rfl,hP⟩
  ·intro vs p w1 hA hP hq
   obtain ⟨_,_,_,_,_,_,_,_,e9,_⟩:=hA
   have e9:vs 9=uV a:=e9
   have hp:=hq 2 rfl
   subst hp
   refine rg_fn rfl rfl rfl (by kernel_rfl) (show [vs 9]=_ from by rw [e9]) (Calls.mono (HAM.out _ _ hP) ?_)
   rintro e w2 ⟨rfl,hP2⟩
   exact ⟨_,rfl,rfl,hP2⟩
  ·intro vs p w1 hA hP hq
   obtain ⟨_,_,_,_,_,_,e7,_,_,e10,_⟩:=hA
   have e7:vs 7 = .string nb:=e7
   have e10:vs 10 = .string am:=e10
   exact rg_cat rfl rfl e7 e10 HS8.out HS32.out ⟨rfl,hP⟩
  ·intro vs p w1 hA hP hq
   obtain ⟨e0,_,_,_,e4,_,_,_,_,_,_,e11,_⟩:=hA
   have e0:vs 0 = .pointer h.ptr:=e0
   have e4:vs 4 = .string kk:=e4
   have e11:vs 11 = .string (nb ++ am):=e11
   have hp:=hq 3 rfl
   subst hp
   refine rg_fn rfl rfl rfl (by kernel_rfl) (show [vs 0,vs 4,vs 11]=_ from by rw [e0,e4,e11]) (Calls.mono (HST.out _ _ hP) ?_)
   rintro e w2 ⟨rfl,hP2⟩
   exact ⟨_,rfl,rfl,hP2⟩
 ·intro W hW
  have HW:Hid (HV h w s2 [(w.heap.size,pO b a)] W):=hW
  clear hW
  go_wp2_with fail
  go_end0
  exact ⟨rfl,HV.done HW.out⟩
abbrev pbx (g:Nat) (q:Option Addr) (t:Int) (y:Value) (b:Int) (a:W4):List (Nat × Obj):=[(g+1+1+1+1,uO a),(g+1+1+1,.cells #[.int .i64 b] 3),(g+1+1,.cells #[y] 75),(g+1,.cells #[.int .i64 t] 3),(g,.cells #[.pointer q] 39)]
theorem cell1 {w:World} {g:Nat} {v:Value} {T:TypeId} (h:w.heap[g]? = some (.cells #[v] T (0,0))):w.cell? ⟨g,0,none⟩=some v:=by rw [cell_of_row _ _ _ _ _ _ h]; rfl
theorem push1_q (w W:World) (h:Hand) (s:St) (rs:List (Nat × Obj)) (g t:Nat) (ht1:1≤t) (ht2:t≤255) (y:Value) (l:List Int) (i:Int) (b:Nat) (a:W4) (hon:h.on=true) (hI:∀ W L',Step w h.L W L'→IntsAt W y l) (hl:IdOk l) (hn:I63 i) (hb63:b < 9223372036854775808) (hz:s.size < 1000000000000) (hk:keyL t (l ++ [i])≠emptyB)
  (hsub:∀ x,x∈pbx g h.ptr t y b a→x∈rs) (hV:HV h w s rs W) :
  Calls Tryz.prog 218 #[.int .i64 i,.pointer (some ⟨g,0,none⟩),.pointer (some ⟨g+1,0,none⟩),.pointer (some ⟨g+1+1,0,none⟩),.pointer (some ⟨g+1+1+1,0,none⟩),.pointer (some ⟨g+1+1+1+1,0,none⟩)] W fun e w'=>e = .returned (.int .i64 0)∧HV h w (s.set (keyL t (l ++ [i])) (ptB b a)) rs w':=by
 have HWR:Hid (Calls Tryz.prog 219 #[.pointer h.ptr,.int .i64 t,y,.int .i64 i,.agg (pL b a)] W fun e w'=>e = .returned (.tuple #[])∧HV h w (s.set (keyL t (l ++ [i])) (ptB b a)) rs w'):=by
  obtain ⟨L0,_,st,_⟩:=hV.on
  exact QV.call hV fun L' h1=>hwriteP_q W ⟨h.ptr,h.on,L'⟩ s t ht1 ht2 y l i b a hon (hI W L0 st) hl hn hb63 h1 hz hk
 have c0:=cell1 (hV.row (g:=g) (o:=.cells #[.pointer h.ptr] 39) (hsub _ (by simp)))
 have c1:=cell1 (hV.row (g:=g+1) (o:=.cells #[.int .i64 t] 3) (hsub _ (by simp)))
 have c2:=cell1 (hV.row (g:=g+1+1) (o:=.cells #[y] 75) (hsub _ (by simp)))
 have c3:=cell1 (hV.row (g:=g+1+1+1) (o:=.cells #[.int .i64 b] 3) (hsub _ (by simp)))
 obtain ⟨a0,a1,a2,a3,_⟩:=row4 (hV.row (g:=g+1+1+1+1) (o:=uO a) (hsub _ (by simp)))
 generalize s.set (keyL t (l ++ [i])) (ptB b a)=s2 at *
 clear hI hl hn hz hk hsub hV
 generalize ((t:Nat):Int)=tt at *
 go_enter Tryz.func218,Tryz.ntmps218
 go_wp2_with fail
 refine Calls.mono HWR.out ?_
 rintro e w2 ⟨rfl,hV2⟩
 have HV2:=Lib.hid hV2
 clear hV2 HWR
 go_wp2_with fail
 go_ret
 exact ⟨rfl,HV2.out⟩
theorem hmade_q (w:World) (h:Hand) (s:St) (hon:h.on=true) (hq:QSt w h s):Calls Tryz.prog 66 #[.pointer h.ptr] w fun e w'=>e = .returned (.bool true)∧Below w.heap.size w w':=by
 rcases hq with ⟨_,b,hp,hS⟩ | ⟨h0,_⟩
 ·rw [hp]
  exact (made_at w b true hS.cell0).mono fun e w' ⟨he,hw⟩=>⟨he,by subst hw; exact Below.refl _ _⟩
 ·rw [hon] at h0; cases h0
def St.hpL (s:St) (t:Nat) (l:List Int):Nat × W4:=hpt (s.val (keyL t (l ++ [((s.hlen t l:Nat):Int) - 1])))
def St.hnew (s:St) (t:Nat) (l:List Int) (b:Nat) (a:W4):St:=(s.setInt (keyL t l) (((s.hlen t l:Nat):Int)+1)).set (keyL t (l ++ [((s.hlen t l:Nat):Int)])) (ptB b a)
def hpuE (s:St) (t:Nat) (l:List Int) (b:Nat):Int:=if 0 < s.hlen t l∧b < (s.hpL t l).1 then 10 else 0
def hpuSt (s:St) (t:Nat) (l:List Int) (b:Nat) (a:W4):St:=if 0 < s.hlen t l then (if b < (s.hpL t l).1 then s else if b=(s.hpL t l).1 then s.set (keyL t (l ++ [((s.hlen t l:Nat):Int) - 1])) (ptB b a) else if a=(s.hpL t l).2 then s else s.hnew t l b a) else s.hnew t l b a
theorem kpos (t:Nat) {l:List Int} (hpos:∀ x∈l,0≤x) {i:Int} (hi:0≤i):keyL t (l ++ [i])≠emptyB:=keyL_some t fun x hx=>by
 rcases List.mem_append.1 hx with h | h
 ·exact hpos x h
 ·rw [List.mem_singleton] at h; subst h; exact hi
theorem idOk_snoc {w:World} {h:Hand} {s:St} {rs:List (Nat × Obj)} {W:World} (hV:HV h w s rs W):∃ L',Step w h.L W L':=by
 obtain ⟨L0,_,st,_⟩:=hV.on
 exact ⟨L0,st⟩
theorem hpush_q (w:World) (h:Hand) (s:St) (f t:Nat) (ht1:1≤t) (ht2:t≤255) (y:Value) (l:List Int) (b:Nat) (a:W4) (hon:h.on=true) (hI:∀ W L',Step w h.L W L'→IntsAt W y l) (hl:IdOk l) (hpos:∀ x∈l,0≤x) (hbM:b≤1099511627776) (hq:QSt w h s) (hf:s.Fit f) (hm:f < 1000000000) (hnm:s.hlen t l < 9223372036854775807) :
  Calls Tryz.prog 172 #[.pointer h.ptr,.int .i64 t,y,.int .i64 b,uV a] w fun e w'=>e = .returned (.int .i64 (hpuE s t l b))∧QOn w h (hpuSt s t l b a) w':=by
 have hB:=(((((HV.start hq).alloc (.cells #[.pointer h.ptr] 39)).alloc (.cells #[.int .i64 t] 3)).alloc (.cells #[y] 75)).alloc (.cells #[.int .i64 b] 3)).alloc (uO a)
 simp only [World.size_alloc] at hB
 have hmm:f < 100000000000:=by omega
 have hz:s.size < 1000000000000:=Nat.lt_of_le_of_lt hf.size (by omega)
 have hkk:keyL t l≠emptyB:=keyL_some t hpos
 have hn63:=int_lt63 s (keyL t l)
 have hnn:s.hlen t l < 9223372036854775808:=hn63
 have HKY:Hid (∀ rs W,HV h w s rs W→Calls Tryz.prog 90 #[.int .i64 t,y] W fun e w'=>e = .returned (.string (keyL t l))∧HV h w s rs w'):=fun rs W hV=>by
  obtain ⟨L0,st⟩:=idOk_snoc hV
  exact (key_any t ht1 ht2 y l W (hI W L0 st) (by have:=hl.len; omega) hl.lt).mono fun e w' ⟨he,hb⟩=>⟨he,QV.below hV hb⟩
 have HLN:Hid (∀ rs W,HV h w s rs W→Calls Tryz.prog 180 #[.pointer h.ptr,.int .i64 t,y] W fun e w'=>e = .returned (.int .i64 (s.hlen t l))∧HV h w s rs w'):=fun rs W hV=>by
  obtain ⟨L0,st⟩:=idOk_snoc hV
  exact hV.reads fun L' h1=>histLen_q W ⟨h.ptr,h.on,L'⟩ s f t ht1 ht2 y l (hI W L0 st) hl h1 hf hmm
 have HMD:Hid (∀ rs W,HV h w s rs W→Calls Tryz.prog 66 #[.pointer h.ptr] W fun e w'=>e = .returned (.bool true)∧HV h w s rs w'):=fun rs W hV=>hV.reads fun L' h1=>hmade_q W ⟨h.ptr,h.on,L'⟩ s hon h1
 have HRD:Hid (0 < s.hlen t l→∀ rs W,HV h w s rs W→Calls Tryz.prog 181 #[.pointer h.ptr,.int .i64 t,y,.int .i64 (((s.hlen t l:Nat):Int) - 1)] W fun e w'=>e = .returned (.agg (pL (s.hpL t l).1 (s.hpL t l).2))∧HV h w s rs w'):=fun h0 rs W hV=>by
  obtain ⟨L0,st⟩:=idOk_snoc hV
  exact hV.reads fun L' h1=>histRead_q W ⟨h.ptr,h.on,L'⟩ s f t ht1 ht2 y l (((s.hlen t l:Nat):Int) - 1) (hI W L0 st) hl (by show ((s.hlen t l:Nat):Int) - 1 < 9223372036854775808; omega) h1 hf hmm
 have HCA:Hid (0 < s.hlen t l→∀ rs W,(∀ x,x∈pbx w.heap.size h.ptr t y b a→x∈rs)→HV h w s rs W→Calls Tryz.prog 218 #[.int .i64 (((s.hlen t l:Nat):Int) - 1),.pointer (some ⟨w.heap.size,0,none⟩),.pointer (some ⟨w.heap.size+1,0,none⟩),.pointer (some ⟨w.heap.size+1+1,0,none⟩),.pointer (some ⟨w.heap.size+1+1+1,0,none⟩),.pointer (some ⟨w.heap.size+1+1+1+1,0,none⟩)] W fun e w'=>e = .returned (.int .i64 0)∧HV h w (s.set (keyL t (l ++ [((s.hlen t l:Nat):Int) - 1])) (ptB b a)) rs w'):=fun h0 rs W hsub hV =>
  push1_q w W h s rs w.heap.size t ht1 ht2 y l _ b a hon hI hl (by show ((s.hlen t l:Nat):Int) - 1 < 9223372036854775808; omega) (by omega) hz (kpos t hpos (by omega)) hsub hV
 have HSI:Hid (s.hlen t l < 9223372036854775807→∀ rs W,HV h w s rs W→Calls Tryz.prog 114 #[.pointer h.ptr,.string (keyL t l),.int .i64 (((s.hlen t l:Nat):Int)+1)] W fun e w'=>e = .returned (.tuple #[])∧HV h w (s.setInt (keyL t l) (((s.hlen t l:Nat):Int)+1)) rs w'):=fun h0 rs W hV=>QV.call hV fun L' h1=>hsetInt_q W ⟨h.ptr,h.on,L'⟩ s _ _ hon (by omega) h1 hz
 have hz1:(s.setInt (keyL t l) (((s.hlen t l:Nat):Int)+1)).size < 1000000000000:=Nat.lt_of_le_of_lt (hf.setInt _ _).size (by omega)
 have HCB:Hid (∀ rs W,(∀ x,x∈pbx w.heap.size h.ptr t y b a→x∈rs)→HV h w (s.setInt (keyL t l) (((s.hlen t l:Nat):Int)+1)) rs W→Calls Tryz.prog 218 #[.int .i64 ((s.hlen t l:Nat):Int),.pointer (some ⟨w.heap.size,0,none⟩),.pointer (some ⟨w.heap.size+1,0,none⟩),.pointer (some ⟨w.heap.size+1+1,0,none⟩),.pointer (some ⟨w.heap.size+1+1+1,0,none⟩),.pointer (some ⟨w.heap.size+1+1+1+1,0,none⟩)] W fun e w'=>e = .returned (.int .i64 0)∧HV h w (s.hnew t l b a) rs w'):=fun rs W hsub hV =>
  push1_q w W h _ rs w.heap.size t ht1 ht2 y l _ b a hon hI hl (by show ((s.hlen t l:Nat):Int) < 9223372036854775808; omega) (by omega) hz1 (kpos t hpos (by omega)) hsub hV
 have hE0:hpuE s t l b=(if 0 < s.hlen t l∧b < (s.hpL t l).1 then 10 else 0):=rfl
 have hS0:hpuSt s t l b a=(if 0 < s.hlen t l then (if b < (s.hpL t l).1 then s else if b=(s.hpL t l).1 then s.set (keyL t (l ++ [((s.hlen t l:Nat):Int) - 1])) (ptB b a) else if a=(s.hpL t l).2 then s else s.hnew t l b a) else s.hnew t l b a):=rfl
 have HLAW:=Lib.hid (And.intro hE0 hS0)
 have hys:∃ ya yn yk,y = .slice ya yn yk:=by
  rcases hI w h.L (Step.refl _ _) with ⟨e,_⟩ | ⟨a,c,e,_⟩
  ·exact ⟨_,_,_,e⟩
  ·exact ⟨_,_,_,e⟩
 obtain ⟨ya,yn,yk,hy⟩:=hys
 subst hy
 have HB:=Lib.hid hB
 obtain ⟨n1,hn1⟩:∃ n1:Int,n1=((s.hlen t l:Nat):Int) - 1:=⟨_,rfl⟩
 obtain ⟨n2,hn2⟩:∃ n2:Int,n2=((s.hlen t l:Nat):Int)+1:=⟨_,rfl⟩
 have hw1:0 < s.hlen t l→IntKind.i64.wrap (((s.hlen t l:Nat):Int) - 1)=n1:=fun h=>by rw [hn1,IntKind.wrap_i64]; omega
 have hw1':0 < s.hlen t l→wrap64 (((s.hlen t l:Nat):Int) - 1)=n1:=fun h=>by rw [hn1]; unfold wrap64; omega
 have hw2:IntKind.i64.wrap (((s.hlen t l:Nat):Int)+1)=n2:=by rw [hn2,IntKind.wrap_i64]; omega
 have hw2':wrap64 (((s.hlen t l:Nat):Int)+1)=n2:=by rw [hn2]; unfold wrap64; omega
 have hb0:((b:Int) < 0)=False:=by simp
 have hbm:((1099511627776:Int) < (b:Int))=False:=by simp; omega
 clear hE0 hS0
 rw [← hn1] at HRD HCA HLAW
 rw [← hn2] at HSI HCB
 generalize hpuE s t l b=rE at *
 generalize hpuSt s t l b a=rS at *
 generalize s.set (keyL t (l ++ [n1])) (ptB b a)=sA at *
 generalize s.setInt (keyL t l) n2=sB at *
 generalize s.hnew t l b a=sC at *
 obtain ⟨⟨p1,p2⟩,hp⟩:∃ p,p=s.hpL t l:=⟨_,rfl⟩
 rw [← hp] at HRD HLAW
 generalize s.hlen t l=n at *
 generalize keyL t l=kk at *
 clear hB hI hl hpos hq hf hm hmm hz hn63 hnn hz1 hp ht1 ht2 hon hbM hn1 hn2
 generalize ((t:Nat):Int)=tt at *
 go_enter Tryz.func172,Tryz.ntmps172
 go_wp2_with fail
 refine Calls.mono (HKY.out _ _ HB.out) ?_
 rintro e w2 ⟨rfl,hB2⟩
 have c0:=cell1 (hB2.row (g:=w.heap.size) (o:=.cells #[.pointer h.ptr] 39) (by simp))
 have c1:=cell1 (hB2.row (g:=w.heap.size+1) (o:=.cells #[.int .i64 tt] 3) (by simp))
 have c2:=cell1 (hB2.row (g:=w.heap.size+1+1) (o:=.cells #[.slice ya yn yk] 75) (by simp))
 have H2:=Lib.hid hB2
 have hke:=emptyK hkk
 have HL2:=Lib.hid (HLN.out _ _ hB2)
 clear hB2 HB HKY HLN H2
 go_wp2_with fail
 refine Calls.mono HL2.out ?_
 rintro e w3 ⟨rfl,hB3⟩
 have d0:=cell1 (hB3.row (g:=w.heap.size) (o:=.cells #[.pointer h.ptr] 39) (by simp))
 have HM3:=Lib.hid (HMD.out _ _ hB3)
 clear hB3 HL2 HMD c0 c1 c2
 go_wp2_with fail
 refine Calls.mono HM3.out ?_
 rintro e w4 ⟨rfl,hB4⟩
 have c0:=cell1 (hB4.row (g:=w.heap.size) (o:=.cells #[.pointer h.ptr] 39) (by simp))
 have c1:=cell1 (hB4.row (g:=w.heap.size+1) (o:=.cells #[.int .i64 tt] 3) (by simp))
 have c2:=cell1 (hB4.row (g:=w.heap.size+1+1) (o:=.cells #[.slice ya yn yk] 75) (by simp))
 have c3:=cell1 (hB4.row (g:=w.heap.size+1+1+1) (o:=.cells #[.int .i64 b] 3) (by simp))
 have HB:=Lib.hid hB4
 clear hB4 HM3 d0
 by_cases h0:0 < n
 ·have hR:=Lib.hid (HRD.out h0 _ _ HB.out)
  have hA:=Lib.hid (HCA.out h0)
  have hd:(0 < n)=True:=eq_true h0
  have hw:=hw1 h0
  have hw':=hw1' h0
  clear HRD HCA hw1 hw1'
  clear HB
  go_wp2_with fail
  refine Calls.mono hR.out ?_
  rintro e w5 ⟨rfl,hB5⟩
  have H5:=Lib.hid hB5
  clear hB5 hR c0 c1 c2 c3
  go_upto_region 10 with fail
  have hB6:=H5.out.alloc (pO p1 p2)
  generalize hW6:w5.alloc (pO p1 p2)=w6 at *
  generalize w5.heap.size=g1 at *
  have c3:=cell1 (hB6.row (g:=w.heap.size+1+1+1) (o:=.cells #[.int .i64 b] 3) (by simp))
  obtain ⟨a0,a1,a2,a3,a4,a5,a6,a7⟩:=row4 (hB6.row (g:=w.heap.size+1+1+1+1) (o:=uO a) (by simp))
  obtain ⟨⟨z0,z1,z2,z3,z4⟩,f0,f1,f2,f3,f4⟩:=row5 (hB6.row (g:=g1) (o:=pO p1 p2) (by simp))
  have HB:=Lib.hid hB6
  clear hB6 hW6 H5
  by_cases hlt:b < p1
  ·have hL:rE=10∧rS=s:=by
    have:=HLAW.out
    rw [if_pos ⟨h0,hlt⟩,if_pos h0,if_pos hlt] at this
    exact this
   obtain ⟨rfl,rfl⟩:=hL
   have hlt2:(b < p1)=True:=eq_true hlt
   clear HLAW hA hlt h0
   go_wp2_with fail
   go_ret
   exact ⟨rfl,HV.done HB.out⟩
  ·have hlt2:(b < p1)=False:=eq_false hlt
   by_cases hbe:b=p1
   ·have hL:rE=0∧rS=sA:=by
     have:=HLAW.out
     rw [if_neg (fun h=>hlt h.2),if_pos h0,if_neg hlt,if_pos hbe] at this
     exact this
    obtain ⟨rfl,rfl⟩:=hL
    have hbe2:(b == p1)=true:=by rw [beq_iff_eq]; exact hbe
    have hbe3:((b:Int) == (p1:Int))=true:=by rw [beq_iff_eq,hbe]
    have HA6:=Lib.hid (hA.out _ _ (fun x hx=>List.mem_cons_of_mem _ hx) HB.out)
    clear HLAW hA hlt hbe h0 HB
    go_wp2_with fail
    refine Calls.mono HA6.out ?_
    rintro e w7 ⟨rfl,hB7⟩
    have HB7:=Lib.hid hB7
    clear hB7 HA6
    go_wp2_with fail
    go_ret
    exact ⟨rfl,HV.done HB7.out⟩
   ·have hbe2:(b == p1)=false:=by rw [beq_eq_false_iff_ne]; exact hbe
    have hbe3:((b:Int) == (p1:Int))=false:=by rw [beq_eq_false_iff_ne]; omega
    by_cases hap:a=p2
    ·have hL:rE=0∧rS=s:=by
      have:=HLAW.out
      rw [if_neg (fun h=>hlt h.2),if_pos h0,if_neg hlt,if_neg hbe,if_pos hap] at this
      exact this
     obtain ⟨rfl,rfl⟩:=hL
     have hE:∀ w,(Op.equalIn 10000 24 (.agg #[.int .u64 a.1,.int .u64 a.2.1,.int .u64 a.2.2.1,.int .u64 a.2.2.2]) (.agg #[.int .u64 p2.1,.int .u64 p2.2.1,.int .u64 p2.2.2.1,.int .u64 p2.2.2.2])).run Tryz.prog w = .ok true w:=fun w=>by
      have:=eqU a p2 w
      rw [decide_eq_true hap] at this
      exact this
     clear HLAW hA hlt hbe h0 hap
     go_wp2_with fail
     go_ret
     exact ⟨rfl,HV.done HB.out⟩
    ·have hL:rE=0∧rS=sC:=by
      have:=HLAW.out
      rw [if_neg (fun h=>hlt h.2),if_pos h0,if_neg hlt,if_neg hbe,if_neg hap] at this
      exact this
     obtain ⟨rfl,rfl⟩:=hL
     have hE:∀ w,(Op.equalIn 10000 24 (.agg #[.int .u64 a.1,.int .u64 a.2.1,.int .u64 a.2.2.1,.int .u64 a.2.2.2]) (.agg #[.int .u64 p2.1,.int .u64 p2.2.1,.int .u64 p2.2.2.1,.int .u64 p2.2.2.2])).run Tryz.prog w = .ok false w:=fun w=>by
      have:=eqU a p2 w
      rw [decide_eq_false hap] at this
      exact this
     have c0:=cell1 (HB.out.row (g:=w.heap.size) (o:=.cells #[.pointer h.ptr] 39) (by simp))
     have HS4:=Lib.hid (HSI.out hnm _ _ HB.out)
     clear HSI HB HLAW hA hlt hbe h0 hap
     go_wp2_with fail
     refine Calls.mono HS4.out ?_
     rintro e w7 ⟨rfl,hB7⟩
     have H7:=Lib.hid (HCB.out _ _ (fun x hx=>List.mem_cons_of_mem _ hx) hB7)
     clear hB7 HS4 HCB hw2 hw2' c0 c3 hke hb0 hbm hd
     go_wp2_with fail
     refine Calls.mono H7.out ?_
     rintro e w8 ⟨rfl,hB8⟩
     have HB8:=Lib.hid hB8
     clear hB8 H7
     go_wp2_with fail
     go_ret
     exact ⟨rfl,HV.done HB8.out⟩
 ·have hd:(0 < n)=False:=eq_false h0
  have hL:rE=0∧rS=sC:=by
   have:=HLAW.out
   rw [if_neg (fun h=>h0 h.1),if_neg h0] at this
   exact this
  obtain ⟨rfl,rfl⟩:=hL
  clear HLAW HRD HCA h0 hw1 hw1'
  have HS4:=Lib.hid (HSI.out hnm _ _ HB.out)
  clear HSI HB
  go_wp2_with fail
  refine Calls.mono HS4.out ?_
  rintro e w5 ⟨rfl,hB5⟩
  have H5:=Lib.hid (HCB.out _ _ (fun x hx=>hx) hB5)
  clear hB5 HS4 HCB hw2 hw2' c0 c1 c2 c3 hke hb0 hbm hd
  go_wp2_with fail
  refine Calls.mono H5.out ?_
  rintro e w6 ⟨rfl,hB6⟩
  have HB6:=Lib.hid hB6
  clear hB6 H5
  go_wp2_with fail
  go_ret
  exact ⟨rfl,HV.done HB6.out⟩
end Go.Proofs.YtnkilceibkkjlaaGreat
