/- What is proved here: a drawn region whose operations' values are known ahead, and whose world is turned by some of them in a forced order (phases). Conditions: none. history of the program: a checkpoint written. Conditions: sizes, ints below 2^63, words below 2^64. -/
import Derived.Test.YtnkilceibkkjlaaGreatHRelyG
import Derived.Test.YtnkilceibkkjlaaGreatHExGet
set_option maxRecDepth 100000
set_option maxHeartbeats 16000000
namespace Go.Proofs.YtnkilceibkkjlaaGreat
open Go.RowKit
def rcEq (vs:Nat→Value) (cs:List Value):List Nat→Prop
 | []=>True
 | j :: l=>vs j=cs.getD j undef∧rcEq vs cs l
theorem rcEq_of {vs:Nat→Value} {cs:List Value}:∀ {l:List Nat},(∀ j∈l,vs j=cs.getD j undef)→rcEq vs cs l
 | [],_=>trivial
 | j :: _,h=>⟨h j (by simp),rcEq_of fun i hi=>h i (by simp [hi])⟩
def rcSteps (P:Program) (ops:Array Oper) (pr:List (List Nat)) (cs:List Value) (so:List Nat) (Ph:Nat→World→Prop) (fr:(Nat→Value)→Act):Nat→List Oper→Prop
 | _,[]=>True
 | k,o :: l=>(∀ vs p w,rcEq vs cs (pr.getD k [])→Ph p w→(∀ q,so[q]? = some k→p=q)→rgDo P ops o (fr vs) w fun v w'=>v=cs.getD k undef∧Ph (bif so.contains k then p+1 else p) w')∧rcSteps P ops pr cs so Ph fr (k+1) l
theorem rcSteps_at {P:Program} {ops:Array Oper} {pr:List (List Nat)} {cs:List Value} {so:List Nat} {Ph:Nat→World→Prop} {fr:(Nat→Value)→Act}:∀ {l:List Oper} {k:Nat},rcSteps P ops pr cs so Ph fr k l→∀ (i:Nat) (o:Oper),l[i]? = some o →
  ∀ vs p w,rcEq vs cs (pr.getD (k+i) [])→Ph p w→(∀ q,so[q]? = some (k+i)→p=q)→rgDo P ops o (fr vs) w fun v w'=>v=cs.getD (k+i) undef∧Ph (bif so.contains (k+i) then p+1 else p) w'
 | [],_,_,i,o,h=>by simp at h
 | x :: l,k,h,0,o,ho=>by
  simp only [List.getElem?_cons_zero,Option.some.injEq] at ho
  subst ho; exact h.1
 | x :: l,k,h,i+1,o,ho=>by
  have:=rcSteps_at h.2 i o (by simpa using ho)
  rwa [show k+1+i=k+(i+1) by omega] at this
def rcB (so:List Nat) (pr:List (List Nat)) (n:Nat):Bool:=(List.range so.length).all fun q=>decide (so.getD q 0 < n) && (List.range q).all fun q'=>(pr.getD (so.getD q 0) []).contains (so.getD q' 0) && (so.getD q' 0 != so.getD q 0)
theorem rcB_at {so:List Nat} {pr:List (List Nat)} {n:Nat} (h:rcB so pr n=true) {q k:Nat} (hq:so[q]? = some k):k < n∧∀ q' k',q' < q→so[q']? = some k'→k'∈pr.getD k []∧k'≠k:=by
 have hl:q < so.length:=(List.getElem?_eq_some_iff.1 hq).1
 have h1:=List.all_eq_true.1 h q (List.mem_range.2 hl)
 rw [Bool.and_eq_true,decide_eq_true_eq] at h1
 have e:so.getD q 0=k:=by rw [List.getD_eq_getElem?_getD,hq]; rfl
 rw [e] at h1
 refine ⟨h1.1,fun q' k' hlt hq' => ?_⟩
 have h2:=List.all_eq_true.1 h1.2 q' (List.mem_range.2 hlt)
 have e':so.getD q' 0=k':=by rw [List.getD_eq_getElem?_getD,hq']; rfl
 rw [e',Bool.and_eq_true] at h2
 exact ⟨by simpa using h2.1,by simpa using h2.2⟩
theorem rgPut_congr (l:List Oper):∀ (k:Nat) (vs vs':Nat→Value) (t:Array Value),(∀ j,j < l.length→vs (k+j)=vs' (k+j))→rgPut l k vs t=rgPut l k vs' t:=by
 induction l with
 | nil=>intro k vs vs' t _; rfl
 | cons o l ih =>
  intro k vs vs' t h
  have h0:vs k=vs' k:=h 0 (by simp)
  simp only [rgPut,h0]
  exact ih (k+1) vs vs' _ fun j hj=>by
   have:=h (j+1) (by simpa using hj)
   rwa [show k+(j+1)=k+1+j by omega] at this
theorem wp_region_const {P:Program} {id:Nat} {Q:Exit→Act→World→Prop} {a:Act} {w:World} {l:List Oper} (pr:List (List Nat)) (cs:List Value) (so:List Nat) (Ph:Nat→World→Prop) (fr:(Nat→Value)→Act)
  (hm:P.follows .mixedOrders=true) (hB:rgB l.toArray pr a.tmps.size=true) (hso:rcB so pr l.length=true) (hfr:∀ vs,rgAct l a vs=fr vs)
  (h0:Ph 0 w.drew)
  (hs:rcSteps P l.toArray pr cs so Ph fr 0 l)
  (hend:∀ w,Ph so.length w→Q .normal (fr fun j=>cs.getD j undef) w):(Code.region id l.toArray true).wp P Q a w:=by
 refine wp_region_any hm ?_
 have hok:=rgB_ok hB
 have hsz:l.toArray.size=l.length:=by simp
 refine wpAny_rely hok (fun L vs w=>(∀ j,L j=true→vs j=cs.getD j undef)∧∃ p,Ph p w∧p≤so.length∧∀ q k,so[q]? = some k→(L k=true↔q < p)) ?_ ?_ l.toArray.size (Array.replicate l.toArray.size false) (fun _=>undef) a w.drew ?_ ?_ ?_
 ·intro i o ho L vs w hI hpre hLi hpost
  obtain ⟨hv,p,hP,hple,hp⟩:=hI
  have hil:i < l.length:=by rw [← hsz]; exact (Array.getElem?_eq_some_iff.1 ho).1
  have hi:=rcSteps_at hs i o (by simpa using ho)
  rw [Nat.zero_add] at hi
  have hkey:∀ q,so[q]? = some i→p=q:=fun q hq=>by
   have h1:¬ q < p:=fun h=>by have:=(hp q i hq).2 h; rw [hLi] at this; cases this
   refine Nat.le_antisymm (Nat.le_of_not_lt h1) (Nat.le_of_not_lt fun h2 => ?_)
   have hql:q < so.length:=(List.getElem?_eq_some_iff.1 hq).1
   have hk:so[p]? = some so[p]:=List.getElem?_eq_getElem (by omega)
   have h3:=((rcB_at hso hq).2 p _ h2 hk).1
   exact Nat.lt_irrefl p ((hp p _ hk).1 (hpre _ h3))
  rw [show rgAct l.toArray.toList a vs=rgAct l a vs from rfl,hfr vs]
  refine rgDo_mono (fun v w' he=>⟨fun j hj => ?_,?_⟩) (hi vs p w (rcEq_of fun j hj=>hv j (hpre j hj)) hP hkey)
  ·by_cases hji:j=i
   ·subst hji
    rw [← he.1]; simp [rgSet]
   ·have:(if j=i then true else L j)=true:=hj
    rw [if_neg hji] at this
    rw [← hv j this]; simp [rgSet,hji]
  ·have hw:=he.2
   cases hc:so.contains i with
   | false =>
    rw [hc] at hw
    refine ⟨p,hw,hple,fun q k hq => ?_⟩
    have hki:k≠i:=fun e=>by
     have:so.contains k=true:=by simpa using List.mem_of_getElem? hq
     rw [e,hc] at this; cases this
    show (if k=i then true else L k)=true↔_
    rw [if_neg hki]; exact hp q k hq
   | true =>
    rw [hc] at hw
    obtain ⟨q,hq⟩:=List.mem_iff_getElem?.1 (by simpa using hc:i∈so)
    have hpq:=hkey q hq
    have hql:q < so.length:=(List.getElem?_eq_some_iff.1 hq).1
    refine ⟨p+1,hw,by omega,fun q' k hq' => ?_⟩
    show (if k=i then true else L k)=true↔_
    rcases Nat.lt_trichotomy q' q with h | h | h
    ·have h1:=(rcB_at hso hq).2 q' k h hq'
     rw [if_neg h1.2,hp q' k hq']; omega
    ·subst h
     rw [hq] at hq'; cases hq'
     rw [if_pos rfl]; constructor
     ·intro _; omega
     ·intro _; rfl
    ·have h1:=(rcB_at hso hq').2 q i h hq
     have hkl:=(rcB_at hso hq').1
     have h2:=hpost k _ (by simp [hkl]:l.toArray[k]? = some l[k]) h1.1
     rw [if_neg (Ne.symm h1.2),h2]
     constructor
     ·intro h; cases h
     ·intro h; omega
 ·intro L vs w hI hall
  obtain ⟨hv,p,hP,hple,hp⟩:=hI
  have hpl:p=so.length:=by
   refine Nat.le_antisymm hple (Nat.le_of_not_lt fun h => ?_)
   have hk:so[p]? = some so[p]:=List.getElem?_eq_getElem h
   have:=(hp p _ hk).1 (hall _ (by rw [hsz]; exact (rcB_at hso hk).1))
   exact Nat.lt_irrefl _ this
  subst hpl
  have e:rgAct l.toArray.toList a vs=fr fun j=>cs.getD j undef:=by
   rw [← hfr]
   show ({ a with tmps:=_ }:Act) = { a with tmps:=_ }
   congr 1
   exact rgPut_congr l 0 _ _ _ fun j hj=>by rw [Nat.zero_add]; exact hv j (hall j (by rw [hsz]; exact hj))
  rw [e]
  exact hend w hP
 ·refine ⟨rfl,rfl,fun t ht => ?_,by simp,fun j oj _ hl => ?_⟩
  ·refine (rgPut_ne _ _ _ _ _ fun j o hj hd => ?_).symm
   have:=ht j o (by simpa using hj) hd
   rw [getD_replicate_false] at this; cases this
  ·rw [getD_replicate_false] at hl; cases hl
 ·refine Nat.le_trans (List.length_filter_le _ _) (by simp)
 ·refine ⟨fun j hj => ?_,0,h0,Nat.zero_le _,fun q k _ => ?_⟩
  ·have:(Array.replicate l.toArray.size false).getD j false=true:=hj
   rw [getD_replicate_false] at this; cases this
  ·constructor
   ·intro h
    have:(Array.replicate l.toArray.size false).getD k false=true:=h
    rw [getD_replicate_false] at this; cases this
   ·intro h; omega
theorem wp_region_const2 {P:Program} {id:Nat} {Q:Exit→Act→World→Prop} {a:Act} {w:World} {l:List Oper} (pr:List (List Nat)) (cs:List Value) (so:List Nat) (Ph:Nat→World→Prop) (fr:(Nat→Value)→Act) {frc:Act}
  (hm:P.follows .mixedOrders=true) (hB:rgB l.toArray pr a.tmps.size=true) (hso:rcB so pr l.length=true) (hfr:∀ vs,rgAct l a vs=fr vs) (hfc:(fr fun j=>cs.getD j undef)=frc)
  (h0:Ph 0 w.drew)
  (hs:rcSteps P l.toArray pr cs so Ph fr 0 l)
  (hend:∀ w,Ph so.length w→Q .normal frc w):(Code.region id l.toArray true).wp P Q a w :=
 wp_region_const pr cs so Ph fr hm hB hso hfr h0 hs fun w h=>by rw [hfc]; exact hend w h
theorem hset_q (w:World) (h:Hand) (s:St) (k v:ByteArray) (hon:h.on=true) (hq:QSt w h s) (hk:k≠emptyB) (hz:s.size < 1000000000000) :
  Calls Tryz.prog 208 #[.pointer h.ptr,.string k,.string v] w fun e w'=>e = .returned (.int .i64 0)∧QOn w h (s.set k v) w':=by
 rcases hq with ⟨_,b,hp,hS⟩ | ⟨h0,_⟩
 ·rw [hp]
  exact (set_any w b s h.L k v hS hk hz).mono fun e w' ⟨he,L',h1,h2⟩=>⟨he,L',.inl ⟨hon,b,hp,h1⟩,h2⟩
 ·rw [hon] at h0; cases h0
theorem hsetInt_q (w:World) (h:Hand) (s:St) (k:ByteArray) (n:Int) (hon:h.on=true) (hn:n < 9223372036854775808) (hq:QSt w h s) (hz:s.size < 1000000000000) :
  Calls Tryz.prog 114 #[.pointer h.ptr,.string k,.int .i64 n] w fun e w'=>e = .returned (.tuple #[])∧QOn w h (s.setInt k n) w':=by
 rcases hq with ⟨_,b,hp,hS⟩ | ⟨h0,_⟩
 ·rw [hp]
  exact (setIntG_any w b s h.L k n hn hS hz).mono fun e w' ⟨he,L',h1,h2⟩=>⟨he,L',.inl ⟨hon,b,hp,h1⟩,h2⟩
 ·rw [hon] at h0; cases h0
def ptB (b:Nat) (a:W4):ByteArray:=numB b ++ amtB a
theorem rg_pt0 {ops:Array Oper} {o:Oper} {a:Act} {w:World} {K:Value→World→Prop} {x:Operand} {g:Nat} (hg:Region.wanted o (yielded ops a.tmps)=true) (ho:o.op = .fieldAddr 233 x 0) (hx:a.eval x = .pointer (some ⟨g,0,none⟩)) (hk:K (.pointer (some ⟨g,0,none⟩)) w):rgDo Tryz.prog ops o a w K:=by
 refine rg_value hg ?_ hk
 unfold execOp
 simp only [ho,hx]
 go_simp
theorem rg_pt1 {ops:Array Oper} {o:Oper} {a:Act} {w:World} {K:Value→World→Prop} {x:Operand} {g:Nat} (hg:Region.wanted o (yielded ops a.tmps)=true) (ho:o.op = .fieldAddr 233 x 1) (hx:a.eval x = .pointer (some ⟨g,0,none⟩)) (hk:K (.pointer (some ⟨g,1,none⟩)) w):rgDo Tryz.prog ops o a w K:=by
 refine rg_value hg ?_ hk
 unfold execOp
 simp only [ho,hx]
 go_simp
theorem rg_loadN {ops:Array Oper} {o:Oper} {a:Act} {w:World} {K:Value→World→Prop} {x:Operand} {g k:Nat} {n:Int} (hg:Region.wanted o (yielded ops a.tmps)=true) (ho:o.op = .load 3 x) (hx:a.eval x = .pointer (some ⟨g,k,none⟩)) (hc:w.cell? ⟨g,k,none⟩=some (.int .i64 n)) (hk:K (.int .i64 n) w):rgDo Tryz.prog ops o a w K:=by
 refine rg_value hg ?_ hk
 unfold execOp
 simp only [ho,hx]
 go_simp
theorem rg_cat {ops:Array Oper} {o:Oper} {a:Act} {w:World} {K:Value→World→Prop} {x y:Operand} {u v:ByteArray} (hg:Region.wanted o (yielded ops a.tmps)=true) (ho:o.op = .binOp .add 9 x y 9) (hx:a.eval x = .string u) (hy:a.eval y = .string v) (hu:u.size=8) (hs:v.size=32) (hk:K (.string (u ++ v)) w):rgDo Tryz.prog ops o a w K:=by
 refine rg_value hg ?_ hk
 unfold execOp
 simp only [ho,hx,hy]
 go_simp
def HwPh (h:Hand) (w:World) (s s2:St) (rs:List (Nat × Obj)):Nat→World→Prop
 | 0,W=>HV h w s rs W∧Below w.heap.size w W
 | 1,W=>HV h w s rs W∧Below w.heap.size w W
 | 2,W=>HV h w s rs W∧Below w.heap.size w W
 | 3,W=>HV h w s rs W∧Below w.heap.size w W
 | _+4,W=>HV h w s2 rs W
theorem HwPh.row {h:Hand} {w W:World} {s s2:St} {rs:List (Nat × Obj)} {p:Nat} (hP:HwPh h w s s2 rs p W) {g:Nat} {o:Obj} (hm:(g,o)∈rs):W.heap[g]? = some o:=by
 match p,hP with
 | 0,hP | 1,hP | 2,hP | 3,hP=>exact QV.row hP.1 hm
 | _+4,hP=>exact QV.row hP hm
theorem hwriteP_q (w:World) (h:Hand) (s:St) (t:Nat) (ht1:1≤t) (ht2:t≤255) (y:Value) (l:List Int) (n:Int) (b:Nat) (a:W4) (hon:h.on=true) (hi:IntsAt w y l) (hl:IdOk l) (hn:I63 n) (hb63:b < 9223372036854775808) (hq:QSt w h s) (hz:s.size < 1000000000000) (hk:keyL t (l ++ [n])≠emptyB) :
  Calls Tryz.prog 219 #[.pointer h.ptr,.int .i64 t,y,.int .i64 n,.agg (pL b a)] w fun e w'=>e = .returned (.tuple #[])∧QOn w h (s.set (keyL t (l ++ [n])) (ptB b a)) w':=by
 have hB:=(HV.start hq).alloc (pO b a)
 have hb0:=bl_alloc (Below.refl _ w) (pO b a)
 have HAT:Hid (∀ rs W,HV h w s rs W∧Below w.heap.size w W→Calls Tryz.prog 228 #[.int .i64 t,y,.int .i64 n] W fun e w'=>e = .returned (.string (keyL t (l ++ [n])))∧HV h w s rs w'∧Below w.heap.size w w'):=fun rs W hW=>(histAt_any t ht1 ht2 W y l n (hi.below hW.2) hl hn).mono fun e w' ⟨he,h2⟩=>⟨he,QV.below hW.1 h2,bl_then hW.2 h2⟩
 have HNU:Hid (∀ rs W,HV h w s rs W∧Below w.heap.size w W→Calls Tryz.prog 162 #[.int .i64 b] W fun e w'=>e = .returned (.string (numB b))∧HV h w s rs w'∧Below w.heap.size w w'):=fun rs W hW=>(num_any b W hb63).mono fun e w' ⟨he,h2⟩=>⟨he,QV.below hW.1 h2,bl_then hW.2 h2⟩
 have HAM:Hid (∀ rs W,HV h w s rs W∧Below w.heap.size w W→Calls Tryz.prog 150 #[uV a] W fun e w'=>e = .returned (.string (amtB a))∧HV h w s rs w'∧Below w.heap.size w w'):=fun rs W hW=>(kamount_any a W).mono fun e w' ⟨he,h2⟩=>⟨he,QV.below hW.1 h2,bl_then hW.2 h2⟩
 have HST:Hid (∀ rs W,HV h w s rs W∧Below w.heap.size w W→Calls Tryz.prog 208 #[.pointer h.ptr,.string (keyL t (l ++ [n])),.string (numB b ++ amtB a)] W fun e w'=>e = .returned (.int .i64 0)∧HV h w (s.set (keyL t (l ++ [n])) (ptB b a)) rs w'):=fun rs W hW=>QV.call hW.1 fun L' h1=>hset_q W ⟨h.ptr,h.on,L'⟩ s _ _ hon h1 hk hz
 have h32:(amtB a).size=32:=by show (amtL a).toArray.size=32; simp [amtL]
 have h8:(numB b).size=8:=rfl
 generalize s.set (keyL t (l ++ [n])) (ptB b a)=s2 at *
 generalize keyL t (l ++ [n])=kk at *
 generalize amtB a=am at *
 generalize numB b=nb at *
 have HB0:Hid (HwPh h w s s2 [(w.heap.size,pO b a)] 0 (w.alloc (pO b a)).drew):=⟨hB.drew,bl_drew hb0⟩
 have HS32:=Lib.hid h32
 have HS8:=Lib.hid h8
 clear hB hb0 hi hl hn hq hz hk h32 h8
 go_enter Tryz.func219,Tryz.ntmps219
 go_upto_region 1 with fail
 refine wp_region_const2 [[],[],[],[],[1,2,3],[],[5],[1,2,3,4,5,6],[],[8],[1,2,3,4,5,6,7,8,9],[1,2,3,4,5,6,7,8,9,10],[0,1,2,3,4,5,6,7,8,9,10,11]]
  [.pointer h.ptr,.int .i64 t,y,.int .i64 n,.string kk,.pointer (some ⟨w.heap.size,0,none⟩),.int .i64 b,.string nb,.pointer (some ⟨w.heap.size,1,none⟩),uV a,.string am,.string (nb ++ am),.int .i64 0]
  [4,7,10,12] (HwPh h w s s2 [(w.heap.size,pO b a)]) _ (by kernel_rfl) (by kernel_rfl) (by kernel_rfl)
  (fun vs=>by simp only [rgAct,rgPut,List.setIfInBounds_toArray,List.set_cons_zero,List.set_cons_succ]; exact rfl)
  (by simp only [List.getD_cons_zero,List.getD_cons_succ]; exact rfl) HB0.out ?_ ?_
 ·refine ⟨?_,?_,?_,?_,?_,?_,?_,?_,?_,?_,?_,?_,?_,trivial⟩
  ·intro vs p w1 hA hP hq
   exact rg_move rfl (.inl rfl) rfl ⟨rfl,hP⟩
  ·intro vs p w1 hA hP hq
   exact rg_move rfl (.inl rfl) rfl ⟨rfl,hP⟩
  ·intro vs p w1 hA hP hq
   exact rg_move rfl (.inl rfl) rfl ⟨rfl,hP⟩
  ·intro vs p w1 hA hP hq
   exact rg_move rfl (.inl rfl) rfl ⟨rfl,hP⟩
  ·intro vs p w1 hA hP hq
   obtain ⟨e1,e2,e3,_⟩:=hA
   have e1:vs 1 = .int .i64 t:=e1
   have e2:vs 2=y:=e2
   have e3:vs 3 = .int .i64 n:=e3
   have hp:=hq 0 rfl
   subst hp
   refine rg_fn rfl rfl rfl (by kernel_rfl) (show [vs 1,vs 2,vs 3]=_ from by rw [e1,e2,e3]) (Calls.mono (HAT.out _ _ hP) ?_)
   rintro e w2 ⟨rfl,hP2⟩
   exact ⟨_,rfl,rfl,hP2⟩
  ·intro vs p w1 hA hP hq
   exact rg_pt0 rfl rfl rfl ⟨rfl,hP⟩
  ·intro vs p w1 hA hP hq
   obtain ⟨e5,_⟩:=hA
   have e5:vs 5 = .pointer (some ⟨w.heap.size,0,none⟩):=e5
   exact rg_loadN rfl rfl e5 (row5 (n:=(b:Int)) (a:=a) (HwPh.row hP (by simp))).1.1 ⟨rfl,hP⟩
  ·intro vs p w1 hA hP hq
   obtain ⟨_,_,_,_,_,e6,_⟩:=hA
   have e6:vs 6 = .int .i64 b:=e6
   have hp:=hq 1 rfl
   subst hp
   refine rg_fn rfl rfl rfl (by kernel_rfl) (show [vs 6]=_ from by rw [e6]) (Calls.mono (HNU.out _ _ hP) ?_)
   rintro e w2 ⟨rfl,hP2⟩
   exact ⟨_,rfl,rfl,hP2⟩
  ·intro vs p w1 hA hP hq
   exact rg_pt1 rfl rfl rfl ⟨rfl,hP⟩
  ·intro vs p w1 hA hP hq
   obtain ⟨e8,_⟩:=hA
   have e8:vs 8 = .pointer (some ⟨w.heap.size,1,none⟩):=e8
   exact rg_load4 rfl rfl e8 ⟨(row5 (n:=(b:Int)) (a:=a) (HwPh.row hP (by simp))).1.2.1,(row5 (n:=(b:Int)) (a:=a) (HwPh.row hP (by simp))).1.2.2.1,(row5 (n:=(b:Int)) (a:=a) (HwPh.row hP (by simp))).1.2.2.2.1,(row5 (n:=(b:Int)) (a:=a) (HwPh.row hP (by simp))).1.2.2.2.2⟩ ⟨rfl,hP⟩
  ·intro vs p w1 hA hP hq
   obtain ⟨_,_,_,_,_,_,_,_,e9,_⟩:=hA
   have e9:vs 9=uV a:=e9
   have hp:=hq 2 rfl
   subst hp
   refine rg_fn rfl rfl rfl (by kernel_rfl) (show [vs 9]=_ from by rw [e9]) (Calls.mono (HAM.out _ _ hP) ?_)
   rintro e w2 ⟨rfl,hP2⟩
   exact ⟨_,rfl,rfl,hP2⟩
  ·intro vs p w1 hA hP hq
   obtain ⟨_,_,_,_,_,_,e7,_,_,e10,_⟩:=hA
   have e7:vs 7 = .string nb:=e7
   have e10:vs 10 = .string am:=e10
   exact rg_cat rfl rfl e7 e10 HS8.out HS32.out ⟨rfl,hP⟩
  ·intro vs p w1 hA hP hq
   obtain ⟨e0,_,_,_,e4,_,_,_,_,_,_,e11,_⟩:=hA
   have e0:vs 0 = .pointer h.ptr:=e0
   have e4:vs 4 = .string kk:=e4
   have e11:vs 11 = .string (nb ++ am):=e11
   have hp:=hq 3 rfl
   subst hp
   refine rg_fn rfl rfl rfl (by kernel_rfl) (show [vs 0,vs 4,vs 11]=_ from by rw [e0,e4,e11]) (Calls.mono (HST.out _ _ hP) ?_)
   rintro e w2 ⟨rfl,hP2⟩
   exact ⟨_,rfl,rfl,hP2⟩
 ·intro W hW
  have HW:Hid (HV h w s2 [(w.heap.size,pO b a)] W):=hW
  clear hW
  go_wp2_with fail
  go_end0
  exact ⟨rfl,HV.done HW.out⟩
end Go.Proofs.YtnkilceibkkjlaaGreat
