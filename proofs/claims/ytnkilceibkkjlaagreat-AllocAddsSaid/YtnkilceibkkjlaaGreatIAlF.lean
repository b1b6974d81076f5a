/- What is proved here: AllocAdds' plain law: what its states keep, and what Modify, Mature and Cut do to the sums. No program's function is named. Conditions: sizes. AllocAdds' plain law: chains of puts, and what Modify, Mature and Cut leave. No program's function is named. Conditions: sizes. AllocAdds' plain law: what each act does to what all have, and is encumbered. No program's function is named. Conditions: sizes. -/
import Derived.Test.YtnkilceibkkjlaaGreatIHeldIn
import Derived.Test.YtnkilceibkkjlaaGreatIAlS
import Derived.Test.YtnkilceibkkjlaaGreatIExEqB
import Derived.Test.YtnkilceibkkjlaaGreatIExCz
set_option maxRecDepth 100000
set_option maxHeartbeats 16000000
namespace Go.Proofs.YtnkilceibkkjlaaGreat
open Go.RowKit
theorem toAmt_no:toAmt emptyB=(0,0,0,0):=by kernel_rfl
theorem amt_put {s:St} (hs:Sorted s.ents) {k:ByteArray} (hk:k≠emptyB) (x:W4) (hx:x.Ok) (j:ByteArray):(s.setAmt k x).amt j=if k=j then x else s.amt j:=by
 unfold St.amt St.setAmt
 rw [val_put s hs k _ j hk]
 by_cases e:k=j
 ·rw [if_pos e,if_pos e]
  by_cases h0:x=(0,0,0,0)
  ·rw [if_pos h0,toAmt_no,h0]
  ·rw [if_neg h0,toAmt_amtB hx]
 ·rw [if_neg e,if_neg e]
theorem w256:W256=115792089237316195423570985008687907853269984665640564039457584007913129639936:=rfl
theorem sum_own {x y:W4} (h:uN x+uN y < 115792089237316195423570985008687907853269984665640564039457584007913129639936):uN (sumW x y)=uN x+uN y:=by
 unfold sumW toW
 rw [if_pos (show _ < W256 from h),uN_of h]
theorem less_own {x y:W4} (hx:x.Ok) (hy:y.Ok):uN (lessV x y)=uN x - uN y:=by
 have e:lessV x y=subW x y:=(subW_of hx hy).1
 rw [e]
 by_cases h:uN y≤uN x
 ·exact sub_own hx h
 ·unfold subW
  rw [if_neg h,show uN (0,0,0,0)=0 from rfl]; omega
abbrev WD:Nat:=1000000000000000000
theorem aOne_nat:uN oneW=WD:=rfl
def upC (a f:Nat):Nat:=a*f / WD+if a*f % WD=0 then 0 else 1
theorem upC_le {a f:Nat} (hf:f≤WD):upC a f≤a:=by
 unfold upC
 have h1:a*f≤a*WD:=Nat.mul_le_mul_left _ hf
 split
 ·have:a*f / WD≤a:=by
   refine Nat.div_le_of_le_mul ?_
   rw [Nat.mul_comm WD]; exact h1
  omega
 ·rename_i h
  have h2:=Nat.div_add_mod (a*f) WD
  have h3:a*f / WD < a:=by
   refine (Nat.div_lt_iff_lt_mul (by decide)).2 ?_
   rcases Nat.lt_or_ge (a*f) (a*WD) with h4 | h4
   ·exact h4
   ·have e:a*f=a*WD:=Nat.le_antisymm h1 h4
    rw [e,Nat.mul_mod_left] at h
    exact absurd rfl h
  omega
theorem upC_iff (a f c:Nat):upC a f≤c↔a*f≤c*WD:=by
 unfold upC
 have h2:=Nat.div_add_mod (a*f) WD
 have h3:=Nat.mod_lt (a*f) (show 0 < WD by decide)
 have h4:WD*(a*f / WD)=a*f / WD*WD:=Nat.mul_comm _ _
 generalize a*f / WD=q at *
 generalize a*f % WD=r at *
 generalize a*f=m at *
 unfold WD at *
 split <;> omega
theorem upC_cut {p c f:Nat} (hp:p≤c) (hf:f≤WD):p - upC p f≤c - upC c f:=by
 have h1:=upC_le (a:=p) hf
 have h2:upC c f≤upC p f+(c - p):=by
  rw [upC_iff]
  have h3:=(upC_iff p f (upC p f)).1 (Nat.le_refl _)
  have h4:(c - p)*f≤(c - p)*WD:=Nat.mul_le_mul_left _ hf
  have h5:c*f=p*f+(c - p)*f:=by rw [← Nat.add_mul]; congr 1; omega
  rw [h5,Nat.add_mul]; omega
 omega
theorem pu_own {a f:W4} (ha:a.Ok) (hf:uN f≤WD):uN (puW a f)=upC (uN a) (uN f):=by
 unfold puW upW
 rw [aOne_nat,if_neg (by decide)]
 have e:upN a f oneW=upC (uN a) (uN f):=rfl
 rw [e]
 have h1:=upC_le (a:=uN a) hf
 have h2:=uN_lt ha
 unfold toW
 rw [if_pos (show _ < W256 by rw [w256]; omega),uN_of (by omega)]
abbrev xI (k:Nat):I4:=(7,1,9,k)
theorem xI_nn (k:Nat):∀ n∈(xI k).l,0≤n:=fun n hn=>by
 simp only [I4.l,List.mem_cons,List.not_mem_nil,or_false] at hn
 rcases hn with rfl | rfl | rfl | rfl <;> omega
theorem xI_ok {k:Nat} (hk:k < 3):(xI k).Ok:=fun n hn=>by
 simp only [I4.l,List.mem_cons,List.not_mem_nil,or_false] at hn
 rcases hn with rfl | rfl | rfl | rfl <;> omega
theorem xI_i63 {k:Nat} (hk:k < 3):∀ n∈(xI k).l,0≤n∧I63 n:=fun n hn=>⟨xI_nn k n hn,xI_ok hk n hn⟩
theorem same_put {s:St} (hs:Sorted s.ents) {n:Nat} (hn:n≤255) {l:List Int} (hl:∀ x∈l,0≤x) (v:ByteArray):Same [n] s (s.put (keyL n l) v):=fun t m ht hT hm=>by
 rw [getE_put hs,if_neg (key_ne hn ht (fun e=>hT (by simp [e])) hl hm)]
theorem keyL_ne0 (t:Nat) {l:List Int} (h:∀ x∈l,0≤x):keyL t l≠emptyB:=keyL_some t h
theorem put_memE {s:St} {k v:ByteArray} {y:Ent} (h:y∈(s.put k v).ents):y.1=k∨y∈s.ents:=by
 unfold St.put at h
 split at h
 ·unfold St.del at h
  split at h
  ·exact .inr (delE_mem h)
  ·exact .inr h
 ·split at h
  ·exact .inr h
  ·unfold St.set at h
   split at h
   ·exact .inr h
   ·rcases putE_mem h with rfl | h
    ·exact .inl rfl
    ·exact .inr h
theorem pre_first {t u:Nat} (ht:t≤255) (hu:u≤255) {l m:List Int} (hl:∀ x∈l,0≤x) (hm:∀ x∈m,0≤x) (h:isPre (keyL t l) (keyL u m)=true):t=u:=by
 have h1:=keyL_first (t:=t) (l:=l) (fun x hx=>by have:=hl x hx; omega)
 have h2:=keyL_first (t:=u) (l:=m) (fun x hx=>by have:=hm x hx; omega)
 unfold isPre at h
 rw [← Array.getElem?_toList] at h1 h2
 cases ha:(keyL t l).data.toList with
 | nil=>rw [ha] at h1; cases h1
 | cons a r =>
  cases hb:(keyL u m).data.toList with
  | nil=>rw [hb] at h2; cases h2
  | cons b q =>
   rw [ha,List.getElem?_cons_zero] at h1
   rw [hb,List.getElem?_cons_zero] at h2
   rw [ha,hb] at h
   simp only [List.isPrefixOf,Bool.and_eq_true,beq_iff_eq] at h
   cases h1; cases h2
   have e:=congrArg UInt8.toNat h.1
   rw [UInt8.toNat_ofNat',UInt8.toNat_ofNat'] at e
   omega
theorem key33 (n:Nat) {l:List Int} (h:l.length≤4):(keyL n l).size≤33:=by
 unfold keyL
 split
 ·exact Nat.zero_le _
 ·show (keyBytes n l).toArray.size≤_
  rw [List.size_toArray,keyBytes_len]
  omega
structure AK (s:St):Prop where
 srt:Sorted s.ents
 key:∀ y∈s.ents,y.1.size≤33
 k29:∀ y∈s.ents,isPre (keyL 29 [7,1]) y.1=true→∃ k,k < 3∧y.1=aKey 29 (xI k)
 k30:∀ y∈s.ents,isPre (keyL 30 [7,1]) y.1=true→∃ k,k < 3∧y.1=aKey 30 (xI k)
theorem nn71:∀ x∈([7,1]:List Int),0≤x:=by decide
theorem AK.put {s:St} (h:AK s) {t:Nat} {l:List Int} (ht:t≤255) (hl:∀ x∈l,0≤x) (hn:l.length≤4) (ho:t=29∨t=30→∃ k,k < 3∧l=(xI k).l) (v:ByteArray):AK (s.put (keyL t l) v):=by
 refine ⟨put_srt h.srt _ _,fun y hy => ?_,fun y hy hp => ?_,fun y hy hp => ?_⟩
 ·rcases put_memE hy with e | hy
  ·rw [e]; exact key33 t hn
  ·exact h.key y hy
 ·rcases put_memE hy with e | hy
  ·rw [e] at hp
   have e2:=pre_first (by decide) ht nn71 hl hp
   obtain ⟨k,hk,e3⟩:=ho (.inl e2.symm)
   exact ⟨k,hk,by rw [e,← e2,e3]; rfl⟩
  ·exact h.k29 y hy hp
 ·rcases put_memE hy with e | hy
  ·rw [e] at hp
   have e2:=pre_first (by decide) ht nn71 hl hp
   obtain ⟨k,hk,e3⟩:=ho (.inr e2.symm)
   exact ⟨k,hk,by rw [e,← e2,e3]; rfl⟩
  ·exact h.k30 y hy hp
theorem AK.empty:AK emptySt:=⟨List.Pairwise.nil,(fun y hy=>by cases hy),(fun y hy=>by cases hy),fun y hy=>by cases hy⟩
theorem AK.putX {s:St} (h:AK s) {t k:Nat} (ht:t≤255) (hk:k < 3) (v:ByteArray):AK (s.put (aKey t (xI k)) v):=h.put ht (xI_nn k) (by simp) (fun _=>⟨k,hk,rfl⟩) v
theorem AK.putN {s:St} (h:AK s) {t:Nat} {l:List Int} (ht:t≤255) (hl:∀ x∈l,0≤x) (hn:l.length≤4) (h29:t≠29) (h30:t≠30) (v:ByteArray):AK (s.put (keyL t l) v):=h.put ht hl hn (fun e=>by rcases e with e | e; exact absurd e h29; exact absurd e h30) v
theorem aKey_ne {t j k:Nat} (h1:1≤t) (h2:t≤255) (hj:j < 3) (hk:k < 3) (h:j≠k):aKey t (xI j)≠aKey t (xI k):=keyI_ne h1 h2 (xI_i63 hj) (xI_i63 hk) fun e=>h (by
 have e1:=congrArg (fun l=>l[3]?) e
 simp only [I4.l,List.getElem?_cons_succ,List.getElem?_cons_zero,Option.some.injEq] at e1
 omega)
theorem cur_amt (s:St) (x:I4):cur s x=s.amt (aKey 29 x):=rfl
theorem pend_of (s:St) (x:I4):pend s x=pendOf (rowOf (s.val (aKey 30 x))) (s.amt (aKey 31 x)):=rfl
def Th (s:St) (k:Nat):Nat:=uN (cur s (xI k))+if (pend s (xI k)).1=1 then uN (pend s (xI k)).2.1 else 0
def Eq3 (s s':St) (k:Nat):Prop:=s'.val (aKey 29 (xI k))=s.val (aKey 29 (xI k))∧s'.val (aKey 30 (xI k))=s.val (aKey 30 (xI k))∧s'.val (aKey 31 (xI k))=s.val (aKey 31 (xI k))
theorem Eq3.refl (s:St) (k:Nat):Eq3 s s k:=⟨rfl,rfl,rfl⟩
theorem Eq3.trans {s s1 s2:St} {k:Nat} (h:Eq3 s s1 k) (h2:Eq3 s1 s2 k):Eq3 s s2 k:=⟨h2.1.trans h.1,h2.2.1.trans h.2.1,h2.2.2.trans h.2.2⟩
theorem Eq3.cur {s s':St} {k:Nat} (h:Eq3 s s' k):cur s' (xI k)=cur s (xI k):=by unfold Go.Proofs.YtnkilceibkkjlaaGreat.cur; rw [h.1]
theorem Eq3.pend {s s':St} {k:Nat} (h:Eq3 s s' k):pend s' (xI k)=pend s (xI k):=by unfold Go.Proofs.YtnkilceibkkjlaaGreat.pend; rw [h.2.1,h.2.2]
theorem Eq3.th {s s':St} {k:Nat} (h:Eq3 s s' k):Th s' k=Th s k:=by unfold Th; rw [h.cur,h.pend]
theorem Eq3.same {s s':St} {T:List Nat} (h:Same T s s') (h29:29∉T) (h30:30∉T) (h31:31∉T) (k:Nat):Eq3 s s' k :=
 ⟨h.val (by decide) h29 (xI_nn k),h.val (by decide) h30 (xI_nn k),h.val (by decide) h31 (xI_nn k)⟩
theorem Eq3.other {s:St} (hs:Sorted s.ents) {t j k:Nat} (h1:1≤t) (h2:t≤255) (hj:j < 3) (hk:k < 3) (h:j≠k) (v:ByteArray):Eq3 s (s.put (aKey t (xI k)) v) j:=by
 have hv:∀ u,1≤u→u≤255→(s.put (aKey t (xI k)) v).val (aKey u (xI j))=s.val (aKey u (xI j)):=fun u hu1 hu2=>by
  rw [val_put s hs (aKey t (xI k)) v _ (keyL_ne0 t (xI_nn k)),if_neg]
  by_cases e:t=u
  ·subst e; exact aKey_ne h1 h2 hk hj (Ne.symm h)
  ·exact key_ne h2 hu2 e (xI_nn k) (xI_nn j)
 exact ⟨hv 29 (by decide) (by decide),hv 30 (by decide) (by decide),hv 31 (by decide) (by decide)⟩
abbrev KA:ByteArray:=keyL 32 [7,1]
structure AN (n:Nat) (s:St):Prop where
 eb:(ends s 33 [7,1]).2≤n
 c27:s.int K27≤n
theorem AN.same {n:Nat} {s s':St} {T:List Nat} (h:AN n s) (hS:Same T s s') (h33:33∉T) (h27:27∉T):AN n s':=by
 refine ⟨?_,?_⟩
 ·have e:ends s' 33 [7,1]=ends s 33 [7,1]:=by unfold ends; rw [hS.val (by decide) h33 nn71]
  rw [e]; exact h.eb
 ·rw [show s'.int K27=s.int K27 from hS.int (by decide) h27 (fun _ h=>by cases h)]; exact h.c27
theorem AN.mono {n m:Nat} {s:St} (h:AN n s) (hm:n≤m):AN m s:=⟨Nat.le_trans h.eb hm,Nat.le_trans h.c27 hm⟩
theorem AN.empty:AN 0 emptySt:=⟨Nat.le_refl _,Nat.le_refl _⟩
inductive PK (k:Nat):Nat→St→St→Prop
 | refl (s:St):PK k 0 s s
 | step {m:Nat} {s s1:St} {t:Nat} {l:List Int} {v:ByteArray} (h:PK k m s s1) (ht1:1≤t) (ht:t≤255) (hl:∀ x∈l,0≤x) (hn:l.length≤4) (ho:t=29∨t=30∨t=31→l=(xI k).l) (hv:v.size≤1000000):PK k (m+1) s (s1.put (keyL t l) v)
theorem PK.ak {k m:Nat} {s s':St} (hk:k < 3) (h:PK k m s s') (hA:AK s):AK s':=by
 induction h with
 | refl=>exact hA
 | step _ _ ht hl hn ho _ ih=>exact (ih hA).put ht hl hn (fun e=>⟨k,hk,ho (by rcases e with e | e; exact .inl e; exact .inr (.inl e))⟩) _
theorem PK.und {k m:Nat} {s s':St} (h:PK k m s s') (hs:Sorted s.ents):Und s s'∧Sorted s'.ents:=by
 induction h with
 | refl=>exact ⟨Und.refl _,hs⟩
 | step _ _ _ _ _ _ _ ih=>exact Und.srtPut (ih hs) _ _
theorem PK.fit {k m f:Nat} {s s':St} (h:PK k m s s') (hf:s.Fit f):s'.Fit (f+2*m):=by
 induction h with
 | refl=>exact hf
 | step _ _ _ _ _ _ hv ih=>exact (ih hf).put _ hv |>.mono (by omega)
theorem PK.other {k m j:Nat} {s s':St} (hk:k < 3) (h:PK k m s s') (hs:Sorted s.ents) (hj:j < 3) (hjk:j≠k):Eq3 s s' j:=by
 induction h with
 | refl=>exact Eq3.refl _ _
 | @step m s s1 t l v h ht1 ht hl hn ho hv ih =>
  refine (ih hs).trans ?_
  have hs1:=(h.und hs).2
  by_cases e:t=29∨t=30∨t=31
  ·rw [ho e]
   exact Eq3.other hs1 ht1 ht hj hk hjk v
  ·exact Eq3.same (same_put hs1 ht hl v) (by simp; omega) (by simp; omega) (by simp; omega) j
theorem amtV_size (x:W4):(if x=(0,0,0,0) then emptyB else amtB x).size≤1000000:=by
 split
 ·decide
 ·show (amtL x).toArray.size≤_
  simp [amtL]
theorem PK.amtX {k m t:Nat} {s s1:St} (h:PK k m s s1) (ht1:1≤t) (ht:t≤255) (x:W4):PK k (m+1) s (s1.setAmt (aKey t (xI k)) x):=h.step ht1 ht (xI_nn k) (by simp) (fun _=>rfl) (amtV_size x)
theorem PK.amtA {k m:Nat} {s s1:St} (h:PK k m s s1) (x:W4):PK k (m+1) s (s1.setAmt KA x):=h.step (by decide) (by decide) nn71 (by decide) (fun e=>by omega) (amtV_size x)
theorem PK.delX {k m t:Nat} {s s1:St} (h:PK k m s s1) (ht1:1≤t) (ht:t≤255):PK k (m+1) s (s1.del (aKey t (xI k))):=by
 rw [del_put]
 exact h.step ht1 ht (xI_nn k) (by simp) (fun _=>rfl) (by decide)
theorem PK.putN {k m t:Nat} {s s1:St} {l:List Int} {v:ByteArray} (h:PK k m s s1) (ht1:1≤t) (ht:t≤28∨32≤t∧t≤255) (hl:∀ x∈l,0≤x) (hn:l.length≤4) (hv:v.size≤1000000):PK k (m+1) s (s1.put (keyL t l) v):=h.step ht1 (by omega) hl hn (fun e=>by omega) hv
theorem nn710 (n:Nat):∀ x∈([7,1,(n:Int)]:List Int),0≤x:=fun x hx=>by
 simp only [List.mem_cons,List.not_mem_nil,or_false] at hx
 rcases hx with rfl | rfl | rfl <;> omega
theorem turn_pk {k m:Nat} {s s1:St} (h:PK k m s s1) (a b:Int):PK k (m+1) s (turnSt s1 33 [7,1] a b):=by
 unfold turnSt
 refine h.putN (by decide) (.inr (by decide)) nn71 (by decide) ?_
 split <;> exact rowB_shortL _ (by simp)
theorem push_pk {k m:Nat} {s s1:St} (h:PK k m s s1) (r:List Int) (hr:r.length≤100):∃ j,j≤m+2∧PK k j s (pushSt s1 33 [7,1] 8 r):=by
 unfold pushSt
 split
 ·exact ⟨m,by omega,h⟩
 ·exact ⟨m+2,Nat.le_refl _,turn_pk (h.putN (by decide) (.inr (by decide)) (nn710 _) (by simp) (rowB_shortL _ (by omega))) _ _⟩
theorem pop_pk {k m:Nat} {s s1:St} (h:PK k m s s1):∃ j,j≤m+2∧PK k j s (popSt s1 33 [7,1]):=by
 unfold popSt
 split
 ·exact ⟨m,by omega,h⟩
 ·rw [del_put]
  exact ⟨m+2,Nat.le_refl _,turn_pk (h.putN (by decide) (.inr (by decide)) (nn710 _) (by simp) (by decide)) _ _⟩
theorem wait2_pk {k m:Nat} {s s1:St} (h:PK k m s s1) (way:Nat) (a:W4) (bl:Nat):PK k (m+2) s (waitS2 s1 (xI k) way a bl) :=
 (h.step (t:=30) (by decide) (by decide) (xI_nn k) (by simp) (fun _=>rfl) (rowB_shortL _ (by simp))).amtX (by decide) (by decide) a
theorem due_nn (bl:Nat) (s:St):∀ x∈([(bl:Int),dueN s bl]:List Int),0≤x:=fun x hx=>by
 simp only [List.mem_cons,List.not_mem_nil,or_false] at hx
 rcases hx with rfl | rfl
 ·omega
 ·exact (dueF_nn _).1
theorem setIntV_size (n:Int):(if n < 1 then emptyB else numB n.toNat).size≤1000000:=by
 split
 ·decide
 ·rw [show (numB n.toNat).size=8 from rfl]; decide
theorem due_pk {k m:Nat} {s s1:St} (h:PK k m s s1) (bl:Nat) {l:List Int} (hl:l.length≤100):PK k (m+2) s (dueSt s1 bl l):=by
 have h1:PK k (m+1) s (dueS1 s1 bl l):=h.putN (t:=26) (l:=[(bl:Int),dueN s1 bl]) (v:=rowB l) (by decide) (.inl (by decide)) (due_nn bl s1) (by simp) (rowB_shortL _ (by omega))
 unfold dueSt St.setInt
 exact h1.putN (t:=27) (l:=[]) (by decide) (.inl (by decide)) (fun _ h=>by cases h) (by decide) (setIntV_size _)
theorem wait_pk {k m:Nat} {s s1:St} (h:PK k m s s1) (way:Nat) (a:W4) (bl:Nat):∃ j,j≤m+4∧PK k j s (waitSt s1 (xI k) way a bl):=by
 unfold waitSt
 split
 ·exact ⟨m+4,Nat.le_refl _,due_pk (wait2_pk h way a bl) bl (by simp)⟩
 ·exact ⟨m+2,by omega,wait2_pk h way a bl⟩
theorem setAmt_same {s:St} (hs:Sorted s.ents) {n:Nat} (hn:n≤255) {l:List Int} (hl:∀ x∈l,0≤x) (x:W4):Same [n] s (s.setAmt (keyL n l) x):=same_put hs hn hl _
theorem wait2_same {s:St} (hs:Sorted s.ents) (k way:Nat) (a:W4) (bl:Nat):Same [30,31] s (waitS2 s (xI k) way a bl) :=
 ((same_put hs (by decide) (xI_nn k) _).mono (by simp)).trans ((setAmt_same (put_srt hs _ _) (by decide) (xI_nn k) a).mono (by simp))
theorem due_same {s:St} (hs:Sorted s.ents) (bl:Nat) (l:List Int):Same [26,27] s (dueSt s bl l) :=
 ((same_put hs (by decide) (due_nn bl s) _).mono (by simp)).trans ((same_put (l:=[]) (put_srt hs _ _) (by decide) (fun _ h=>by cases h) _).mono (by simp))
theorem dueS1_same {s:St} (hs:Sorted s.ents) (bl:Nat) (l:List Int):Same [26] s (dueS1 s bl l):=same_put hs (by decide) (due_nn bl s) _
theorem turn_same {s:St} (hs:Sorted s.ents) (a b:Int):Same [33] s (turnSt s 33 [7,1] a b):=same_put hs (by decide) nn71 _
theorem push_same {s:St} (hs:Sorted s.ents) (r:List Int):Same [33] s (pushSt s 33 [7,1] 8 r):=by
 unfold pushSt
 split
 ·exact Same.refl _ _
 ·exact (same_put hs (by decide) (nn710 _) _).trans (turn_same (put_srt hs _ _) _ _)
theorem pop_same {s:St} (hs:Sorted s.ents):Same [33] s (popSt s 33 [7,1]):=by
 unfold popSt
 split
 ·exact Same.refl _ _
 ·rw [del_put]
  exact (same_put hs (by decide) (nn710 _) _).trans (turn_same (put_srt hs _ _) _ _)
theorem endsOf_le (a b:Nat):(endsOf [a,b]).2≤b:=by
 unfold endsOf
 dsimp only
 split
 ·exact Nat.le_refl _
 ·exact Nat.zero_le _
theorem turn_ends {s:St} (hs:Sorted s.ents) {a b:Nat} (ha:a < 9223372036854775808) (hb:b < 9223372036854775808):(ends (turnSt s 33 [7,1] (a:Int) (b:Int)) 33 [7,1]).2≤b:=by
 unfold ends turnSt
 rw [val_put s hs (keyL 33 [7,1]) _ _ (keyL_ne0 _ nn71),if_pos rfl]
 split
 ·rw [rowOf_row [] (fun _ h=>by cases h)]; exact Nat.zero_le _
 ·rw [rowOf_row _ (fun n hn=>by
   simp only [List.mem_cons,List.not_mem_nil,or_false] at hn
   rcases hn with rfl | rfl <;> omega)]
  exact endsOf_le _ _
theorem push_ends {s:St} (hs:Sorted s.ents) {n:Nat} (h:(ends s 33 [7,1]).2≤n) (hn:n < 1000000) (r:List Int):(ends (pushSt s 33 [7,1] 8 r) 33 [7,1]).2≤n+1:=by
 have hle:=ends_le s 33 [7,1]
 unfold pushSt
 split
 ·omega
 ·exact Nat.le_trans (turn_ends (put_srt hs _ _) (by omega) (by omega)) (by omega)
theorem pop_ends {s:St} (hs:Sorted s.ents) {n:Nat} (h:(ends s 33 [7,1]).2≤n) (hn:n < 1000000):(ends (popSt s 33 [7,1]) 33 [7,1]).2≤n:=by
 have hle:=ends_le s 33 [7,1]
 unfold popSt
 split
 ·omega
 ·rw [del_put]
  exact Nat.le_trans (turn_ends (put_srt hs _ _) (by omega) (by omega)) h
theorem due_int {s:St} (hs:Sorted s.ents) (bl:Nat) (l:List Int) {n:Nat} (h:s.int K27≤n) (hn:n < 1000000):(dueSt s bl l).int K27≤n+1:=by
 have e:(dueS1 s bl l).int K27=s.int K27:=(dueS1_same hs bl l).int (by decide) (by decide) (fun _ h=>by cases h)
 unfold dueSt
 rw [int_setInt _ (show Sorted (dueS1 s bl l).ents from put_srt hs _ _) K27 K27 (keyL_ne0 27 (fun _ h=>by cases h)) _ (by omega),if_pos rfl,e]
 omega
theorem wait_an {s:St} (hs:Sorted s.ents) {n:Nat} (h:AN n s) (hn:n < 1000000) (k way:Nat) (a:W4) (bl:Nat):AN (n+1) (waitSt s (xI k) way a bl):=by
 have h2:=h.same (wait2_same hs k way a bl) (by decide) (by decide)
 unfold waitSt
 split
 ·refine ⟨?_,due_int (wait2_pk (k:=k) (PK.refl s) way a bl |>.und hs).2 bl _ h2.c27 hn⟩
  have hd:=due_same (wait2_pk (k:=k) (PK.refl s) way a bl |>.und hs).2 bl (xI k).l
  have e:ends (dueSt (waitS2 s (xI k) way a bl) bl (xI k).l) 33 [7,1]=ends (waitS2 s (xI k) way a bl) 33 [7,1]:=by unfold ends; rw [hd.val (by decide) (by decide) nn71]
  rw [e]; exact Nat.le_succ_of_le h2.eb
 ·exact h2.mono (Nat.le_succ _)
theorem pend_wait2 {s:St} (hs:Sorted s.ents) (k:Nat) {way bl:Nat} (hw:way < 10) (hb:bl≤2199023255552) {a:W4} (ha:a.Ok):pend (waitS2 s (xI k) way a bl) (xI k)=(way,a,bl):=by
 have h30:(waitS2 s (xI k) way a bl).val (aKey 30 (xI k))=rowB [(way:Int),(bl:Int)]:=by
  have e:=(setAmt_same (n:=31) (put_srt hs (aKey 30 (xI k)) (rowB [(way:Int),(bl:Int)])) (by decide) (xI_nn k) a).val (t:=30) (l:=(xI k).l) (by decide) (by decide) (xI_nn k)
  refine e.trans ?_
  show (s.put (aKey 30 (xI k)) _).val (aKey 30 (xI k))=_
  rw [val_put s hs (aKey 30 (xI k)) _ _ (keyL_ne0 30 (xI_nn k)),if_pos rfl]
 have h31:(waitS2 s (xI k) way a bl).amt (aKey 31 (xI k))=a:=by
  unfold waitS2
  rw [amt_put (put_srt hs _ _) (k:=aKey 31 (xI k)) (keyL_ne0 31 (xI_nn k)) a ha,if_pos rfl]
 rw [pend_of,h30,h31,rowOf_row _ (fun n hn=>by
  simp only [List.mem_cons,List.not_mem_nil,or_false] at hn
  rcases hn with rfl | rfl <;> omega)]
 show pendOf [((way:Int)).toNat,((bl:Int)).toNat] a=_
 rw [Int.toNat_natCast,Int.toNat_natCast]; rfl
theorem wait_eq3 {s:St} (hs:Sorted s.ents) (k j way:Nat) (a:W4) (bl:Nat):Eq3 (waitS2 s (xI k) way a bl) (waitSt s (xI k) way a bl) j:=by
 unfold waitSt
 split
 ·exact Eq3.same (due_same (wait2_pk (k:=k) (PK.refl s) way a bl |>.und hs).2 bl _) (by decide) (by decide) (by decide) j
 ·exact Eq3.refl _ _
theorem wait_ka {s:St} (hs:Sorted s.ents) (k way:Nat) (a:W4) (bl:Nat):(waitSt s (xI k) way a bl).amt KA=s.amt KA:=by
 have h2:(waitS2 s (xI k) way a bl).amt KA=s.amt KA:=(wait2_same hs k way a bl).amt (by decide) (by decide) nn71
 unfold waitSt
 split
 ·rw [← h2]; exact (due_same (wait2_pk (k:=k) (PK.refl s) way a bl |>.und hs).2 bl _).amt (by decide) (by decide) nn71
 ·exact h2
structure AV (s:St) (m:W4):Prop where
 mo:m.Ok
 one:uN m≤WD
 way:∀ k,k < 3→(pend s (xI k)).1≤2
 less:∀ k,k < 3→(pend s (xI k)).1=2→uN (pend s (xI k)).2.1≤uN (cur s (xI k))
 sum:uN (s.amt KA)=Th s 0+Th s 1+Th s 2
 le:uN (s.amt KA)≤uN m
theorem cur_ok (s:St) (x:I4):(cur s x).Ok:=toAmt_ok _
theorem AV.th {s:St} {m:W4} (h:AV s m) {k:Nat} (hk:k < 3):Th s k≤uN (s.amt KA):=by
 have:=h.sum
 match k,hk with
 | 0,_ | 1,_ | 2,_=>omega
theorem AV.upd {s s':St} {m m':W4} (h:AV s m) {k:Nat} (hk:k < 3) (ho:∀ j,j < 3→j≠k→Eq3 s s' j) (hs:uN (s'.amt KA)+Th s k=uN (s.amt KA)+Th s' k) (hw:(pend s' (xI k)).1≤2) (hl:(pend s' (xI k)).1=2→uN (pend s' (xI k)).2.1≤uN (cur s' (xI k))) (hmo:m'.Ok) (hm1:uN m'≤WD) (hle:uN (s'.amt KA)≤uN m'):AV s' m':=by
 refine ⟨hmo,hm1,fun j hj => ?_,fun j hj hp => ?_,?_,hle⟩
 ·by_cases e:j=k
  ·subst e; exact hw
  ·rw [(ho j hj e).pend]; exact h.way j hj
 ·by_cases e:j=k
  ·subst e; exact hl hp
  ·have he:=ho j hj e
   rw [he.pend] at hp ⊢
   rw [he.cur]; exact h.less j hj hp
 ·have h0:=h.sum
  match k,hk with
  | 0,_ =>
   have e1:=(ho 1 (by decide) (by decide)).th
   have e2:=(ho 2 (by decide) (by decide)).th
   omega
  | 1,_ =>
   have e1:=(ho 0 (by decide) (by decide)).th
   have e2:=(ho 2 (by decide) (by decide)).th
   omega
  | 2,_ =>
   have e1:=(ho 0 (by decide) (by decide)).th
   have e2:=(ho 1 (by decide) (by decide)).th
   omega
theorem th_of {s:St} {k:Nat} {c p:W4} {w b:Nat} (hc:cur s (xI k)=c) (hp:pend s (xI k)=(w,p,b)):Th s k=uN c+if w=1 then uN p else 0:=by
 unfold Th; rw [hc,hp]
theorem pend_same {s s':St} {T:List Nat} (h:Same T s s') (h30:30∉T) (h31:31∉T) (k:Nat):pend s' (xI k)=pend s (xI k):=by
 have e1:s'.val (aKey 30 (xI k))=s.val (aKey 30 (xI k)):=h.val (t:=30) (by decide) h30 (xI_nn k)
 have e2:s'.val (aKey 31 (xI k))=s.val (aKey 31 (xI k)):=h.val (t:=31) (by decide) h31 (xI_nn k)
 unfold pend
 rw [e1,e2]
theorem cur_same {s s':St} {T:List Nat} (h:Same T s s') (h29:29∉T) (k:Nat):cur s' (xI k)=cur s (xI k):=by
 have e1:s'.val (aKey 29 (xI k))=s.val (aKey 29 (xI k)):=h.val (t:=29) (by decide) h29 (xI_nn k)
 unfold cur
 rw [e1]
theorem cur_set {s:St} (hs:Sorted s.ents) (k:Nat) {y:W4} (hy:y.Ok):cur (s.setAmt (aKey 29 (xI k)) y) (xI k)=y:=by
 rw [cur_amt,amt_put hs (k:=aKey 29 (xI k)) (keyL_ne0 29 (xI_nn k)) y hy,if_pos rfl]
theorem ka_set {s:St} (hs:Sorted s.ents) {y:W4} (hy:y.Ok):(s.setAmt KA y).amt KA=y:=by
 rw [amt_put hs (keyL_ne0 32 nn71) y hy,if_pos rfl]
theorem x_same {s:St} (hs:Sorted s.ents) {t:Nat} (ht:t≤255) (k:Nat) (y:W4):Same [t] s (s.setAmt (aKey t (xI k)) y):=setAmt_same hs ht (xI_nn k) y
theorem ka_same {s:St} (hs:Sorted s.ents) (y:W4):Same [32] s (s.setAmt KA y):=setAmt_same hs (by decide) nn71 y
theorem del_same {s:St} (hs:Sorted s.ents) {t:Nat} (ht:t≤255) (k:Nat):Same [t] s (s.del (aKey t (xI k))):=by
 rw [del_put]; exact same_put hs ht (xI_nn k) _
theorem ka_of {s s':St} {T:List Nat} (h:Same T s s') (h32:32∉T):s'.amt KA=s.amt KA:=h.amt (by decide) h32 nn71
theorem uCmp_le {x y:W4}:uCmp x y≤0↔uN x≤uN y:=by
 unfold uCmp; split
 ·constructor <;> intro _ <;> omega
 ·split
  ·constructor <;> intro _ <;> omega
  ·constructor <;> intro _ <;> omega
theorem gr_pk (k:Nat) (s:St) (tt mx y:W4) (bk dl:Nat):∃ j,j≤8∧PK k j s (grSt s (xI k) tt mx y bk dl):=by
 have h1:PK k 1 s (grS1 s (xI k) y):=(PK.refl s).amtA _
 unfold grSt
 split
 ·exact ⟨0,by omega,PK.refl s⟩
 ·split
  ·exact ⟨2,by omega,h1.amtX (by decide) (by decide) _⟩
  ·obtain ⟨j,hj,h⟩:=wait_pk h1 1 y (bk+dl)
   exact ⟨j,by omega,h⟩
theorem shP_pk (k:Nat) (s:St):∃ j,j≤2∧PK k j s (shP s (xI k)):=push_pk (PK.refl s) _ (by simp)
theorem shS1_pk (k:Nat) (s:St) (y:W4):∃ j,j≤1∧PK k j s (shS1 s (xI k) y):=by
 unfold shS1
 split
 ·exact ⟨1,by omega,(PK.refl s).amtA _⟩
 ·exact ⟨0,by omega,PK.refl s⟩
theorem sh_pk (k:Nat) (s:St) (tt y:W4) (bk tl:Nat) (sl:Bool):∃ j,j≤8∧PK k j s (shSt s (xI k) tt y bk tl sl):=by
 obtain ⟨i,hi,h1⟩:=shP_pk k s
 obtain ⟨i2,hi2,h2⟩:=shS1_pk k s y
 unfold shSt
 split
 ·split
  ·obtain ⟨j,hj,h⟩:=wait_pk h1 2 y (bk+tl)
   exact ⟨j,by omega,h⟩
  ·exact ⟨i,by omega,h1⟩
 ·split
  ·exact ⟨i2+1,by omega,h2.amtX (by decide) (by decide) _⟩
  ·exact ⟨i2,by omega,h2⟩
theorem md_pk (k:Nat) (s:St) (tt mx:W4) (bk dl tl:Int) (sl:Bool):∃ j,j≤8∧PK k j s (mdTS s (xI k) tt mx bk dl tl sl):=by
 unfold mdTS
 split
 ·exact gr_pk k s _ _ _ _ _
 ·exact sh_pk k s _ _ _ _ _
theorem md_ok {s:St} {n f k:Nat} (hA:AK s) (hN:AN n s) (hn:n < 100000) (hf:s.Fit f) (hm:f < 1000000) (hk:k < 3) (tt mx:W4) (bk dl tl:Int) (sl:Bool):MdOk s (xI k) tt mx bk dl tl sl:=by
 obtain ⟨j,hj,hp⟩:=md_pk k s tt mx bk dl tl sl
 have hg1:PK k 1 s (grS1 s (xI k) (mdY s (xI k) tt)):=(PK.refl s).amtA _
 have hg2:=wait2_pk hg1 1 (mdY s (xI k) tt) (bk.toNat+dl.toNat)
 obtain ⟨i,hi,hs1⟩:=shP_pk k s
 have hs2:=wait2_pk hs1 2 (mdY s (xI k) tt) (bk.toNat+tl.toNat)
 have hu:=hp.und hA.srt
 have hF:=hp.fit hf
 refine ⟨?_,fun z hz => ?_,fun z hz => ?_,?_,?_,hu.1.1,Nat.lt_of_le_of_lt hF.size (by omega)⟩
 ·have:=hN.eb; show (ends s 33 [7,1]).2 < _; omega
 ·have:=(hg2.ak hk hA).key z hz; omega
 ·have:=(hs2.ak hk hA).key z hz; omega
 ·have e1:=(dueS1_same (hg2.und hA.srt).2 (bk.toNat+dl.toNat) (xI k).l).int (t:=27) (l:=[]) (by decide) (by decide) (fun _ h=>by cases h)
  have e2:=(wait2_same (hg1.und hA.srt).2 k 1 (mdY s (xI k) tt) (bk.toNat+dl.toNat)).int (t:=27) (l:=[]) (by decide) (by decide) (fun _ h=>by cases h)
  have e3:=(ka_same hA.srt (grA s (xI k) (mdY s (xI k) tt))).int (t:=27) (l:=[]) (by decide) (by decide) (fun _ h=>by cases h)
  have:=hN.c27
  show (dueS1 _ _ (xI k).l).int (keyL 27 []) < _
  rw [e1,e2]
  show (St.setAmt s KA _).int (keyL 27 []) < _
  rw [e3]
  show s.int K27 < _
  omega
 ·have e1:=(dueS1_same (hs2.und hA.srt).2 (bk.toNat+tl.toNat) (xI k).l).int (t:=27) (l:=[]) (by decide) (by decide) (fun _ h=>by cases h)
  have e2:=(wait2_same (hs1.und hA.srt).2 k 2 (mdY s (xI k) tt) (bk.toNat+tl.toNat)).int (t:=27) (l:=[]) (by decide) (by decide) (fun _ h=>by cases h)
  have e3:=(push_same hA.srt [(9:Int),(k:Int)]).int (t:=27) (l:=[]) (by decide) (by decide) (fun _ h=>by cases h)
  have:=hN.c27
  show (dueS1 _ _ (xI k).l).int (keyL 27 []) < _
  rw [e1,e2]
  show (pushSt s 33 [7,1] 8 [(9:Int),(k:Int)]).int (keyL 27 []) < _
  rw [e3]
  show s.int K27 < _
  omega
end Go.Proofs.YtnkilceibkkjlaaGreat
