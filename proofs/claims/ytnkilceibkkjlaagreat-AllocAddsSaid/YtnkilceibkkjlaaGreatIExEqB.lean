/- What is proved here: the reference's withdrawals: Add. Conditions: sizes. slices.Sorted(maps.Keys(m)) of a map of ints to bools: its keys, sorted, in a slice of its own. Its condition: the map is owned; sizes. (The layings: printed by gen_iter.py.) exits of the program: the numbers of what waits (ids, Open, All). Conditions: sizes. exits of a store that no call made: Add, Done, the numbers of what waits. Conditions: s -/
import Derived.Test.YtnkilceibkkjlaaGreatIRExD
import Derived.Test.YtnkilceibkkjlaaGreatIRUndo
import Derived.Shelf.SlIterI.Nil
import Derived.Shelf.SortM.Plain
import Derived.Shelf.SortM.SortNone
import Derived.Ground.GgzProg
import Derived.Ground.SlgmProg
import Derived.Test.YtnkilceibkkjlaaGreatIHistP
import Derived.Test.YtnkilceibkkjlaaGreatIFqD
import Derived.Test.YtnkilceibkkjlaaGreatIRelyC
set_option maxRecDepth 100000
set_option maxHeartbeats 16000000
namespace Go.Proofs.YtnkilceibkkjlaaGreat
open Go.RowKit
theorem FV.next {b:Nat} {w W:World} {L:List Nat} {s:St} {rs:List (Nat × Obj)} {f:Nat} (hq:FV b w L s rs W) (hf:s.Fit f) (hm:f < 100000000) (k:ByteArray) (hn:s.int k < 1000000000000):Calls Tryz.prog 186 #[.pointer (some ⟨b,0,none⟩),.string k] W fun e W'=>e = .returned (.int .i64 (((s.int k:Nat):Int)+1))∧FV b w L (s.setInt k (((s.int k:Nat):Int)+1)) rs W' :=
 QV.call hq fun L' h1=>(rnext_any W b s L' k h1 (Nat.lt_of_le_of_lt hf.size (by omega)) (Nat.lt_of_le_of_lt (hf.val _) (by decide)) hn).mono fun _ _ ⟨he,h2⟩=>⟨he,h2⟩
theorem FV.undo {b:Nat} {w W:World} {L:List Nat} {s:St} {rs:List (Nat × Obj)} {f m:Nat} (hq:FV b w L s rs W) (hf:s.Fit f) (hm:f < 100000000) (hmp:m≤s.past.length):Calls Tryz.prog 133 #[.pointer (some ⟨b,0,none⟩),.int .i64 m] W fun e W'=>e = .returned (.bool true)∧FV b w L (s.undo m) rs W' :=
 QV.call hq fun L' h1=>(rundo_any W b s L' m h1 hmp (fun k=>Nat.lt_of_le_of_lt (undoK_size k) (Nat.lt_of_le_of_lt hf.size (by omega)))).mono fun _ _ ⟨he,h2⟩=>⟨he,h2⟩
end Go.Proofs.YtnkilceibkkjlaaGreat
namespace Go.Proofs.YtnkilceibkkjlaaGreat
open Go.RowKit Go.Maps Go.Sort Go.Shelf
end Go.Proofs.YtnkilceibkkjlaaGreat
namespace Go.Proofs.YtnkilceibkkjlaaGreat
open Go.RowKit Go.Maps
def nums1 (k:ByteArray):Option Nat:=match parseK k with
 | some (_,[x])=>some x
 | _=>none
def idOf (s:St) (P:List Nat→Bool) (x:Ent):Option Int:=match nums1 x.1 with
 | some n=>if P (rowOf (s.val x.1)) then some (n:Int) else none
 | none=>none
def St.ids (s:St) (P:List Nat→Bool):List Int:=(underE (keyL 15 []) s.ents).filterMap (idOf s P)
theorem idOf_some {s:St} {P:List Nat→Bool} {x:Ent} {z:Int} (h:idOf s P x=some z):∃ n:Nat,nums1 x.1=some n∧z=n∧P (rowOf (s.val x.1))=true:=by
 unfold idOf at h
 split at h
 ·rename_i n hn
  split at h
  ·cases h; exact ⟨n,hn,rfl,by assumption⟩
  ·cases h
 ·cases h
theorem one_key {s:St} {x:Ent} (hx:x∈underE (keyL 15 []) s.ents) {n:Nat} (h:nums1 x.1=some n):n < 9223372036854775808∧x.1=keyL 15 (asInts [n]):=by
 unfold nums1 at h
 split at h
 ·rename_i t p hp
  cases h
  obtain ⟨h1,h2⟩:=key_parse hp
  refine ⟨h2 n (by simp),?_⟩
  have hpre:=(List.mem_filter.1 hx).2
  rw [h1] at hpre ⊢
  have e1:(keyL 15 []).data.toList = [UInt8.ofNat 15]:=keyL_list 15 []
  have e2:=keyL_list t [n]
  have e3:UInt8.ofNat t=UInt8.ofNat 15:=by
   have h3:=isPre_iff.1 hpre
   rw [e1,e2] at h3
   obtain ⟨r,hr⟩:=h3
   have:=congrArg List.head? hr
   simpa using this.symm
  exact ba_ext (by rw [keyL_list,keyL_list,e3])
 ·cases h
end Go.Proofs.YtnkilceibkkjlaaGreat
namespace Go.Proofs.YtnkilceibkkjlaaGreat
open Go.RowKit Go.Maps
end Go.Proofs.YtnkilceibkkjlaaGreat
namespace Go.Proofs.YtnkilceibkkjlaaGreat
open Go.RowKit Go.Maps
end Go.Proofs.YtnkilceibkkjlaaGreat
namespace Go.Proofs.YtnkilceibkkjlaaGreat
open Go.RowKit Go.Maps
end Go.Proofs.YtnkilceibkkjlaaGreat
namespace Go.Proofs.YtnkilceibkkjlaaGreat
open Go.RowKit
theorem u8_ne {n m:Nat} (hn:n≤255) (hm:m≤255) (h:n≠m):UInt8.ofNat n≠UInt8.ofNat m:=fun e=>by
 have h1:=congrArg UInt8.toNat e
 rw [UInt8.toNat_ofNat',UInt8.toNat_ofNat'] at h1
 omega
theorem key_ne {n n':Nat} (hn:n≤255) (hn':n'≤255) (hne:n≠n') {l l':List Int} (hl:∀ x∈l,0≤x) (hl':∀ x∈l',0≤x):keyL n l≠keyL n' l':=fun h=>by
 have h1:=keyL_first (t:=n) (l:=l) (fun x hx=>by have:=hl x hx; omega)
 have h2:=keyL_first (t:=n') (l:=l') (fun x hx=>by have:=hl' x hx; omega)
 rw [h,h2] at h1
 exact u8_ne hn hn' hne (Option.some.inj h1).symm
theorem asInts_toNat:∀ {l:List Int},(∀ x∈l,0≤x)→asInts (l.map Int.toNat)=l
 | [],_=>rfl
 | x :: l,h=>by
  have h1:=asInts_toNat (l:=l) fun y hy=>h y (by simp [hy])
  have h2:=h x (by simp)
  unfold asInts at h1 ⊢
  simp only [List.map_cons,h1]
  rw [Int.toNat_of_nonneg h2]
theorem keyI_inj {t:Nat} (h1:1≤t) (h2:t≤255) {l m:List Int} (hl:∀ x∈l,0≤x∧I63 x) (hm:∀ x∈m,0≤x∧I63 x) (h:keyL t l=keyL t m):l=m:=by
 have e1:=asInts_toNat fun x hx=>(hl x hx).1
 have e2:=asInts_toNat fun x hx=>(hm x hx).1
 rw [← e1,← e2] at h ⊢
 have h3:=(keyL_inj h1 h2 h1 h2 (fun x hx=>by
  obtain ⟨y,hy,rfl⟩:=List.mem_map.1 hx
  have:=(hl y hy).2; unfold I63 at this; omega) (fun x hx=>by
  obtain ⟨y,hy,rfl⟩:=List.mem_map.1 hx
  have:=(hm y hy).2; unfold I63 at this; omega) h).2
 rw [h3]
theorem keyI_ne {t:Nat} (h1:1≤t) (h2:t≤255) {l m:List Int} (hl:∀ x∈l,0≤x∧I63 x) (hm:∀ x∈m,0≤x∧I63 x) (h:l≠m):keyL t l≠keyL t m:=fun e=>h (keyI_inj h1 h2 hl hm e)
theorem key25 (n:Nat) {l:List Int} (h:l.length≤3):(keyL n l).size≤25:=by
 unfold keyL
 split
 ·exact Nat.zero_le _
 ·show (keyBytes n l).toArray.size≤_
  rw [List.size_toArray,keyBytes_len]
  omega
theorem keyL_emp {n:Nat} {l:List Int} (h:¬ ∀ x∈l,0≤x):keyL n l=emptyB:=by
 have:∃ x∈l,x < 0:=by
  apply Classical.byContradiction
  intro h2
  exact h fun x hx=>Int.not_lt.1 fun h3=>h2 ⟨x,hx,h3⟩
 obtain ⟨x,hx,h3⟩:=this
 exact keyL_neg hx h3
structure XB (s:St):Prop where
 srt:Sorted s.ents
 keys:∀ x∈s.ents,x.1.size≤25
 noE:getE s.ents emptyB=none
theorem XB.put {s:St} (h:XB s) {k:ByteArray} (hk:k.size≤25) (v:ByteArray):XB (s.put k v):=by
 refine ⟨put_srt h.srt _ _,?_,?_⟩
 ·unfold St.put
  split
  ·unfold St.del; split
   ·exact fun y hy=>h.keys y (delE_mem hy)
   ·exact h.keys
  ·split
   ·exact h.keys
   ·unfold St.set; split
    ·exact h.keys
    ·intro y hy
     rcases putE_mem hy with rfl | hy
     ·exact hk
     ·exact h.keys y hy
 ·rw [getE_put h.srt]
  by_cases h1:k=emptyB
  ·rw [if_pos h1]
   split
   ·rfl
   ·exact h.noE
  ·rw [if_neg h1]; exact h.noE
theorem XB.del {s:St} (h:XB s) {k:ByteArray} (hk:k.size≤25):XB (s.del k):=by
 have:=h.put hk emptyB
 unfold St.put at this
 rwa [if_pos rfl] at this
theorem XB.st {h:Hand} {s s':St} (h1:XB s) (h2:XB s'):XB (h.st s s'):=by
 unfold Hand.st; split
 ·exact h2
 ·exact h1
theorem XB.empty:XB emptySt:=⟨List.Pairwise.nil,(fun x hx=>by cases hx),rfl⟩
theorem put_emp {s:St} (h:XB s) (v:ByteArray):(s.put emptyB v).ents=s.ents:=by
 refine sorted_ext (put_srt h.srt _ _) h.srt fun j => ?_
 rw [getE_put h.srt]
 by_cases h1:emptyB=j
 ·rw [if_pos h1,← h1]
  split
  ·exact h.noE.symm
  ·rw [if_pos rfl]
 ·rw [if_neg h1]
def Same (T:List Nat) (s s':St):Prop:=∀ t l,t≤255→t∉T→(∀ y∈l,0≤y)→getE s'.ents (keyL t l)=getE s.ents (keyL t l)
theorem Same.refl (T:List Nat) (s:St):Same T s s:=fun _ _ _ _ _=>rfl
theorem Same.trans {T:List Nat} {s s1 s2:St} (h:Same T s s1) (h2:Same T s1 s2):Same T s s2:=fun t l a b c=>(h2 t l a b c).trans (h t l a b c)
theorem Same.of_eq {T:List Nat} {s s':St} (h:s'.ents=s.ents):Same T s s':=fun _ _ _ _ _=>by rw [h]
theorem Same.mono {T T':List Nat} {s s':St} (h:Same T s s') (hT:∀ t∈T,t∈T'):Same T' s s':=fun t l a b c=>h t l a (fun hh=>b (hT t hh)) c
theorem XB.same {s:St} (h:XB s) {n:Nat} (hn:n≤255) (l:List Int) (v:ByteArray):Same [n] s (s.put (keyL n l) v):=by
 by_cases hl:∀ x∈l,0≤x
 ·intro t m ht hT hm
  rw [getE_put h.srt,if_neg (key_ne hn ht (fun e=>hT (by simp [e])) hl hm)]
 ·rw [keyL_emp hl]
  exact Same.of_eq (put_emp h v)
theorem Same.st {T:List Nat} {h:Hand} {s s':St} (h2:Same T s s'):Same T s (h.st s s'):=by
 unfold Hand.st; split
 ·exact h2
 ·exact Same.refl _ _
theorem Same.val {T:List Nat} {s s':St} (h:Same T s s') {t:Nat} {l:List Int} (ht:t≤255) (hT:t∉T) (hl:∀ y∈l,0≤y):s'.val (keyL t l)=s.val (keyL t l):=by
 unfold St.val; rw [h t l ht hT hl]
theorem Same.int {T:List Nat} {s s':St} (h:Same T s s') {t:Nat} {l:List Int} (ht:t≤255) (hT:t∉T) (hl:∀ y∈l,0≤y):s'.int (keyL t l)=s.int (keyL t l):=by
 unfold St.int; rw [h.val ht hT hl]
theorem Same.amt {T:List Nat} {s s':St} (h:Same T s s') {t:Nat} {l:List Int} (ht:t≤255) (hT:t∉T) (hl:∀ y∈l,0≤y):s'.amt (keyL t l)=s.amt (keyL t l):=by
 unfold St.amt; rw [h.val ht hT hl]
theorem nn2 {a b:Int} (ha:0≤a) (hb:0≤b):∀ y∈[a,b],0≤y:=fun y hy=>by
 simp only [List.mem_cons,List.not_mem_nil,or_false] at hy
 rcases hy with rfl | rfl <;> assumption
theorem nn1 {a:Int} (ha:0≤a):∀ y∈[a],0≤y:=fun y hy=>by rw [List.mem_singleton] at hy; subst hy; exact ha
theorem nn3 {a b:Int} (ha:0≤a) (hb:0≤b) (i:Nat):∀ y∈[a,b] ++ [(i:Int)],0≤y:=fun y hy=>by
 rcases List.mem_append.1 hy with h | h
 ·exact nn2 ha hb y h
 ·rw [List.mem_singleton] at h; subst h; omega
theorem Same.hlen {T:List Nat} {s s':St} (h:Same T s s') (hT:16∉T) {o t:Int} (ho:0≤o) (ht:0≤t):s'.hlen 16 [o,t]=s.hlen 16 [o,t]:=h.int (by decide) hT (nn2 ho ht)
theorem Same.hpI {T:List Nat} {s s':St} (h:Same T s s') (hT:16∉T) {o t:Int} (ho:0≤o) (ht:0≤t) (i:Nat):s'.hpI 16 [o,t] i=s.hpI 16 [o,t] i:=by
 unfold St.hpI; rw [h.val (by decide) hT (nn3 ho ht i)]
structure XG (k:Nat) (s:St):Prop where
 b:XB s
 rows:∀ (id:Int) v,0≤id→I63 id→getE s.ents (keyL 15 [id])=some v→(rowOf v).length=4
 mono:∀ o t:Int,0≤o→0≤t→I63 o→I63 t→∀ i j:Nat,i≤j→j < s.hlen 16 [o,t]→(s.hpI 16 [o,t] i).1≤(s.hpI 16 [o,t] j).1
 hlen:∀ o t:Int,0≤o→0≤t→I63 o→I63 t→s.hlen 16 [o,t]≤k
 cnt:s.int (keyL 14 [])≤k
 op:∀ n:Int,0≤n→I63 n→s.int (keyL 20 [n])≤16
theorem XG.more {k k':Nat} {s:St} (h:XG k s) (hk:k≤k'):XG k' s:=⟨h.b,h.rows,h.mono,fun o t a b c d=>Nat.le_trans (h.hlen o t a b c d) hk,Nat.le_trans h.cnt hk,h.op⟩
theorem XG.empty:XG 0 emptySt:=⟨XB.empty,(fun _ _ _ _ h=>by cases h),fun _ _ _ _ _ _ i j _ h=>absurd h (by show ¬ j < 0; omega),fun _ _ _ _ _ _=>Nat.le_refl _,Nat.le_refl _,fun _ _ _=>Nat.zero_le _⟩
theorem int_emp {s:St} (h:XB s):s.int emptyB=0:=by
 unfold St.int St.val; rw [h.noE]; exact intOfV_empty
theorem XG.op' {k:Nat} {s:St} (h:XG k s) {n:Int} (hn:I63 n):s.int (keyL 20 [n])≤16:=by
 by_cases h0:0≤n
 ·exact h.op n h0 hn
 ·rw [keyL_emp (fun hh=>h0 (hh n (by simp))),int_emp h.b]; exact Nat.zero_le _
theorem XG.mono' {k:Nat} {s:St} (h:XG k s) {o t:Int} (ho:I63 o) (ht:I63 t):∀ i j:Nat,i≤j→j < s.hlen 16 [o,t]→(s.hpI 16 [o,t] i).1≤(s.hpI 16 [o,t] j).1:=by
 by_cases h0:0≤o∧0≤t
 ·exact h.mono o t h0.1 h0.2 ho ht
 ·intro i j _ hj
  unfold St.hlen at hj
  rw [keyL_emp (fun hh=>h0 ⟨hh o (by simp),hh t (by simp)⟩),int_emp h.b] at hj
  exact absurd hj (by omega)
theorem XG.step {k:Nat} {s s':St} (h:XG k s) (hb:XB s') {T:List Nat} (hS:Same T s s') (h14:14∉T) (h15:15∉T) (h16:16∉T) (h20:20∉T):XG k s':=by
 refine ⟨hb,fun id v h0 h1 hv => ?_,fun o t ho ht h1 h2 i j hij hj => ?_,fun o t ho ht h1 h2 => ?_,?_,fun n hn h1 => ?_⟩
 ·rw [hS 15 [id] (by decide) h15 (nn1 h0)] at hv
  exact h.rows id v h0 h1 hv
 ·rw [hS.hpI h16 ho ht,hS.hpI h16 ho ht]
  rw [hS.hlen h16 ho ht] at hj
  exact h.mono o t ho ht h1 h2 i j hij hj
 ·rw [hS.hlen h16 ho ht]; exact h.hlen o t ho ht h1 h2
 ·rw [hS.int (by decide) h14 (by simp)]; exact h.cnt
 ·rw [hS.int (by decide) h20 (nn1 hn)]; exact h.op n hn h1
theorem XG.put {k n:Nat} {s:St} (h:XG k s) (hn:n=17∨n=18∨n=19) {l:List Int} (hl:l.length≤3) (v:ByteArray):XG k (s.put (keyL n l) v):=by
 have hb:=h.b.put (key25 n hl) v
 have hS:=h.b.same (n:=n) (by omega) l v
 exact h.step hb hS (by simp; omega) (by simp; omega) (by simp; omega) (by simp; omega)
theorem XG.st {k:Nat} {hd:Hand} {s s':St} (h1:XG k s) (h2:XG k s'):XG k (hd.st s s'):=by
 unfold Hand.st; split
 ·exact h2
 ·exact h1
theorem XG.setInt14 {k:Nat} {s:St} (h:XG k s) (hk:k < 1000000000000):XG (k+1) (s.setInt (keyL 14 []) (((s.int (keyL 14 []):Nat):Int)+1)):=by
 have hb:XB (s.setInt (keyL 14 []) (((s.int (keyL 14 []):Nat):Int)+1)):=h.b.put (key25 14 (by simp)) _
 have hS:Same [14] s (s.setInt (keyL 14 []) (((s.int (keyL 14 []):Nat):Int)+1)):=h.b.same (by decide) _ _
 have hc:=h.cnt
 have hne:keyL 14 []≠emptyB:=keyL_some 14 (by simp)
 refine ⟨hb,fun id v h0 h1 hv => ?_,fun o t ho ht h1 h2 i j hij hj => ?_,fun o t ho ht h1 h2 => ?_,?_,fun n hn h1 => ?_⟩
 ·rw [hS 15 [id] (by decide) (by simp) (nn1 h0)] at hv
  exact h.rows id v h0 h1 hv
 ·rw [hS.hpI (by simp) ho ht,hS.hpI (by simp) ho ht]
  rw [hS.hlen (by simp) ho ht] at hj
  exact h.mono o t ho ht h1 h2 i j hij hj
 ·rw [hS.hlen (by simp) ho ht]; exact Nat.le_trans (h.hlen o t ho ht h1 h2) (Nat.le_succ _)
 ·rw [int_setInt s h.b.srt _ _ hne _ (by omega),if_pos rfl]; omega
 ·rw [hS.int (by decide) (by simp) (nn1 hn)]; exact h.op n hn h1
theorem XG.setInt20 {k:Nat} {s:St} (h:XG k s) {a:Int} {n:Int} (hn:n≤16):XG k (s.setInt (keyL 20 [a]) n):=by
 have hb:XB (s.setInt (keyL 20 [a]) n):=h.b.put (key25 20 (by simp)) _
 have hS:Same [20] s (s.setInt (keyL 20 [a]) n):=h.b.same (by decide) _ _
 refine ⟨hb,fun id v h0 h1 hv => ?_,fun o t ho ht h1 h2 i j hij hj => ?_,fun o t ho ht h1 h2 => ?_,?_,fun b hb0 h1 => ?_⟩
 ·rw [hS 15 [id] (by decide) (by simp) (nn1 h0)] at hv
  exact h.rows id v h0 h1 hv
 ·rw [hS.hpI (by simp) ho ht,hS.hpI (by simp) ho ht]
  rw [hS.hlen (by simp) ho ht] at hj
  exact h.mono o t ho ht h1 h2 i j hij hj
 ·rw [hS.hlen (by simp) ho ht]; exact h.hlen o t ho ht h1 h2
 ·rw [hS.int (by decide) (by simp) (by simp)]; exact h.cnt
 ·by_cases ha:0≤a
  ·rw [int_setInt s h.b.srt _ _ (keyL_some 20 (nn1 ha)) _ (by omega)]
   split
   ·omega
   ·exact h.op b hb0 h1
  ·have he:(s.setInt (keyL 20 [a]) n).ents=s.ents:=by
    rw [keyL_emp (fun hh=>ha (hh a (by simp)))]
    exact put_emp h.b _
   have:(s.setInt (keyL 20 [a]) n).int (keyL 20 [b])=s.int (keyL 20 [b]):=by unfold St.int St.val; rw [he]
   rw [this]; exact h.op b hb0 h1
theorem XG.put15 {k:Nat} {s:St} (h:XG k s) (id:Int) (hid:0≤id) {v:ByteArray} (hv:(rowOf v).length=4):XG k (s.put (keyL 15 [id]) v):=by
 have hb:=h.b.put (key25 15 (l:=[id]) (by simp)) v
 have hS:=h.b.same (n:=15) (by decide) [id] v
 refine ⟨hb,fun j u h0 h1 hu => ?_,fun o t ho ht h1 h2 i j hij hj => ?_,fun o t ho ht h1 h2 => ?_,?_,fun n hn h1 => ?_⟩
 ·rw [getE_put h.b.srt] at hu
  by_cases e:keyL 15 [id]=keyL 15 [j]
  ·rw [if_pos e] at hu
   split at hu
   ·cases hu
   ·rw [if_neg (keyL_some 15 (nn1 hid))] at hu
    cases hu; exact hv
  ·rw [if_neg e] at hu; exact h.rows j u h0 h1 hu
 ·rw [hS.hpI (by simp) ho ht,hS.hpI (by simp) ho ht]
  rw [hS.hlen (by simp) ho ht] at hj
  exact h.mono o t ho ht h1 h2 i j hij hj
 ·rw [hS.hlen (by simp) ho ht]; exact h.hlen o t ho ht h1 h2
 ·rw [hS.int (by decide) (by simp) (by simp)]; exact h.cnt
 ·rw [hS.int (by decide) (by simp) (nn1 hn)]; exact h.op n hn h1
theorem XG.del {k n:Nat} {s:St} (h:XG k s) (hn:n=15∨n=17∨n=18) (id:Int):XG k (s.del (keyL n [id])):=by
 have e:s.del (keyL n [id])=s.put (keyL n [id]) emptyB:=by unfold St.put; rw [if_pos rfl]
 rcases hn with rfl | hn
 ·have hS:=h.b.same (n:=15) (by decide) [id] emptyB
  have hb:=h.b.put (key25 15 (l:=[id]) (by simp)) emptyB
  rw [← e] at hS hb
  refine ⟨hb,fun j u h0 h1 hu => ?_,fun o t ho ht h1 h2 i j hij hj => ?_,fun o t ho ht h1 h2 => ?_,?_,fun n hn h1 => ?_⟩
  ·rw [e,getE_put h.b.srt] at hu
   split at hu
   ·rw [if_pos rfl] at hu; cases hu
   ·exact h.rows j u h0 h1 hu
  ·rw [hS.hpI (by simp) ho ht,hS.hpI (by simp) ho ht]
   rw [hS.hlen (by simp) ho ht] at hj
   exact h.mono o t ho ht h1 h2 i j hij hj
  ·rw [hS.hlen (by simp) ho ht]; exact h.hlen o t ho ht h1 h2
  ·rw [hS.int (by decide) (by simp) (by simp)]; exact h.cnt
  ·rw [hS.int (by decide) (by simp) (nn1 hn)]; exact h.op n hn h1
 ·rw [e]
  exact h.put (by rcases hn with rfl | rfl <;> simp) (by simp) _
end Go.Proofs.YtnkilceibkkjlaaGreat
namespace Go.Proofs.YtnkilceibkkjlaaGreat
open Go.RowKit
theorem newB (w:World):Calls Tryz.prog 15 #[] w fun e w1=>∃ b L,e = .returned (.pointer (some ⟨b,0,none⟩))∧SRep w1 b emptySt L∧Below w.heap.size w w1∧∀ k∈L,w.heap.size≤k :=
 (new_any w).mono fun _ _ ⟨b,L,he,hS,hF,hL⟩=>⟨b,L,he,hS,hF.below,hL⟩
theorem HV.belowOf {h:Hand} {w0 w W:World} {s:St} {rs:List (Nat × Obj)} (hV:HV h w s rs W) (hb:Below w0.heap.size w0 w) (hL:∀ k∈h.L,w0.heap.size≤k):Below w0.heap.size w0 W:=by
 obtain ⟨L',_,st⟩:=HV.done hV
 refine ⟨st.fr.os.trans hb.os,st.fr.tape.trans hb.tape,st.fr.output.trans hb.output,Nat.le_trans hb.size st.fr.size,fun k hk => ?_⟩
 rw [st.fr.block k (Nat.lt_of_lt_of_le hk hb.size) (fun hm=>absurd (hL k hm) (by omega))]
 exact hb.block k hk
end Go.Proofs.YtnkilceibkkjlaaGreat
namespace Go.Proofs.YtnkilceibkkjlaaGreat
open Go.RowKit
end Go.Proofs.YtnkilceibkkjlaaGreat
namespace Go.Proofs.YtnkilceibkkjlaaGreat
open Go.RowKit
end Go.Proofs.YtnkilceibkkjlaaGreat
namespace Go.Proofs.YtnkilceibkkjlaaGreat
open Go.RowKit
structure XAct where
 kd:Int
 id:Int
 dl:Int
 x:Ex
 m:W4
 n:W4
def XAct.L (A:XAct):Array Value:=#[.int .i64 A.kd,.int .i64 A.id,.int .i64 A.dl,.int .i64 A.x.st,.int .i64 A.x.op,.int .i64 A.x.sg,.int .i64 A.x.bl,.int .u64 A.x.wo.1,.int .u64 A.x.wo.2.1,.int .u64 A.x.wo.2.2.1,.int .u64 A.x.wo.2.2.2,.int .u64 A.x.mx.1,.int .u64 A.x.mx.2.1,.int .u64 A.x.mx.2.2.1,.int .u64 A.x.mx.2.2.2,.int .u64 A.m.1,.int .u64 A.m.2.1,.int .u64 A.m.2.2.1,.int .u64 A.m.2.2.2,.int .u64 A.n.1,.int .u64 A.n.2.1,.int .u64 A.n.2.2.1,.int .u64 A.n.2.2.2]
structure XAct.Ok (A:XAct):Prop where
 id:I63 A.id
 dl:I63 A.dl
 x:A.x.Ok
 m:A.m.Ok
 n:A.n.Ok
end Go.Proofs.YtnkilceibkkjlaaGreat
namespace Go.Proofs.YtnkilceibkkjlaaGreat
open Go.RowKit
theorem bsr_inv {p:Nat→Bool} {n:Nat} (hp:∀ i j,i≤j→j < n→p j=true→p i=true):∀ k lo hi,hi - lo≤k→lo≤hi→hi≤n→(∀ i,i < lo→p i=true)→(∀ i,hi≤i→i < n→p i=false)→(∀ i,i < bsr p k lo hi→p i=true)∧(∀ i,bsr p k lo hi≤i→i < n→p i=false)∧bsr p k lo hi≤n
 | 0,lo,hi,h1,h2,h3,h4,h5=>by
  have e:hi=lo:=by omega
  subst e
  exact ⟨h4,h5,h3⟩
 | k+1,lo,hi,h1,h2,h3,h4,h5=>by
  show (∀ i,i < (if hi≤lo then lo else if p (lo+(hi - lo) / 2) then bsr p k (lo+(hi - lo) / 2+1) hi else bsr p k lo (lo+(hi - lo) / 2))→p i=true)∧(∀ i,(if hi≤lo then lo else if p (lo+(hi - lo) / 2) then bsr p k (lo+(hi - lo) / 2+1) hi else bsr p k lo (lo+(hi - lo) / 2))≤i→i < n→p i=false)∧(if hi≤lo then lo else if p (lo+(hi - lo) / 2) then bsr p k (lo+(hi - lo) / 2+1) hi else bsr p k lo (lo+(hi - lo) / 2))≤n
  by_cases h0:hi≤lo
  ·have e:hi=lo:=by omega
   subst e
   rw [if_pos h0]
   exact ⟨h4,h5,h3⟩
  ·rw [if_neg h0]
   generalize hm:lo+(hi - lo) / 2=m
   have hm1:lo≤m:=by omega
   have hm2:m < hi:=by omega
   cases hpm:p m with
   | true =>
    rw [if_pos rfl]
    exact bsr_inv hp k (m+1) hi (by omega) (by omega) h3 (fun i hi2=>hp i m (by omega) (by omega) hpm) h5
   | false =>
    rw [if_neg (by decide)]
    refine bsr_inv hp k lo m (by omega) hm1 (by omega) h4 (fun i hi1 hi2 => ?_)
    cases hpi:p i with
    | false=>rfl
    | true=>rw [hp m i hi1 hi2 hpi] at hpm; cases hpm
section
variable {s m:St} (h:s.ents=m.ents)
include h
end
theorem XG.sub {k:Nat} {h:Hand} {s:St} (hg:XG k s) (t:Int) (y:W4):XG k (h.subSt s (keyL 19 [t]) y):=by
 unfold Hand.subSt
 split
 ·exact hg.st (hg.put (.inr (.inr rfl)) (by simp) _)
 ·exact hg
theorem XG.cut {k:Nat} {h:Hand} {s:St} (hg:XG k s) (sl:W4) (o t b d:Int) (tq fr:W4):XG k (h.cutX s sl o t b d tq fr):=by
 unfold Hand.cutX
 split
 ·exact hg
 ·exact hg.sub t _
theorem XG.done {k:Nat} {h:Hand} {s:St} (hg:XG k s) (id:Int) (n:W4):XG k (h.dnSt s id n):=by
 unfold Hand.dnSt
 split
 ·have h1:XG k (h.dn1 s id n):=hg.sub _ _
  have h3:XG k (h.dnS s id n 3):=((h1.del (.inl rfl) id).del (.inr (.inl rfl)) id).del (.inr (.inr rfl)) id
  unfold Hand.dn5
  have h4:=h3.op' (ex_i63 s id).1
  exact h3.setInt20 (by omega)
 ·exact hg
theorem XG.push {k:Nat} {s:St} (hg:XG k s) (hk:k < 1000000000000) {o t:Int} (ho:0≤o) (ht:0≤t) (ho':I63 o) (ht':I63 t) {b:Nat} (hb:b≤1099511627776) {a:W4} (ha:a.Ok):XG (k+1) (hpuSt s 16 [o,t] b a):=by
 have hnn:=nn2 ho ht
 have hin2:∀ {p q:Int},0≤p→0≤q→I63 p→I63 q→∀ x∈[p,q],0≤x∧I63 x:=fun a b c d x hx=>by
  simp only [List.mem_cons,List.not_mem_nil,or_false] at hx
  rcases hx with rfl | rfl <;> exact ⟨by assumption,by assumption⟩
 have hin3:∀ {p q:Int} {i:Nat},0≤p→0≤q→I63 p→I63 q→i < 9223372036854775808→∀ x∈[p,q] ++ [(i:Int)],0≤x∧I63 x:=fun a b c d e x hx=>by
  rcases List.mem_append.1 hx with h | h
  ·exact hin2 a b c d x h
  ·rw [List.mem_singleton] at h; subst h; exact ⟨by omega,by unfold I63; omega⟩
 have hne23:∀ {p q p' q':Int} {i:Nat},0≤p→0≤q→I63 p→I63 q→0≤p'→0≤q'→I63 p'→I63 q'→i < 9223372036854775808→keyL 16 ([p,q] ++ [(i:Int)])≠keyL 16 [p',q']:=fun a b c d a' b' c' d' e =>
  keyI_ne (by decide) (by decide) (hin3 a b c d e) (hin2 a' b' c' d') (by simp)
 have hpt:hpt (ptB b a)=(b,a):=hpt_ptB (by omega) ha
 have hset:∀ (s0:St) (i:Nat),i < 9223372036854775808→XB s0→XB (s0.set (keyL 16 ([o,t] ++ [(i:Int)])) (ptB b a))∧Same [16] s0 (s0.set (keyL 16 ([o,t] ++ [(i:Int)])) (ptB b a))∧(∀ p q:Int,0≤p→0≤q→I63 p→I63 q→(s0.set (keyL 16 ([o,t] ++ [(i:Int)])) (ptB b a)).hlen 16 [p,q]=s0.hlen 16 [p,q]) ∧
   (∀ p q:Int,0≤p→0≤q→I63 p→I63 q→∀ j:Nat,j < 9223372036854775808→(s0.set (keyL 16 ([o,t] ++ [(i:Int)])) (ptB b a)).hpI 16 [p,q] j=if p=o∧q=t∧j=i then (b,a) else s0.hpI 16 [p,q] j):=fun s0 i hi h0=>by
  have hk0:keyL 16 ([o,t] ++ [(i:Int)])≠emptyB:=kpos 16 hnn (by omega)
  rw [set_put _ hk0 (ptB_some _ _)]
  refine ⟨h0.put (key25 16 (by simp)) _,h0.same (by decide) _ _,fun p q hp hq hp' hq' => ?_,fun p q hp hq hp' hq' j hj => ?_⟩
  ·unfold St.hlen St.int
   rw [val_put s0 h0.srt _ _ _ hk0,if_neg (hne23 ho ht ho' ht' hp hq hp' hq' hi)]
  ·unfold St.hpI
   rw [val_put s0 h0.srt _ _ _ hk0]
   by_cases e:p=o∧q=t∧j=i
   ·obtain ⟨rfl,rfl,rfl⟩:=e
    rw [if_pos rfl,if_pos ⟨rfl,rfl,rfl⟩,hpt]
   ·rw [if_neg e,if_neg]
    intro e2
    have:=keyI_inj (by decide) (by decide) (hin3 ho ht ho' ht' hi) (hin3 hp hq hp' hq' hj) e2
    simp only [List.cons_append,List.nil_append,List.cons.injEq,and_true] at this
    exact e ⟨this.1.symm,this.2.1.symm,by omega⟩
 have hlen0:=hg.hlen o t ho ht ho' ht'
 have hnew:(0 < s.hlen 16 [o,t]→(s.hpL 16 [o,t]).1≤b)→XG (k+1) (s.hnew 16 [o,t] b a):=fun hlast=>by
  unfold St.hnew
  have hbI:XB (s.setInt (keyL 16 [o,t]) (((s.hlen 16 [o,t]:Nat):Int)+1)):=hg.b.put (key25 16 (by simp)) _
  have hSI:Same [16] s (s.setInt (keyL 16 [o,t]) (((s.hlen 16 [o,t]:Nat):Int)+1)):=hg.b.same (by decide) _ _
  have hLI:∀ p q:Int,0≤p→0≤q→I63 p→I63 q→(s.setInt (keyL 16 [o,t]) (((s.hlen 16 [o,t]:Nat):Int)+1)).hlen 16 [p,q]=if p=o∧q=t then s.hlen 16 [o,t]+1 else s.hlen 16 [p,q]:=fun p q hp hq hp' hq'=>by
   unfold St.hlen
   rw [int_setInt s hg.b.srt _ _ (keyL_some 16 hnn) _ (by unfold St.hlen at hlen0; omega)]
   by_cases e:p=o∧q=t
   ·obtain ⟨rfl,rfl⟩:=e
    rw [if_pos rfl,if_pos ⟨rfl,rfl⟩]; omega
   ·rw [if_neg e,if_neg]
    intro e2
    have:=keyI_inj (by decide) (by decide) (hin2 ho ht ho' ht') (hin2 hp hq hp' hq') e2
    simp only [List.cons.injEq,and_true] at this
    exact e ⟨this.1.symm,this.2.symm⟩
  have hPI:∀ p q:Int,0≤p→0≤q→I63 p→I63 q→∀ j:Nat,j < 9223372036854775808→(s.setInt (keyL 16 [o,t]) (((s.hlen 16 [o,t]:Nat):Int)+1)).hpI 16 [p,q] j=s.hpI 16 [p,q] j:=fun p q hp hq hp' hq' j hj=>by
   unfold St.hpI St.setInt
   rw [val_put s hg.b.srt _ _ _ (keyL_some 16 hnn),if_neg (hne23 hp hq hp' hq' ho ht ho' ht' hj).symm]
  obtain ⟨c1,c2,c3,c4⟩:=hset _ (s.hlen 16 [o,t]) (by omega) hbI
  have hS:=hSI.trans c2
  generalize (s.setInt (keyL 16 [o,t]) (((s.hlen 16 [o,t]:Nat):Int)+1)).set (keyL 16 ([o,t] ++ [((s.hlen 16 [o,t]:Nat):Int)])) (ptB b a)=s2 at *
  generalize s.setInt (keyL 16 [o,t]) (((s.hlen 16 [o,t]:Nat):Int)+1)=s1 at *
  have hL2:∀ p q:Int,0≤p→0≤q→I63 p→I63 q→s2.hlen 16 [p,q]=if p=o∧q=t then s.hlen 16 [o,t]+1 else s.hlen 16 [p,q]:=fun p q hp hq hp' hq'=>by rw [c3 p q hp hq hp' hq',hLI p q hp hq hp' hq']
  have hP2:∀ p q:Int,0≤p→0≤q→I63 p→I63 q→∀ j:Nat,j < 9223372036854775808→s2.hpI 16 [p,q] j=if p=o∧q=t∧j=s.hlen 16 [o,t] then (b,a) else s.hpI 16 [p,q] j:=fun p q hp hq hp' hq' j hj=>by rw [c4 p q hp hq hp' hq' j hj,hPI p q hp hq hp' hq' j hj]
  refine ⟨c1,fun id v h0 h1 hv => ?_,fun p q hp hq hp' hq' i j hij hj => ?_,fun p q hp hq hp' hq' => ?_,?_,fun n hn h1 => ?_⟩
  ·rw [hS 15 [id] (by decide) (by simp) (nn1 h0)] at hv
   exact hg.rows id v h0 h1 hv
  ·rw [hL2 p q hp hq hp' hq'] at hj
   by_cases e:p=o∧q=t
   ·obtain ⟨rfl,rfl⟩:=e
    rw [if_pos ⟨rfl,rfl⟩] at hj
    rw [hP2 p q hp hq hp' hq' i (by omega),hP2 p q hp hq hp' hq' j (by omega)]
    by_cases ei:i=s.hlen 16 [p,q]
    ·rw [if_pos ⟨rfl,rfl,ei⟩,if_pos ⟨rfl,rfl,by omega⟩]; exact Nat.le_refl _
    ·rw [if_neg (fun h=>ei h.2.2)]
     by_cases ej:j=s.hlen 16 [p,q]
     ·rw [if_pos ⟨rfl,rfl,ej⟩]
      have hpos:0 < s.hlen 16 [p,q]:=by omega
      have h1:=hg.mono p q hp hq hp' hq' i (s.hlen 16 [p,q] - 1) (by omega) (by omega)
      have h2:=hlast hpos
      have e3:s.hpL 16 [p,q]=s.hpI 16 [p,q] ((s.hlen 16 [p,q] - 1:Nat):Int):=by
       unfold St.hpL St.hpI
       rw [show ((s.hlen 16 [p,q]:Nat):Int) - 1=((s.hlen 16 [p,q] - 1:Nat):Int) by omega]
      rw [e3] at h2
      exact Nat.le_trans h1 h2
     ·rw [if_neg (fun h=>ej h.2.2)]
      exact hg.mono p q hp hq hp' hq' i j hij (by omega)
   ·rw [if_neg e] at hj
    have hl:=hg.hlen p q hp hq hp' hq'
    rw [hP2 p q hp hq hp' hq' i (by omega),hP2 p q hp hq hp' hq' j (by omega),if_neg (fun h=>e ⟨h.1,h.2.1⟩),if_neg (fun h=>e ⟨h.1,h.2.1⟩)]
    exact hg.mono p q hp hq hp' hq' i j hij hj
  ·rw [hL2 p q hp hq hp' hq']
   split
   ·omega
   ·exact Nat.le_trans (hg.hlen p q hp hq hp' hq') (Nat.le_succ _)
  ·rw [hS.int (by decide) (by simp) (by simp)]; exact Nat.le_trans hg.cnt (Nat.le_succ _)
  ·rw [hS.int (by decide) (by simp) (nn1 hn)]; exact hg.op n hn h1
 unfold hpuSt
 split
 ·rename_i h0
  split
  ·exact hg.more (Nat.le_succ _)
  ·rename_i hlt
   split
   ·rename_i hbe
    rw [show ((s.hlen 16 [o,t]:Nat):Int) - 1=((s.hlen 16 [o,t] - 1:Nat):Int) by omega]
    obtain ⟨c1,c2,c3,c4⟩:=hset s (s.hlen 16 [o,t] - 1) (by omega) hg.b
    generalize s.set (keyL 16 ([o,t] ++ [((s.hlen 16 [o,t] - 1:Nat):Int)])) (ptB b a)=s2 at *
    have e3:s.hpL 16 [o,t]=s.hpI 16 [o,t] ((s.hlen 16 [o,t] - 1:Nat):Int):=by
     unfold St.hpL St.hpI
     rw [show ((s.hlen 16 [o,t]:Nat):Int) - 1=((s.hlen 16 [o,t] - 1:Nat):Int) by omega]
    have hB:∀ p q:Int,0≤p→0≤q→I63 p→I63 q→∀ j:Nat,j < 9223372036854775808→(s2.hpI 16 [p,q] j).1=(s.hpI 16 [p,q] j).1:=fun p q hp hq hp' hq' j hj=>by
     rw [c4 p q hp hq hp' hq' j hj]
     split
     ·rename_i e
      obtain ⟨rfl,rfl,rfl⟩:=e
      rw [← e3]; exact hbe
     ·rfl
    refine ⟨c1,fun id v h1 h2 hv => ?_,fun p q hp hq hp' hq' i j hij hj => ?_,fun p q hp hq hp' hq' => ?_,?_,fun n hn h1 => ?_⟩
    ·rw [c2 15 [id] (by decide) (by simp) (nn1 h1)] at hv
     exact hg.rows id v h1 h2 hv
    ·rw [c3 p q hp hq hp' hq'] at hj
     have hl:=hg.hlen p q hp hq hp' hq'
     rw [hB p q hp hq hp' hq' i (by omega),hB p q hp hq hp' hq' j (by omega)]
     exact hg.mono p q hp hq hp' hq' i j hij hj
    ·rw [c3 p q hp hq hp' hq']; exact Nat.le_trans (hg.hlen p q hp hq hp' hq') (Nat.le_succ _)
    ·rw [c2.int (by decide) (by simp) (by simp)]; exact Nat.le_trans hg.cnt (Nat.le_succ _)
    ·rw [c2.int (by decide) (by simp) (nn1 hn)]; exact hg.op n hn h1
   ·split
    ·exact hg.more (Nat.le_succ _)
    ·exact hnew fun _=>Nat.le_of_not_lt hlt
 ·rename_i h0
  exact hnew fun h=>absurd h h0
theorem XG.note {k:Nat} {s:St} (hg:XG k s) (hk:k < 1000000000000) {x:Ex} (hx:x.Ok) (hgd:x.good=true):XG (k+1) (noteSt s x):=by
 obtain ⟨_,g2,g3,g4,g5,_⟩:=Ex.good_at hgd
 unfold noteSt
 split
 ·exact hg.more (Nat.le_succ _)
 ·split
  ·exact hg.push hk g3 (Int.le_trans (by decide) g2) hx.op hx.sg (by omega) (uAdd_ok _ _)
  ·exact hg.more (Nat.le_succ _)
theorem XG.add {k:Nat} {h:Hand} {s:St} (hg:XG k s) (hk:k < 1000000000) {x:Ex} (hx:x.Ok):XG (k+2) (h.xadSt s x):=by
 unfold Hand.xadSt
 split
 ·rename_i hE
  have hgd:x.good=true:=by
   cases hg0:x.good with
   | true=>rfl
   | false=>rw [(xad_bad (h:=h) (s:=s) hg0).1] at hE; cases hE
  obtain ⟨g1,g2,g3,g4,g5,_⟩:=Ex.good_at hgd
  have hn16:¬ 16≤s.int (keyL 20 [x.st]):=fun hn=>by rw [(xad_full (h:=h) (s:=s) hgd hn).1] at hE; cases hE
  have h1:=hg.note (by omega) hx hgd
  have h2:XG (k+1) (h.ad2 s x):=by
   unfold Hand.ad2 Hand.addSt
   split
   ·exact h1.st (h1.put (.inr (.inr rfl)) (by simp) _)
   ·exact h1
  have h3:XG (k+2) (h.ad3 s x):=h2.setInt14 (by omega)
  have h4:XG (k+2) (h.ad4 s x):=h3.put15 _ (by unfold Hand.adN; omega) (by
   rw [rowOf_row _ (fun n hn=>by
    simp only [List.mem_cons,List.not_mem_nil,or_false] at hn
    have:=hx.st; have:=hx.op; have:=hx.sg; have:=hx.bl
    unfold I63 at *
    rcases hn with rfl | rfl | rfl | rfl <;> omega)]
   simp)
  have h5:XG (k+2) (h.ad5 s x):=h4.put (.inl rfl) (by simp) _
  have h6:XG (k+2) (h.ad6 s x):=h5.put (.inr (.inl rfl)) (by simp) _
  have hn6:(h.ad6 s x).int (keyL 20 [x.st])=s.int (keyL 20 [x.st]):=by
   have t1:Same [16] s (noteSt s x):=by
    unfold noteSt
    split
    ·exact Same.refl _ _
    ·split
     ·unfold hpuSt
      have hset:∀ i:Nat,Same [16] s (s.set (keyL 16 ([x.op,x.sg] ++ [(i:Int)])) (ptB x.bl.toNat (uAddS (s.hlast 16 [x.op,x.sg]) (sdW x.wo x.mx)))):=fun i=>by
       rw [set_put _ (kpos 16 (nn2 g3 (Int.le_trans (by decide) g2)) (by omega)) (ptB_some _ _)]
       exact hg.b.same (by decide) _ _
      have hnw:∀ a,Same [16] s (s.hnew 16 [x.op,x.sg] x.bl.toNat a):=fun a=>by
       unfold St.hnew
       have hb1:XB (s.setInt (keyL 16 [x.op,x.sg]) (((s.hlen 16 [x.op,x.sg]:Nat):Int)+1)):=hg.b.put (key25 16 (by simp)) _
       refine Same.trans (s1:=s.setInt (keyL 16 [x.op,x.sg]) (((s.hlen 16 [x.op,x.sg]:Nat):Int)+1)) (hg.b.same (n:=16) (by decide) [x.op,x.sg] _) ?_
       rw [set_put _ (kpos 16 (nn2 g3 (Int.le_trans (by decide) g2)) (by omega)) (ptB_some _ _)]
       exact hb1.same (by decide) _ _
      split
      ·rename_i h0
       split
       ·exact Same.refl _ _
       ·split
        ·have:=hset (s.hlen 16 [x.op,x.sg] - 1)
         rwa [show ((s.hlen 16 [x.op,x.sg] - 1:Nat):Int)=((s.hlen 16 [x.op,x.sg]:Nat):Int) - 1 by omega] at this
        ·split
         ·exact Same.refl _ _
         ·exact hnw _
      ·exact hnw _
     ·exact Same.refl _ _
   have t2:Same [19] (noteSt s x) (h.ad2 s x):=by
    unfold Hand.ad2 Hand.addSt
    split
    ·exact Same.st (h1.b.same (by decide) _ _)
    ·exact Same.refl _ _
   have t3:Same [14] (h.ad2 s x) (h.ad3 s x):=h2.b.same (by decide) _ _
   have t4:Same [15] (h.ad3 s x) (h.ad4 s x):=h3.b.same (by decide) _ _
   have t5:Same [17] (h.ad4 s x) (h.ad5 s x):=h4.b.same (by decide) _ _
   have t6:Same [18] (h.ad5 s x) (h.ad6 s x):=h5.b.same (by decide) _ _
   have nn:=nn1 (Int.le_trans (by decide) g1)
   rw [t6.int (by decide) (by simp) nn,t5.int (by decide) (by simp) nn,t4.int (by decide) (by simp) nn,t3.int (by decide) (by simp) nn,t2.int (by decide) (by simp) nn,t1.int (by decide) (by simp) nn]
  unfold Hand.ad7
  exact h6.setInt20 (by rw [hn6]; omega)
 ·exact hg.more (by omega)
end Go.Proofs.YtnkilceibkkjlaaGreat
