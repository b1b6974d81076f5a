/- What is proved here: the reference's withdrawals: All, Open. Conditions: sizes. exits: what the states of the laws keep, and that program and reference do the same on stores with the same entries. Conditions: ints below 2^63, words below 2^64. the states of the exit laws' own example. No condition. a drawn region whose operations' values are known ahead, but for one new row that is filled, and one call that turns a st -/
import Derived.Test.YtnkilceibkkjlaaGreatHRExD
import Derived.Test.YtnkilceibkkjlaaGreatHExIdW
import Derived.Test.YtnkilceibkkjlaaGreatHExA
import Derived.Test.YtnkilceibkkjlaaGreatHRowW
import Derived.Test.YtnkilceibkkjlaaGreatHExNo
import Derived.Test.YtnkilceibkkjlaaGreatHExAd
import Derived.Test.YtnkilceibkkjlaaGreatHExC
import Derived.Test.YtnkilceibkkjlaaGreatHHistW
set_option maxRecDepth 100000
set_option maxHeartbeats 16000000
namespace Go.Proofs.YtnkilceibkkjlaaGreat
open Go.RowKit Go.Maps
end Go.Proofs.YtnkilceibkkjlaaGreat
namespace Go.Proofs.YtnkilceibkkjlaaGreat
open Go.RowKit
theorem u8_ne {n m:Nat} (hn:n≤255) (hm:m≤255) (h:n≠m):UInt8.ofNat n≠UInt8.ofNat m:=fun e=>by
 have h1:=congrArg UInt8.toNat e
 rw [UInt8.toNat_ofNat',UInt8.toNat_ofNat'] at h1
 omega
theorem key_ne {n n':Nat} (hn:n≤255) (hn':n'≤255) (hne:n≠n') {l l':List Int} (hl:∀ x∈l,0≤x) (hl':∀ x∈l',0≤x):keyL n l≠keyL n' l':=fun h=>by
 have h1:=keyL_first (t:=n) (l:=l) (fun x hx=>by have:=hl x hx; omega)
 have h2:=keyL_first (t:=n') (l:=l') (fun x hx=>by have:=hl' x hx; omega)
 rw [h,h2] at h1
 exact u8_ne hn hn' hne (Option.some.inj h1).symm
theorem asInts_toNat:∀ {l:List Int},(∀ x∈l,0≤x)→asInts (l.map Int.toNat)=l
 | [],_=>rfl
 | x :: l,h=>by
  have h1:=asInts_toNat (l:=l) fun y hy=>h y (by simp [hy])
  have h2:=h x (by simp)
  unfold asInts at h1 ⊢
  simp only [List.map_cons,h1]
  rw [Int.toNat_of_nonneg h2]
theorem keyI_inj {t:Nat} (h1:1≤t) (h2:t≤255) {l m:List Int} (hl:∀ x∈l,0≤x∧I63 x) (hm:∀ x∈m,0≤x∧I63 x) (h:keyL t l=keyL t m):l=m:=by
 have e1:=asInts_toNat fun x hx=>(hl x hx).1
 have e2:=asInts_toNat fun x hx=>(hm x hx).1
 rw [← e1,← e2] at h ⊢
 have h3:=(keyL_inj h1 h2 h1 h2 (fun x hx=>by
  obtain ⟨y,hy,rfl⟩:=List.mem_map.1 hx
  have:=(hl y hy).2; unfold I63 at this; omega) (fun x hx=>by
  obtain ⟨y,hy,rfl⟩:=List.mem_map.1 hx
  have:=(hm y hy).2; unfold I63 at this; omega) h).2
 rw [h3]
theorem keyI_ne {t:Nat} (h1:1≤t) (h2:t≤255) {l m:List Int} (hl:∀ x∈l,0≤x∧I63 x) (hm:∀ x∈m,0≤x∧I63 x) (h:l≠m):keyL t l≠keyL t m:=fun e=>h (keyI_inj h1 h2 hl hm e)
theorem key25 (n:Nat) {l:List Int} (h:l.length≤3):(keyL n l).size≤25:=by
 unfold keyL
 split
 ·exact Nat.zero_le _
 ·show (keyBytes n l).toArray.size≤_
  rw [List.size_toArray,keyBytes_len]
  omega
theorem keyL_emp {n:Nat} {l:List Int} (h:¬ ∀ x∈l,0≤x):keyL n l=emptyB:=by
 have:∃ x∈l,x < 0:=by
  apply Classical.byContradiction
  intro h2
  exact h fun x hx=>Int.not_lt.1 fun h3=>h2 ⟨x,hx,h3⟩
 obtain ⟨x,hx,h3⟩:=this
 exact keyL_neg hx h3
structure XB (s:St):Prop where
 srt:Sorted s.ents
 keys:∀ x∈s.ents,x.1.size≤25
 noE:getE s.ents emptyB=none
theorem XB.put {s:St} (h:XB s) {k:ByteArray} (hk:k.size≤25) (v:ByteArray):XB (s.put k v):=by
 refine ⟨put_srt h.srt _ _,?_,?_⟩
 ·unfold St.put
  split
  ·unfold St.del; split
   ·exact fun y hy=>h.keys y (delE_mem hy)
   ·exact h.keys
  ·split
   ·exact h.keys
   ·unfold St.set; split
    ·exact h.keys
    ·intro y hy
     rcases putE_mem hy with rfl | hy
     ·exact hk
     ·exact h.keys y hy
 ·rw [getE_put h.srt]
  by_cases h1:k=emptyB
  ·rw [if_pos h1]
   split
   ·rfl
   ·exact h.noE
  ·rw [if_neg h1]; exact h.noE
theorem XB.del {s:St} (h:XB s) {k:ByteArray} (hk:k.size≤25):XB (s.del k):=by
 have:=h.put hk emptyB
 unfold St.put at this
 rwa [if_pos rfl] at this
theorem XB.st {h:Hand} {s s':St} (h1:XB s) (h2:XB s'):XB (h.st s s'):=by
 unfold Hand.st; split
 ·exact h2
 ·exact h1
theorem XB.empty:XB emptySt:=⟨List.Pairwise.nil,(fun x hx=>by cases hx),rfl⟩
theorem put_emp {s:St} (h:XB s) (v:ByteArray):(s.put emptyB v).ents=s.ents:=by
 refine sorted_ext (put_srt h.srt _ _) h.srt fun j => ?_
 rw [getE_put h.srt]
 by_cases h1:emptyB=j
 ·rw [if_pos h1,← h1]
  split
  ·exact h.noE.symm
  ·rw [if_pos rfl]
 ·rw [if_neg h1]
def Same (T:List Nat) (s s':St):Prop:=∀ t l,t≤255→t∉T→(∀ y∈l,0≤y)→getE s'.ents (keyL t l)=getE s.ents (keyL t l)
theorem Same.refl (T:List Nat) (s:St):Same T s s:=fun _ _ _ _ _=>rfl
theorem Same.trans {T:List Nat} {s s1 s2:St} (h:Same T s s1) (h2:Same T s1 s2):Same T s s2:=fun t l a b c=>(h2 t l a b c).trans (h t l a b c)
theorem Same.of_eq {T:List Nat} {s s':St} (h:s'.ents=s.ents):Same T s s':=fun _ _ _ _ _=>by rw [h]
theorem Same.mono {T T':List Nat} {s s':St} (h:Same T s s') (hT:∀ t∈T,t∈T'):Same T' s s':=fun t l a b c=>h t l a (fun hh=>b (hT t hh)) c
theorem XB.same {s:St} (h:XB s) {n:Nat} (hn:n≤255) (l:List Int) (v:ByteArray):Same [n] s (s.put (keyL n l) v):=by
 by_cases hl:∀ x∈l,0≤x
 ·intro t m ht hT hm
  rw [getE_put h.srt,if_neg (key_ne hn ht (fun e=>hT (by simp [e])) hl hm)]
 ·rw [keyL_emp hl]
  exact Same.of_eq (put_emp h v)
theorem Same.st {T:List Nat} {h:Hand} {s s':St} (h2:Same T s s'):Same T s (h.st s s'):=by
 unfold Hand.st; split
 ·exact h2
 ·exact Same.refl _ _
theorem Same.val {T:List Nat} {s s':St} (h:Same T s s') {t:Nat} {l:List Int} (ht:t≤255) (hT:t∉T) (hl:∀ y∈l,0≤y):s'.val (keyL t l)=s.val (keyL t l):=by
 unfold St.val; rw [h t l ht hT hl]
theorem Same.int {T:List Nat} {s s':St} (h:Same T s s') {t:Nat} {l:List Int} (ht:t≤255) (hT:t∉T) (hl:∀ y∈l,0≤y):s'.int (keyL t l)=s.int (keyL t l):=by
 unfold St.int; rw [h.val ht hT hl]
theorem Same.amt {T:List Nat} {s s':St} (h:Same T s s') {t:Nat} {l:List Int} (ht:t≤255) (hT:t∉T) (hl:∀ y∈l,0≤y):s'.amt (keyL t l)=s.amt (keyL t l):=by
 unfold St.amt; rw [h.val ht hT hl]
theorem nn2 {a b:Int} (ha:0≤a) (hb:0≤b):∀ y∈[a,b],0≤y:=fun y hy=>by
 simp only [List.mem_cons,List.not_mem_nil,or_false] at hy
 rcases hy with rfl | rfl <;> assumption
theorem nn1 {a:Int} (ha:0≤a):∀ y∈[a],0≤y:=fun y hy=>by rw [List.mem_singleton] at hy; subst hy; exact ha
theorem nn3 {a b:Int} (ha:0≤a) (hb:0≤b) (i:Nat):∀ y∈[a,b] ++ [(i:Int)],0≤y:=fun y hy=>by
 rcases List.mem_append.1 hy with h | h
 ·exact nn2 ha hb y h
 ·rw [List.mem_singleton] at h; subst h; omega
theorem Same.hlen {T:List Nat} {s s':St} (h:Same T s s') (hT:16∉T) {o t:Int} (ho:0≤o) (ht:0≤t):s'.hlen 16 [o,t]=s.hlen 16 [o,t]:=h.int (by decide) hT (nn2 ho ht)
theorem Same.hpI {T:List Nat} {s s':St} (h:Same T s s') (hT:16∉T) {o t:Int} (ho:0≤o) (ht:0≤t) (i:Nat):s'.hpI 16 [o,t] i=s.hpI 16 [o,t] i:=by
 unfold St.hpI; rw [h.val (by decide) hT (nn3 ho ht i)]
structure XG (k:Nat) (s:St):Prop where
 b:XB s
 rows:∀ (id:Int) v,0≤id→I63 id→getE s.ents (keyL 15 [id])=some v→(rowOf v).length=4
 mono:∀ o t:Int,0≤o→0≤t→I63 o→I63 t→∀ i j:Nat,i≤j→j < s.hlen 16 [o,t]→(s.hpI 16 [o,t] i).1≤(s.hpI 16 [o,t] j).1
 hlen:∀ o t:Int,0≤o→0≤t→I63 o→I63 t→s.hlen 16 [o,t]≤k
 cnt:s.int (keyL 14 [])≤k
 op:∀ n:Int,0≤n→I63 n→s.int (keyL 20 [n])≤16
theorem XG.more {k k':Nat} {s:St} (h:XG k s) (hk:k≤k'):XG k' s:=⟨h.b,h.rows,h.mono,fun o t a b c d=>Nat.le_trans (h.hlen o t a b c d) hk,Nat.le_trans h.cnt hk,h.op⟩
theorem XG.empty:XG 0 emptySt:=⟨XB.empty,(fun _ _ _ _ h=>by cases h),fun _ _ _ _ _ _ i j _ h=>absurd h (by show ¬ j < 0; omega),fun _ _ _ _ _ _=>Nat.le_refl _,Nat.le_refl _,fun _ _ _=>Nat.zero_le _⟩
theorem int_emp {s:St} (h:XB s):s.int emptyB=0:=by
 unfold St.int St.val; rw [h.noE]; exact intOfV_empty
theorem XG.op' {k:Nat} {s:St} (h:XG k s) {n:Int} (hn:I63 n):s.int (keyL 20 [n])≤16:=by
 by_cases h0:0≤n
 ·exact h.op n h0 hn
 ·rw [keyL_emp (fun hh=>h0 (hh n (by simp))),int_emp h.b]; exact Nat.zero_le _
theorem XG.hlen' {k:Nat} {s:St} (h:XG k s) {o t:Int} (ho:I63 o) (ht:I63 t):s.hlen 16 [o,t]≤k:=by
 by_cases h0:0≤o∧0≤t
 ·exact h.hlen o t h0.1 h0.2 ho ht
 ·unfold St.hlen
  rw [keyL_emp (fun hh=>h0 ⟨hh o (by simp),hh t (by simp)⟩),int_emp h.b]; exact Nat.zero_le _
theorem XG.mono' {k:Nat} {s:St} (h:XG k s) {o t:Int} (ho:I63 o) (ht:I63 t):∀ i j:Nat,i≤j→j < s.hlen 16 [o,t]→(s.hpI 16 [o,t] i).1≤(s.hpI 16 [o,t] j).1:=by
 by_cases h0:0≤o∧0≤t
 ·exact h.mono o t h0.1 h0.2 ho ht
 ·intro i j _ hj
  unfold St.hlen at hj
  rw [keyL_emp (fun hh=>h0 ⟨hh o (by simp),hh t (by simp)⟩),int_emp h.b] at hj
  exact absurd hj (by omega)
theorem XG.step {k:Nat} {s s':St} (h:XG k s) (hb:XB s') {T:List Nat} (hS:Same T s s') (h14:14∉T) (h15:15∉T) (h16:16∉T) (h20:20∉T):XG k s':=by
 refine ⟨hb,fun id v h0 h1 hv => ?_,fun o t ho ht h1 h2 i j hij hj => ?_,fun o t ho ht h1 h2 => ?_,?_,fun n hn h1 => ?_⟩
 ·rw [hS 15 [id] (by decide) h15 (nn1 h0)] at hv
  exact h.rows id v h0 h1 hv
 ·rw [hS.hpI h16 ho ht,hS.hpI h16 ho ht]
  rw [hS.hlen h16 ho ht] at hj
  exact h.mono o t ho ht h1 h2 i j hij hj
 ·rw [hS.hlen h16 ho ht]; exact h.hlen o t ho ht h1 h2
 ·rw [hS.int (by decide) h14 (by simp)]; exact h.cnt
 ·rw [hS.int (by decide) h20 (nn1 hn)]; exact h.op n hn h1
theorem XG.put {k n:Nat} {s:St} (h:XG k s) (hn:n=17∨n=18∨n=19) {l:List Int} (hl:l.length≤3) (v:ByteArray):XG k (s.put (keyL n l) v):=by
 have hb:=h.b.put (key25 n hl) v
 have hS:=h.b.same (n:=n) (by omega) l v
 exact h.step hb hS (by simp; omega) (by simp; omega) (by simp; omega) (by simp; omega)
theorem XG.st {k:Nat} {hd:Hand} {s s':St} (h1:XG k s) (h2:XG k s'):XG k (hd.st s s'):=by
 unfold Hand.st; split
 ·exact h2
 ·exact h1
theorem XG.setInt14 {k:Nat} {s:St} (h:XG k s) (hk:k < 1000000000000):XG (k+1) (s.setInt (keyL 14 []) (((s.int (keyL 14 []):Nat):Int)+1)):=by
 have hb:XB (s.setInt (keyL 14 []) (((s.int (keyL 14 []):Nat):Int)+1)):=h.b.put (key25 14 (by simp)) _
 have hS:Same [14] s (s.setInt (keyL 14 []) (((s.int (keyL 14 []):Nat):Int)+1)):=h.b.same (by decide) _ _
 have hc:=h.cnt
 have hne:keyL 14 []≠emptyB:=keyL_some 14 (by simp)
 refine ⟨hb,fun id v h0 h1 hv => ?_,fun o t ho ht h1 h2 i j hij hj => ?_,fun o t ho ht h1 h2 => ?_,?_,fun n hn h1 => ?_⟩
 ·rw [hS 15 [id] (by decide) (by simp) (nn1 h0)] at hv
  exact h.rows id v h0 h1 hv
 ·rw [hS.hpI (by simp) ho ht,hS.hpI (by simp) ho ht]
  rw [hS.hlen (by simp) ho ht] at hj
  exact h.mono o t ho ht h1 h2 i j hij hj
 ·rw [hS.hlen (by simp) ho ht]; exact Nat.le_trans (h.hlen o t ho ht h1 h2) (Nat.le_succ _)
 ·rw [int_setInt s h.b.srt _ _ hne _ (by omega),if_pos rfl]; omega
 ·rw [hS.int (by decide) (by simp) (nn1 hn)]; exact h.op n hn h1
theorem XG.setInt20 {k:Nat} {s:St} (h:XG k s) {a:Int} {n:Int} (hn:n≤16):XG k (s.setInt (keyL 20 [a]) n):=by
 have hb:XB (s.setInt (keyL 20 [a]) n):=h.b.put (key25 20 (by simp)) _
 have hS:Same [20] s (s.setInt (keyL 20 [a]) n):=h.b.same (by decide) _ _
 refine ⟨hb,fun id v h0 h1 hv => ?_,fun o t ho ht h1 h2 i j hij hj => ?_,fun o t ho ht h1 h2 => ?_,?_,fun b hb0 h1 => ?_⟩
 ·rw [hS 15 [id] (by decide) (by simp) (nn1 h0)] at hv
  exact h.rows id v h0 h1 hv
 ·rw [hS.hpI (by simp) ho ht,hS.hpI (by simp) ho ht]
  rw [hS.hlen (by simp) ho ht] at hj
  exact h.mono o t ho ht h1 h2 i j hij hj
 ·rw [hS.hlen (by simp) ho ht]; exact h.hlen o t ho ht h1 h2
 ·rw [hS.int (by decide) (by simp) (by simp)]; exact h.cnt
 ·by_cases ha:0≤a
  ·rw [int_setInt s h.b.srt _ _ (keyL_some 20 (nn1 ha)) _ (by omega)]
   split
   ·omega
   ·exact h.op b hb0 h1
  ·have he:(s.setInt (keyL 20 [a]) n).ents=s.ents:=by
    rw [keyL_emp (fun hh=>ha (hh a (by simp)))]
    exact put_emp h.b _
   have:(s.setInt (keyL 20 [a]) n).int (keyL 20 [b])=s.int (keyL 20 [b]):=by unfold St.int St.val; rw [he]
   rw [this]; exact h.op b hb0 h1
theorem XG.put15 {k:Nat} {s:St} (h:XG k s) (id:Int) (hid:0≤id) {v:ByteArray} (hv:(rowOf v).length=4):XG k (s.put (keyL 15 [id]) v):=by
 have hb:=h.b.put (key25 15 (l:=[id]) (by simp)) v
 have hS:=h.b.same (n:=15) (by decide) [id] v
 refine ⟨hb,fun j u h0 h1 hu => ?_,fun o t ho ht h1 h2 i j hij hj => ?_,fun o t ho ht h1 h2 => ?_,?_,fun n hn h1 => ?_⟩
 ·rw [getE_put h.b.srt] at hu
  by_cases e:keyL 15 [id]=keyL 15 [j]
  ·rw [if_pos e] at hu
   split at hu
   ·cases hu
   ·rw [if_neg (keyL_some 15 (nn1 hid))] at hu
    cases hu; exact hv
  ·rw [if_neg e] at hu; exact h.rows j u h0 h1 hu
 ·rw [hS.hpI (by simp) ho ht,hS.hpI (by simp) ho ht]
  rw [hS.hlen (by simp) ho ht] at hj
  exact h.mono o t ho ht h1 h2 i j hij hj
 ·rw [hS.hlen (by simp) ho ht]; exact h.hlen o t ho ht h1 h2
 ·rw [hS.int (by decide) (by simp) (by simp)]; exact h.cnt
 ·rw [hS.int (by decide) (by simp) (nn1 hn)]; exact h.op n hn h1
theorem XG.del {k n:Nat} {s:St} (h:XG k s) (hn:n=15∨n=17∨n=18) (id:Int):XG k (s.del (keyL n [id])):=by
 have e:s.del (keyL n [id])=s.put (keyL n [id]) emptyB:=by unfold St.put; rw [if_pos rfl]
 rcases hn with rfl | hn
 ·have hS:=h.b.same (n:=15) (by decide) [id] emptyB
  have hb:=h.b.put (key25 15 (l:=[id]) (by simp)) emptyB
  rw [← e] at hS hb
  refine ⟨hb,fun j u h0 h1 hu => ?_,fun o t ho ht h1 h2 i j hij hj => ?_,fun o t ho ht h1 h2 => ?_,?_,fun n hn h1 => ?_⟩
  ·rw [e,getE_put h.b.srt] at hu
   split at hu
   ·rw [if_pos rfl] at hu; cases hu
   ·exact h.rows j u h0 h1 hu
  ·rw [hS.hpI (by simp) ho ht,hS.hpI (by simp) ho ht]
   rw [hS.hlen (by simp) ho ht] at hj
   exact h.mono o t ho ht h1 h2 i j hij hj
  ·rw [hS.hlen (by simp) ho ht]; exact h.hlen o t ho ht h1 h2
  ·rw [hS.int (by decide) (by simp) (by simp)]; exact h.cnt
  ·rw [hS.int (by decide) (by simp) (nn1 hn)]; exact h.op n hn h1
 ·rw [e]
  exact h.put (by rcases hn with rfl | rfl <;> simp) (by simp) _
end Go.Proofs.YtnkilceibkkjlaaGreat
namespace Go.Proofs.YtnkilceibkkjlaaGreat
open Go.RowKit
abbrev xvH (q:Option Addr) (L:List Nat):Hand:=⟨q,true,L⟩
abbrev u100:W4:=(100,0,0,0)
abbrev u50:W4:=(50,0,0,0)
abbrev uHalf:W4:=(500000000000000000,0,0,0)
abbrev lvx:Ex:=⟨8,7,1,0,u100,oneW⟩
abbrev lvsl:W4:=(7766279631452241920,5,0,0)
def xl1:St:=(xvH none []).xadSt emptySt lvx
def xl2:St:=(xvH none []).cutX xl1 lvsl 7 1 0 5 uHalf oneW
theorem xl_e1:xadE emptySt lvx=0:=by kernel_rfl
theorem xl_n1 (q:Option Addr) (L:List Nat):(xvH q L).xadN emptySt lvx=1:=by kernel_rfl
theorem xl_s1 (q:Option Addr) (L:List Nat):(xvH q L).xadSt emptySt lvx=xl1:=by kernel_rfl
theorem xl_i1 (q:Option Addr) (L:List Nat):((xvH q L).ad2 emptySt lvx).int (keyL 14 [])=0:=by kernel_rfl
theorem xl_i2 (q:Option Addr) (L:List Nat):((xvH q L).ad6 emptySt lvx).int (keyL 20 [lvx.st])=0:=by kernel_rfl
theorem xl_g:xl1.ex 1=lvx:=by kernel_rfl
theorem xl_gi:xl1.exIs 1=true:=by kernel_rfl
theorem xl_h:xl1.hlast 16 [7,1]=lvsl:=by kernel_rfl
theorem xl_c1:xcutA xl1 lvsl 7 1 0 5 uHalf oneW=u50:=by kernel_rfl
theorem xl_c2:xcutE 7 0 5 uHalf oneW=0:=by kernel_rfl
theorem xl_s2 (q:Option Addr) (L:List Nat):(xvH q L).cutX xl1 lvsl 7 1 0 5 uHalf oneW=xl2:=by kernel_rfl
theorem xl_p:paysW lvx uHalf=u50:=by kernel_rfl
theorem xl_l:xl2.left 1=u50:=by kernel_rfl
theorem xl_f1:xl1.Fit 16:=Hand.xadSt_fit St.Fit.empty _
theorem xl_f2:xl2.Fit 18:=by
 unfold xl2 Hand.cutX Hand.subSt
 split
 ·exact xl_f1.mono (by omega)
 ·split
  ·exact Hand.st_fit (xl_f1.mono (by omega)) (xl_f1.setAmt _ _)
  ·exact xl_f1.mono (by omega)
theorem u100_ok:W4.Ok u100:=⟨by decide,by decide,by decide,by decide⟩
theorem uHalf_ok:W4.Ok uHalf:=⟨by decide,by decide,by decide,by decide⟩
theorem lvsl_ok:W4.Ok lvsl:=⟨by decide,by decide,by decide,by decide⟩
theorem newB (w:World):Calls Tryz.prog 15 #[] w fun e w1=>∃ b L,e = .returned (.pointer (some ⟨b,0,none⟩))∧SRep w1 b emptySt L∧Below w.heap.size w w1∧∀ k∈L,w.heap.size≤k :=
 (new_any w).mono fun _ _ ⟨b,L,he,hS,hF,hL⟩=>⟨b,L,he,hS,hF.below,hL⟩
theorem HV.belowOf {h:Hand} {w0 w W:World} {s:St} {rs:List (Nat × Obj)} (hV:HV h w s rs W) (hb:Below w0.heap.size w0 w) (hL:∀ k∈h.L,w0.heap.size≤k):Below w0.heap.size w0 W:=by
 obtain ⟨L',_,st⟩:=HV.done hV
 refine ⟨st.fr.os.trans hb.os,st.fr.tape.trans hb.tape,st.fr.output.trans hb.output,Nat.le_trans hb.size st.fr.size,fun k hk => ?_⟩
 rw [st.fr.block k (Nat.lt_of_lt_of_le hk hb.size) (fun hm=>absurd (hL k hm) (by omega))]
 exact hb.block k hk
end Go.Proofs.YtnkilceibkkjlaaGreat
namespace Go.Proofs.YtnkilceibkkjlaaGreat
open Go.RowKit
def rxEq (vs:Nat→Value) (cs:List Value) (ia:Nat):List Nat→Prop
 | []=>True
 | j :: l=>(if j=ia then True else vs j=cs.getD j undef)∧rxEq vs cs ia l
theorem rxEq_of {vs:Nat→Value} {cs:List Value} {ia:Nat}:∀ {l:List Nat},(∀ j∈l,j≠ia→vs j=cs.getD j undef)→rxEq vs cs ia l
 | [],_=>trivial
 | j :: l,h=>⟨by
   by_cases hj:j=ia
   ·rw [if_pos hj]; trivial
   ·rw [if_neg hj]; exact h j (by simp) hj,rxEq_of fun i hi=>h i (by simp [hi])⟩
abbrev ptrV (g:Nat):Value:=.pointer (some ⟨g,0,none⟩)
def rxStep (P:Program) (ops:Array Oper) (pr:List (List Nat)) (cs:List Value) (kc ia is:Nat) (R:Bool→List (Nat × Obj)→World→Prop) (o0 o1:Obj) (fr:(Nat→Value)→Act) (k:Nat) (o:Oper):Prop :=
 if k=ia then ∀ vs b w,R b [] w→rgDo P ops o (fr vs) w fun v w'=>∃ g,v=ptrV g∧R b [(g,o0)] w'
 else if k=is then ∀ vs b g w,rxEq vs cs ia (pr.getD k [])→vs ia=ptrV g→R b [(g,o0)] w→rgDo P ops o (fr vs) w fun v w'=>v=cs.getD k undef∧R b [(g,o1)] w'
 else if k=kc then ∀ vs rs w,rxEq vs cs ia (pr.getD k [])→R false rs w→rgDo P ops o (fr vs) w fun v w'=>v=cs.getD k undef∧R true rs w'
 else ∀ vs b rs w,rxEq vs cs ia (pr.getD k [])→R b rs w→rgDo P ops o (fr vs) w fun v w'=>v=cs.getD k undef∧R b rs w'
theorem rx_plain {P:Program} {ops:Array Oper} {pr:List (List Nat)} {cs:List Value} {kc ia is:Nat} {R:Bool→List (Nat × Obj)→World→Prop} {o0 o1:Obj} {fr:(Nat→Value)→Act} {k:Nat} {o:Oper} (h:((k != ia) && (k != is) && (k != kc))=true)
  (hs:∀ vs b rs w,rxEq vs cs ia (pr.getD k [])→R b rs w→rgDo P ops o (fr vs) w fun v w'=>v=cs.getD k undef∧R b rs w'):rxStep P ops pr cs kc ia is R o0 o1 fr k o:=by
 simp only [Bool.and_eq_true,bne_iff_ne,ne_eq] at h
 unfold rxStep
 rw [if_neg h.1.1,if_neg h.1.2,if_neg h.2]
 exact hs
theorem rx_turn {P:Program} {ops:Array Oper} {pr:List (List Nat)} {cs:List Value} {kc ia is:Nat} {R:Bool→List (Nat × Obj)→World→Prop} {o0 o1:Obj} {fr:(Nat→Value)→Act} {k:Nat} {o:Oper} (h:((k != ia) && (k != is) && (k == kc))=true)
  (hs:∀ vs rs w,rxEq vs cs ia (pr.getD k [])→R false rs w→rgDo P ops o (fr vs) w fun v w'=>v=cs.getD k undef∧R true rs w'):rxStep P ops pr cs kc ia is R o0 o1 fr k o:=by
 simp only [Bool.and_eq_true,bne_iff_ne,ne_eq,beq_iff_eq] at h
 unfold rxStep
 rw [if_neg h.1.1,if_neg h.1.2,if_pos h.2]
 exact hs
theorem rx_alloc {P:Program} {ops:Array Oper} {pr:List (List Nat)} {cs:List Value} {kc ia is:Nat} {R:Bool→List (Nat × Obj)→World→Prop} {o0 o1:Obj} {fr:(Nat→Value)→Act} {k:Nat} {o:Oper} (h:k=ia)
  (hs:∀ vs b w,R b [] w→rgDo P ops o (fr vs) w fun v w'=>∃ g,v=ptrV g∧R b [(g,o0)] w'):rxStep P ops pr cs kc ia is R o0 o1 fr k o:=by
 unfold rxStep
 rw [if_pos h]
 exact hs
theorem rx_fill {P:Program} {ops:Array Oper} {pr:List (List Nat)} {cs:List Value} {kc ia is:Nat} {R:Bool→List (Nat × Obj)→World→Prop} {o0 o1:Obj} {fr:(Nat→Value)→Act} {k:Nat} {o:Oper} (h:((k != ia) && (k == is))=true)
  (hs:∀ vs b g w,rxEq vs cs ia (pr.getD k [])→vs ia=ptrV g→R b [(g,o0)] w→rgDo P ops o (fr vs) w fun v w'=>v=cs.getD k undef∧R b [(g,o1)] w'):rxStep P ops pr cs kc ia is R o0 o1 fr k o:=by
 simp only [Bool.and_eq_true,bne_iff_ne,ne_eq,beq_iff_eq] at h
 unfold rxStep
 rw [if_neg h.1,if_pos h.2]
 exact hs
def rxSteps (P:Program) (ops:Array Oper) (pr:List (List Nat)) (cs:List Value) (kc ia is:Nat) (R:Bool→List (Nat × Obj)→World→Prop) (o0 o1:Obj) (fr:(Nat→Value)→Act):Nat→List Oper→Prop
 | _,[]=>True
 | k,o :: l=>rxStep P ops pr cs kc ia is R o0 o1 fr k o∧rxSteps P ops pr cs kc ia is R o0 o1 fr (k+1) l
theorem rxSteps_at {P:Program} {ops:Array Oper} {pr:List (List Nat)} {cs:List Value} {kc ia is:Nat} {R:Bool→List (Nat × Obj)→World→Prop} {o0 o1:Obj} {fr:(Nat→Value)→Act}:∀ {l:List Oper} {k:Nat},rxSteps P ops pr cs kc ia is R o0 o1 fr k l→∀ (i:Nat) (o:Oper),l[i]? = some o→rxStep P ops pr cs kc ia is R o0 o1 fr (k+i) o
 | [],_,_,i,o,h=>by simp at h
 | x :: l,k,h,0,o,ho=>by
  simp only [List.getElem?_cons_zero,Option.some.injEq] at ho
  subst ho; exact h.1
 | x :: l,k,h,i+1,o,ho=>by
  have:=rxSteps_at h.2 i o (by simpa using ho)
  rwa [show k+1+i=k+(i+1) by omega] at this
def rxInv (cs:List Value) (kc ia is:Nat) (R:Bool→List (Nat × Obj)→World→Prop) (o0 o1:Obj) (L:Nat→Bool) (vs:Nat→Value) (w:World):Prop :=
 (∀ j,L j=true→j≠ia→vs j=cs.getD j undef)∧((L ia=true∧∃ g,vs ia=ptrV g∧R (L kc) [(g,if L is=true then o1 else o0)] w)∨(L ia=false∧L is=false∧R (L kc) [] w))
theorem wp_region_turn {P:Program} {id:Nat} {Q:Exit→Act→World→Prop} {a:Act} {w:World} {l:List Oper} (pr:List (List Nat)) (cs:List Value) (kc ia is:Nat) (R:Bool→List (Nat × Obj)→World→Prop) (o0 o1:Obj) (fr:(Nat→Value)→Act)
  (hm:P.follows .mixedOrders=true) (hB:rgB l.toArray pr a.tmps.size=true) (hi:(decide (kc < l.length) && decide (ia < l.length) && decide (is < l.length) && (kc != ia) && (kc != is) && (is != ia) && (pr.getD is []).contains ia)=true) (hfr:∀ vs,rgAct l a vs=fr vs)
  (h0:R false [] w.drew)
  (hs:rxSteps P l.toArray pr cs kc ia is R o0 o1 fr 0 l)
  (hend:∀ vs g w,rxEq vs cs ia (List.range l.length)→vs ia=ptrV g→R true [(g,o1)] w→Q .normal (fr vs) w):(Code.region id l.toArray true).wp P Q a w:=by
 simp only [Bool.and_eq_true,decide_eq_true_eq,bne_iff_ne,ne_eq,List.contains_iff_mem] at hi
 obtain ⟨⟨⟨⟨⟨⟨i1,i2⟩,i3⟩,i4⟩,i5⟩,i6⟩,i7⟩:=hi
 refine wp_region_any hm ?_
 have hok:=rgB_ok hB
 have hsz:l.toArray.size=l.length:=by simp
 refine wpAny_rely hok (rxInv cs kc ia is R o0 o1) ?_ ?_ l.toArray.size (Array.replicate l.toArray.size false) (fun _=>undef) a w.drew ?_ ?_ ?_
 ·intro i o ho L vs w hI hpre hLi _
  obtain ⟨hv,hR⟩:=hI
  have hst:=rxSteps_at hs i o (by simpa using ho)
  rw [Nat.zero_add] at hst
  have hE:rxEq vs cs ia (pr.getD i []):=rxEq_of fun j hj hja=>hv j (hpre j hj) hja
  rw [show rgAct l.toArray.toList a vs=rgAct l a vs from rfl,hfr vs]
  have hval:∀ v,(i≠ia→v=cs.getD i undef)→∀ j,(if j=i then true else L j)=true→j≠ia→rgSet vs i v j=cs.getD j undef:=fun v h j hj hja=>by
   unfold rgSet
   by_cases hji:j=i
   ·rw [if_pos hji,hji]
    exact h (hji ▸ hja)
   ·rw [if_neg hji] at hj ⊢
    exact hv j hj hja
  unfold rxStep at hst
  by_cases c1:i=ia
  ·rw [if_pos c1] at hst
   have hR2:L is=false∧R (L kc) [] w:=by
    rcases hR with ⟨h1,_⟩ | ⟨_,h2⟩
    ·rw [← c1,hLi] at h1; cases h1
    ·exact h2
   obtain ⟨h2,h3⟩:=hR2
   refine rgDo_mono (fun v w' he => ?_) (hst vs _ w h3)
   obtain ⟨g,hg,hw⟩:=he
   refine ⟨hval v (fun h=>absurd c1 h),.inl ⟨by show (if ia=i then true else L ia)=true; rw [if_pos c1.symm],g,?_,?_⟩⟩
   ·unfold rgSet; rw [if_pos c1.symm]; exact hg
   ·have k1:¬ kc=i:=fun e=>i4 (e.trans c1)
    have k2:¬ is=i:=fun e=>i6 (e.trans c1)
    show R (if kc=i then true else L kc) [(g,if (if is=i then true else L is)=true then o1 else o0)] w'
    rw [if_neg k1,if_neg k2,h2,if_neg (by decide)]
    exact hw
  ·rw [if_neg c1] at hst
   have hia:∀ v,rgSet vs i v ia=vs ia:=fun v=>by unfold rgSet; rw [if_neg (Ne.symm c1)]
   by_cases c2:i=is
   ·rw [if_pos c2] at hst
    have hLa:L ia=true:=hpre ia (by rw [c2]; exact i7)
    have hR2:∃ g,vs ia=ptrV g∧R (L kc) [(g,if L is=true then o1 else o0)] w:=by
     rcases hR with ⟨_,h1⟩ | ⟨h1,_⟩
     ·exact h1
     ·rw [hLa] at h1; cases h1
    obtain ⟨g,hg,h3⟩:=hR2
    have hLs:L is=false:=by rw [← c2]; exact hLi
    rw [hLs,if_neg (by decide)] at h3
    refine rgDo_mono (fun v w' he => ?_) (hst vs _ g w hE hg h3)
    refine ⟨hval v (fun _=>he.1),.inl ⟨by show (if ia=i then true else L ia)=true; rw [if_neg (Ne.symm c1)]; exact hLa,g,(hia v).trans hg,?_⟩⟩
    show R (if kc=i then true else L kc) [(g,if (if is=i then true else L is)=true then o1 else o0)] w'
    have k1:¬ kc=i:=fun e=>i5 (e.trans c2)
    rw [if_neg k1,if_pos c2.symm,if_pos rfl]
    exact he.2
   ·rw [if_neg c2] at hst
    by_cases c3:i=kc
    ·rw [if_pos c3] at hst
     have hLk:L kc=false:=by rw [← c3]; exact hLi
     rw [hLk] at hR
     rcases hR with ⟨h1,g,hg,h3⟩ | ⟨h1,h2,h3⟩
     ·refine rgDo_mono (fun v w' he => ?_) (hst vs _ w hE h3)
      refine ⟨hval v (fun _=>he.1),.inl ⟨by show (if ia=i then true else L ia)=true; rw [if_neg (Ne.symm c1)]; exact h1,g,(hia v).trans hg,?_⟩⟩
      show R (if kc=i then true else L kc) [(g,if (if is=i then true else L is)=true then o1 else o0)] w'
      rw [if_pos c3.symm,if_neg (Ne.symm c2)]
      exact he.2
     ·refine rgDo_mono (fun v w' he => ?_) (hst vs _ w hE h3)
      refine ⟨hval v (fun _=>he.1),.inr ⟨by show (if ia=i then true else L ia)=false; rw [if_neg (Ne.symm c1)]; exact h1,by show (if is=i then true else L is)=false; rw [if_neg (Ne.symm c2)]; exact h2,?_⟩⟩
      show R (if kc=i then true else L kc) [] w'
      rw [if_pos c3.symm]
      exact he.2
    ·rw [if_neg c3] at hst
     rcases hR with ⟨h1,g,hg,h3⟩ | ⟨h1,h2,h3⟩
     ·refine rgDo_mono (fun v w' he => ?_) (hst vs _ _ w hE h3)
      refine ⟨hval v (fun _=>he.1),.inl ⟨by show (if ia=i then true else L ia)=true; rw [if_neg (Ne.symm c1)]; exact h1,g,(hia v).trans hg,?_⟩⟩
      show R (if kc=i then true else L kc) [(g,if (if is=i then true else L is)=true then o1 else o0)] w'
      rw [if_neg (Ne.symm c3),if_neg (Ne.symm c2)]
      exact he.2
     ·refine rgDo_mono (fun v w' he => ?_) (hst vs _ _ w hE h3)
      refine ⟨hval v (fun _=>he.1),.inr ⟨by show (if ia=i then true else L ia)=false; rw [if_neg (Ne.symm c1)]; exact h1,by show (if is=i then true else L is)=false; rw [if_neg (Ne.symm c2)]; exact h2,?_⟩⟩
      show R (if kc=i then true else L kc) [] w'
      rw [if_neg (Ne.symm c3)]
      exact he.2
 ·intro L vs w hI hall
  obtain ⟨hv,hR⟩:=hI
  rw [show rgAct l.toArray.toList a vs=rgAct l a vs from rfl,hfr vs]
  rcases hR with ⟨_,g,hg,h3⟩ | ⟨h1,_⟩
  ·rw [hall is (by rw [hsz]; exact i3),if_pos rfl,hall kc (by rw [hsz]; exact i1)] at h3
   exact hend vs g w (rxEq_of fun j hj hja=>hv j (hall j (by rw [hsz]; exact List.mem_range.1 hj)) hja) hg h3
  ·rw [hall ia (by rw [hsz]; exact i2)] at h1; cases h1
 ·refine ⟨rfl,rfl,fun t ht => ?_,by simp,fun j oj _ hl => ?_⟩
  ·refine (rgPut_ne _ _ _ _ _ fun j o hj hd => ?_).symm
   have:=ht j o (by simpa using hj) hd
   rw [getD_replicate_false] at this; cases this
  ·rw [getD_replicate_false] at hl; cases hl
 ·refine Nat.le_trans (List.length_filter_le _ _) (by simp)
 ·refine ⟨fun j hj => ?_,.inr ⟨getD_replicate_false ..,getD_replicate_false ..,?_⟩⟩
  ·have:(Array.replicate l.toArray.size false).getD j false=true:=hj
   rw [getD_replicate_false] at this; cases this
  ·show R ((Array.replicate l.toArray.size false).getD kc false) [] w.drew
   rw [getD_replicate_false]
   exact h0
end Go.Proofs.YtnkilceibkkjlaaGreat
