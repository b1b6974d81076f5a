/- What is proved here: an amount comes back from its bytes; what stands behind an amount laid, and behind the holdings' writes, by keys. Conditions: words below 2^64, keys in order. what is put is there, and what is taken is gone; plain. Conditions: words below 2^64, keys in order. -/
import Derived.Test.YtpojljieakdgiaaGreatDHoldEq
set_option maxRecDepth 100000
set_option maxHeartbeats 16000000
namespace Go.Proofs.YtpojljieakdgiaaGreat
open Go.RowKit
theorem uByte_nat (x:W4) (i:Nat):(uByte x i).toNat=x.at ((31 - i) / 8) / 2 ^ (8*((31 - i) % 8)) % 256:=rfl
theorem top_step (v p:Nat) (hp:p < 8):v / 2 ^ (8*(p+1))*2 ^ (8*(p+1))+v / 2 ^ (8*p) % 256*2 ^ (8*p)=v / 2 ^ (8*p)*2 ^ (8*p):=by
 match p,hp with
 | 0,_ | 1,_ | 2,_ | 3,_ | 4,_ | 5,_ | 6,_ | 7,_=>simp only [Nat.reduceMul,Nat.reduceAdd,Nat.reducePow]; omega
theorem uFrom_at (f:Nat→Nat) (x:W4) (hx:x.Ok) (hf:∀ i,i < 32→f i=x.at ((31 - i) / 8) / 2 ^ (8*((31 - i) % 8)) % 256):∀ i,i≤32→∀ j,j < 4→(uFrom f i).at j=x.at j / 2 ^ (8*min 8 (32 - i - 8*j))*2 ^ (8*min 8 (32 - i - 8*j))
 | 0,_,j,hj=>by
  have h8:min 8 (32 - 0 - 8*j)=8:=by omega
  rw [h8]
  have h0:x.at j / 2 ^ (8*8)=0:=Nat.div_eq_of_lt (hx.at j)
  rw [h0,Nat.zero_mul]
  match j,hj with
  | 0,_ | 1,_ | 2,_ | 3,_=>rfl
 | i+1,hi,j,hj=>by
  have ih:=uFrom_at f x hx hf i (by omega)
  have hk:(31 - i) / 8 < 4:=by omega
  show ((uFrom f i).set ((31 - i) / 8) ((uFrom f i).at ((31 - i) / 8)+f i*2 ^ (8*((31 - i) % 8)))).at j=_
  rw [set_at _ _ _ _ hk hj]
  by_cases e:(31 - i) / 8=j
  ·rw [if_pos e,ih _ hk,hf i (by omega),e]
   have e1:min 8 (32 - i - 8*j)=(31 - i) % 8+1:=by omega
   have e2:min 8 (32 - (i+1) - 8*j)=(31 - i) % 8:=by omega
   rw [e1,e2]
   exact top_step _ _ (Nat.mod_lt _ (by decide))
  ·rw [if_neg e,ih j hj]
   have e1:min 8 (32 - i - 8*j)=min 8 (32 - (i+1) - 8*j):=by omega
   rw [e1]
theorem amtB_size (x:W4):(amtB x).size=32:=by
 show (amtL x).toArray.size=32
 simp [amtL]
theorem amtB_at (x:W4) (i:Nat) (hi:i < 32):(amtB x).data.getD i 0=uByte x i:=by
 show (amtL x).toArray.getD i 0=_
 have:(amtL x).toArray[i]? = some (uByte x i):=by
  unfold amtL
  rw [List.getElem?_toArray,List.getElem?_map,List.getElem?_range hi]; rfl
 rw [Array.getD_eq_getD_getElem?,this]; rfl
theorem toAmt_amtB {x:W4} (hx:x.Ok):toAmt (amtB x)=x:=by
 unfold toAmt
 rw [if_pos (amtB_size x)]
 refine uCmp_eq fun j hj => ?_
 rw [uFrom_at _ x hx (fun i hi=>by rw [amtB_at x i hi,uByte_nat]) 32 (Nat.le_refl _) j hj]
 have:min 8 (32 - 32 - 8*j)=0:=by omega
 rw [this,Nat.mul_zero,Nat.pow_zero,Nat.div_one,Nat.mul_one]
theorem amt_own {s:St} (hs:Sorted s.ents) {k:ByteArray} (hk:k≠emptyB) {x:W4} (hx:x.Ok):(s.setAmt k x).amt k=x:=by
 unfold St.amt St.val St.setAmt
 rw [getE_put hs,if_pos rfl]
 by_cases h0:x=(0,0,0,0)
 ·rw [if_pos h0,if_pos rfl]
  subst h0
  show toAmt emptyB=_
  unfold toAmt
  rw [if_neg (by decide)]
 ·rw [if_neg h0,if_neg (fun e=>by have:=congrArg ByteArray.size e; rw [amtB_size] at this; exact absurd this (by decide)),if_neg hk]
  exact toAmt_amtB hx
theorem key_some (n:Nat) {a b:Int} (ha:¬ a < 0) (hb:¬ b < 0):keyL n [a,b]≠emptyB:=keyL_some n (by intro x hx; simp only [List.mem_cons,List.not_mem_nil,or_false] at hx; rcases hx with rfl | rfl <;> omega)
theorem key_tab {n n':Nat} {a b a' b':Int} (ha:¬ a < 0) (hb:¬ b < 0) (ha':¬ a' < 0) (hb':¬ b' < 0) (hn:UInt8.ofNat n≠UInt8.ofNat n'):keyL n [a,b]≠keyL n' [a',b']:=fun h=>by
 have h1:=keyL_first (t:=n) (l:=[a,b]) (by intro x hx; simp only [List.mem_cons,List.not_mem_nil,or_false] at hx; rcases hx with rfl | rfl <;> omega)
 have h2:=keyL_first (t:=n') (l:=[a',b']) (by intro x hx; simp only [List.mem_cons,List.not_mem_nil,or_false] at hx; rcases hx with rfl | rfl <;> omega)
 rw [h,h2] at h1
 exact hn (Option.some.inj h1).symm
theorem sub_srt {h:Hand} (hon:h.on=true) {s:St} (hs:Sorted s.ents) (k:ByteArray) (y:W4):Sorted (h.subSt s k y).ents:=by
 unfold Hand.subSt; split
 ·rw [Hand.st_on hon]; exact setAmt_srt hs _ _
 ·exact hs
theorem wr_dep {h:Hand} (hon:h.on=true) {s:St} (hs:Sorted s.ents) {a t:Int} (ha:¬ a < 0) (ht:¬ t < 0) {d:W4} (hd:d.Ok) (f:W4):(h.wr s a t d f).dep a t=d:=by
 unfold St.dep
 rw [wr_on hon,amt_other (setAmt_srt hs _ _) (key_tab ha ht ha ht (by decide)),amt_own hs (key_some 10 ha ht) hd]
theorem put_ok {h:Hand} (hon:h.on=true) {s:St} (hs:Sorted s.ents) {a o t:Int} {m x:W4} (he:h.putE s a o t m x=0) :
  ¬ a < 1∧¬ t < 1∧¬ o < 0∧x≠(0,0,0,0)∧growB (s.dep a t) (s.fct a t) m x=true∧moreE (s.prt o t) x=0∧h.putSt s a o t m x=((h.wr s a t (sumW (s.dep a t) x) (growW (s.dep a t) (s.fct a t) m x)).setAmt (keyL 12 [o,t]) (moreW (s.prt o t) x)):=by
 by_cases hc:putC a o t x
 ·rw [(put_c (h:=h) (s:=s) (m:=m) hc).1] at he; exact absurd he (by decide)
 by_cases hm:m=(0,0,0,0)
 ·rw [(put_m (h:=h) (s:=s) hc hm).1] at he; exact absurd he (by decide)
 cases hg:growB (s.dep a t) (s.fct a t) m x with
 | false=>rw [(put_g (h:=h) (s:=s) hc hm hg).1] at he; exact absurd he (by decide)
 | true =>
  have hk:¬ a < 1∧¬ t < 1∧¬ o < 0:=by unfold putC at hc; simp only [not_or] at hc; exact ⟨hc.2.2.1,hc.2.2.2.1,hc.2.2.2.2⟩
  have hx0:x≠(0,0,0,0):=fun e=>hc (.inl e)
  have hp:(h.putS1 s a t m x).amt (keyL 12 [o,t])=s.prt o t:=by
   unfold Hand.putS1
   rw [wr_on hon,amt_other (setAmt_srt hs _ _) (key_ne12 (.inr rfl) hk.1 hk.2.1 hk.2.2),amt_other hs (key_ne12 (.inl rfl) hk.1 hk.2.1 hk.2.2)]
   rfl
  have hE:h.putE s a o t m x=moreE (s.prt o t) x:=by
   unfold Hand.putE; rw [if_neg hc,if_neg hm,if_pos hg,hp]
  have h0:moreE (s.prt o t) x=0:=hE.symm.trans he
  refine ⟨hk.1,hk.2.1,hk.2.2,hx0,rfl,h0,?_⟩
  unfold Hand.putSt
  rw [if_pos he]
  unfold Hand.addSt
  rw [hp,if_pos h0,Hand.st_on hon]
  rfl
theorem sumW_okk (x y:W4):(sumW x y).Ok:=toW_ok _
theorem und_law {h:Hand} (hon:h.on=true) {s:St} (hs:Sorted s.ents) {a o t:Int} {m x:W4} (he:h.putE s a o t m x=0) :
  (h.putSt s a o t m x).dep a t=sumW (s.dep a t) x∧(takeE (h.putSt s a o t m x) a o t m x=0→(h.takeSt (h.putSt s a o t m x) a o t m x).dep a t=s.dep a t):=by
 obtain ⟨ha,ht,ho,hx0,hg,hm,hst⟩:=put_ok hon hs he
 have h1:=wr_srt h hs a t (sumW (s.dep a t) x) (growW (s.dep a t) (s.fct a t) m x)
 have hd:(h.putSt s a o t m x).dep a t=sumW (s.dep a t) x:=by
  rw [hst]
  show St.amt _ _=_
  rw [amt_other h1 (Ne.symm (key_ne12 (.inl rfl) ha ht ho))]
  exact wr_dep hon hs (by omega) (by omega) (sumW_okk _ _) _
 refine ⟨hd,fun ht0 => ?_⟩
 have h2:Sorted (h.putSt s a o t m x).ents:=by rw [hst]; exact setAmt_srt h1 _ _
 generalize h.putSt s a o t m x=s1 at *
 unfold Hand.takeSt
 rw [if_pos ht0,wr_dep hon (sub_srt hon h2 _ _) (by omega) (by omega) (subW_ok _ _),hd]
 have hlt:uN (s.dep a t)+uN x < M128:=by
  unfold growB at hg
  simp only [Bool.and_eq_true,decide_eq_true_eq] at hg
  exact hg.2.2.2.1
 have hs0:sumW (s.dep a t) x=uOf (uN (s.dep a t)+uN x):=by
  unfold sumW toW
  rw [if_pos (Nat.lt_trans hlt (by decide))]
 have hu:uN (sumW (s.dep a t) x)=uN (s.dep a t)+uN x:=by
  rw [hs0,uN_of (Nat.lt_trans hlt (by decide))]
 unfold subW
 rw [hu,if_pos (Nat.le_add_left _ _),Nat.add_sub_cancel]
 exact uOf_uN (amt_ok _ _)
end Go.Proofs.YtpojljieakdgiaaGreat
