/- What is proved here: program and reference, on stores with the same entries, do the same in the holding laws: errors, amounts, and the entries that they leave. Condition: keys in order. an amount comes back from its bytes; what stands behind an amount laid, and behind the holdings' writes, by keys. Conditions: words below 2^64, keys in order. what is put is there, and what is taken is gone; plain. Conditions: words be -/
import Derived.Test.YtpojljieakdgiaaGreatEHoldO
set_option maxRecDepth 100000
set_option maxHeartbeats 16000000
namespace Go.Proofs.YtpojljieakdgiaaGreat
open Go.RowKit
theorem getE_put {s:St} (hs:Sorted s.ents) (k v j:ByteArray):getE (s.put k v).ents j=if k=j then (if v=emptyB then none else if k=emptyB then getE s.ents j else some v) else getE s.ents j:=by
 unfold St.put
 by_cases hv:v=emptyB
 ·rw [if_pos hv,if_pos hv]
  unfold St.del
  split
  ·exact getE_delE _ hs _ _
  ·rename_i h
   by_cases hj:k=j
   ·subst hj
    rw [if_pos rfl]
    cases hg:getE s.ents k with
    | none=>rfl
    | some u=>rw [hg] at h; exact absurd rfl h
   ·rw [if_neg hj]
 ·rw [if_neg hv,if_neg hv]
  by_cases hk:k=emptyB
  ·rw [if_pos hk,if_pos hk]; split <;> rfl
  ·rw [if_neg hk,if_neg hk]
   unfold St.set
   split
   ·rename_i h
    by_cases hj:k=j
    ·subst hj; rw [if_pos rfl]; exact h
    ·rw [if_neg hj]
   ·exact getE_putE _ hs _ _ _
theorem amt_other {s:St} (hs:Sorted s.ents) {k j:ByteArray} (hk:k≠j) (x:W4):(s.setAmt k x).amt j=s.amt j:=by
 unfold St.amt St.val St.setAmt
 rw [getE_put hs,if_neg hk]
theorem setAmt_srt {s:St} (hs:Sorted s.ents) (k:ByteArray) (x:W4):Sorted (s.setAmt k x).ents:=put_srt hs _ _
theorem Hand.st_on {h:Hand} (hon:h.on=true) (s s':St):h.st s s'=s':=by unfold Hand.st; rw [if_pos hon]
theorem wr_on {h:Hand} (hon:h.on=true) (s:St) (a t:Int) (d f:W4):h.wr s a t d f=(s.setAmt (keyL 10 [a,t]) d).setAmt (keyL 11 [a,t]) (if d=(0,0,0,0) then (0,0,0,0) else f):=by
 unfold Hand.wr Hand.wrD
 rw [Hand.st_on hon,Hand.st_on hon]
theorem keyL_first {t:Nat} {l:List Int} (h:∀ n∈l,¬ n < 0):(keyL t l).data[0]? = some (UInt8.ofNat t):=by
 rw [keyL_pos h]
 show (keyBytes t l).toArray[0]? = _
 unfold keyBytes
 simp
theorem key_ne12 {a t o:Int} {n:Nat} (hn:n=10∨n=11) (ha:¬ a < 1) (ht:¬ t < 1) (ho:¬ o < 0):keyL n [a,t]≠keyL 12 [o,t]:=fun h=>by
 have h1:=keyL_first (t:=n) (l:=[a,t]) (by intro x hx; simp only [List.mem_cons,List.not_mem_nil,or_false] at hx; rcases hx with rfl | rfl <;> omega)
 have h2:=keyL_first (t:=12) (l:=[o,t]) (by intro x hx; simp only [List.mem_cons,List.not_mem_nil,or_false] at hx; rcases hx with rfl | rfl <;> omega)
 rw [h,h2] at h1
 rcases hn with rfl | rfl <;> exact absurd h1 (by decide)
theorem uByte_nat (x:W4) (i:Nat):(uByte x i).toNat=x.at ((31 - i) / 8) / 2 ^ (8*((31 - i) % 8)) % 256:=rfl
theorem top_step (v p:Nat) (hp:p < 8):v / 2 ^ (8*(p+1))*2 ^ (8*(p+1))+v / 2 ^ (8*p) % 256*2 ^ (8*p)=v / 2 ^ (8*p)*2 ^ (8*p):=by
 match p,hp with
 | 0,_ | 1,_ | 2,_ | 3,_ | 4,_ | 5,_ | 6,_ | 7,_=>simp only [Nat.reduceMul,Nat.reduceAdd,Nat.reducePow]; omega
theorem uFrom_at (f:Nat→Nat) (x:W4) (hx:x.Ok) (hf:∀ i,i < 32→f i=x.at ((31 - i) / 8) / 2 ^ (8*((31 - i) % 8)) % 256):∀ i,i≤32→∀ j,j < 4→(uFrom f i).at j=x.at j / 2 ^ (8*min 8 (32 - i - 8*j))*2 ^ (8*min 8 (32 - i - 8*j))
 | 0,_,j,hj=>by
  have h8:min 8 (32 - 0 - 8*j)=8:=by omega
  rw [h8]
  have h0:x.at j / 2 ^ (8*8)=0:=Nat.div_eq_of_lt (hx.at j)
  rw [h0,Nat.zero_mul]
  match j,hj with
  | 0,_ | 1,_ | 2,_ | 3,_=>rfl
 | i+1,hi,j,hj=>by
  have ih:=uFrom_at f x hx hf i (by omega)
  have hk:(31 - i) / 8 < 4:=by omega
  show ((uFrom f i).set ((31 - i) / 8) ((uFrom f i).at ((31 - i) / 8)+f i*2 ^ (8*((31 - i) % 8)))).at j=_
  rw [set_at _ _ _ _ hk hj]
  by_cases e:(31 - i) / 8=j
  ·rw [if_pos e,ih _ hk,hf i (by omega),e]
   have e1:min 8 (32 - i - 8*j)=(31 - i) % 8+1:=by omega
   have e2:min 8 (32 - (i+1) - 8*j)=(31 - i) % 8:=by omega
   rw [e1,e2]
   exact top_step _ _ (Nat.mod_lt _ (by decide))
  ·rw [if_neg e,ih j hj]
   have e1:min 8 (32 - i - 8*j)=min 8 (32 - (i+1) - 8*j):=by omega
   rw [e1]
theorem amtB_size (x:W4):(amtB x).size=32:=by
 show (amtL x).toArray.size=32
 simp [amtL]
theorem amtB_at (x:W4) (i:Nat) (hi:i < 32):(amtB x).data.getD i 0=uByte x i:=by
 show (amtL x).toArray.getD i 0=_
 have:(amtL x).toArray[i]? = some (uByte x i):=by
  unfold amtL
  rw [List.getElem?_toArray,List.getElem?_map,List.getElem?_range hi]; rfl
 rw [Array.getD_eq_getD_getElem?,this]; rfl
theorem toAmt_amtB {x:W4} (hx:x.Ok):toAmt (amtB x)=x:=by
 unfold toAmt
 rw [if_pos (amtB_size x)]
 refine uCmp_eq fun j hj => ?_
 rw [uFrom_at _ x hx (fun i hi=>by rw [amtB_at x i hi,uByte_nat]) 32 (Nat.le_refl _) j hj]
 have:min 8 (32 - 32 - 8*j)=0:=by omega
 rw [this,Nat.mul_zero,Nat.pow_zero,Nat.div_one,Nat.mul_one]
theorem amt_own {s:St} (hs:Sorted s.ents) {k:ByteArray} (hk:k≠emptyB) {x:W4} (hx:x.Ok):(s.setAmt k x).amt k=x:=by
 unfold St.amt St.val St.setAmt
 rw [getE_put hs,if_pos rfl]
 by_cases h0:x=(0,0,0,0)
 ·rw [if_pos h0,if_pos rfl]
  subst h0
  show toAmt emptyB=_
  unfold toAmt
  rw [if_neg (by decide)]
 ·rw [if_neg h0,if_neg (fun e=>by have:=congrArg ByteArray.size e; rw [amtB_size] at this; exact absurd this (by decide)),if_neg hk]
  exact toAmt_amtB hx
theorem key_some (n:Nat) {a b:Int} (ha:¬ a < 0) (hb:¬ b < 0):keyL n [a,b]≠emptyB:=keyL_some n (by intro x hx; simp only [List.mem_cons,List.not_mem_nil,or_false] at hx; rcases hx with rfl | rfl <;> omega)
theorem key_tab {n n':Nat} {a b a' b':Int} (ha:¬ a < 0) (hb:¬ b < 0) (ha':¬ a' < 0) (hb':¬ b' < 0) (hn:UInt8.ofNat n≠UInt8.ofNat n'):keyL n [a,b]≠keyL n' [a',b']:=fun h=>by
 have h1:=keyL_first (t:=n) (l:=[a,b]) (by intro x hx; simp only [List.mem_cons,List.not_mem_nil,or_false] at hx; rcases hx with rfl | rfl <;> omega)
 have h2:=keyL_first (t:=n') (l:=[a',b']) (by intro x hx; simp only [List.mem_cons,List.not_mem_nil,or_false] at hx; rcases hx with rfl | rfl <;> omega)
 rw [h,h2] at h1
 exact hn (Option.some.inj h1).symm
theorem wr_dep {h:Hand} (hon:h.on=true) {s:St} (hs:Sorted s.ents) {a t:Int} (ha:¬ a < 0) (ht:¬ t < 0) {d:W4} (hd:d.Ok) (f:W4):(h.wr s a t d f).dep a t=d:=by
 unfold St.dep
 rw [wr_on hon,amt_other (setAmt_srt hs _ _) (key_tab ha ht ha ht (by decide)),amt_own hs (key_some 10 ha ht) hd]
theorem put_ok {h:Hand} (hon:h.on=true) {s:St} (hs:Sorted s.ents) {a o t:Int} {m x:W4} (he:h.putE s a o t m x=0) :
  ¬ a < 1∧¬ t < 1∧¬ o < 0∧x≠(0,0,0,0)∧growB (s.dep a t) (s.fct a t) m x=true∧moreE (s.prt o t) x=0∧h.putSt s a o t m x=((h.wr s a t (sumW (s.dep a t) x) (growW (s.dep a t) (s.fct a t) m x)).setAmt (keyL 12 [o,t]) (moreW (s.prt o t) x)):=by
 by_cases hc:putC a o t x
 ·rw [(put_c (h:=h) (s:=s) (m:=m) hc).1] at he; exact absurd he (by decide)
 by_cases hm:m=(0,0,0,0)
 ·rw [(put_m (h:=h) (s:=s) hc hm).1] at he; exact absurd he (by decide)
 cases hg:growB (s.dep a t) (s.fct a t) m x with
 | false=>rw [(put_g (h:=h) (s:=s) hc hm hg).1] at he; exact absurd he (by decide)
 | true =>
  have hk:¬ a < 1∧¬ t < 1∧¬ o < 0:=by unfold putC at hc; simp only [not_or] at hc; exact ⟨hc.2.2.1,hc.2.2.2.1,hc.2.2.2.2⟩
  have hx0:x≠(0,0,0,0):=fun e=>hc (.inl e)
  have hp:(h.putS1 s a t m x).amt (keyL 12 [o,t])=s.prt o t:=by
   unfold Hand.putS1
   rw [wr_on hon,amt_other (setAmt_srt hs _ _) (key_ne12 (.inr rfl) hk.1 hk.2.1 hk.2.2),amt_other hs (key_ne12 (.inl rfl) hk.1 hk.2.1 hk.2.2)]
   rfl
  have hE:h.putE s a o t m x=moreE (s.prt o t) x:=by
   unfold Hand.putE; rw [if_neg hc,if_neg hm,if_pos hg,hp]
  have h0:moreE (s.prt o t) x=0:=hE.symm.trans he
  refine ⟨hk.1,hk.2.1,hk.2.2,hx0,rfl,h0,?_⟩
  unfold Hand.putSt
  rw [if_pos he]
  unfold Hand.addSt
  rw [hp,if_pos h0,Hand.st_on hon]
  rfl
theorem sumW_okk (x y:W4):(sumW x y).Ok:=toW_ok _
theorem putE_hand (q:Option Addr) (L L':List Nat) (s:St) (a o t:Int) (m x:W4):(⟨q,true,L⟩:Hand).putE s a o t m x=(⟨q,true,L'⟩:Hand).putE s a o t m x:=by
 unfold Hand.putE Hand.putS1 Hand.wr Hand.wrD Hand.st
 rfl
theorem putSt_hand (q:Option Addr) (L L':List Nat) (s:St) (a o t:Int) (m x:W4):(⟨q,true,L⟩:Hand).putSt s a o t m x=(⟨q,true,L'⟩:Hand).putSt s a o t m x:=by
 unfold Hand.putSt
 rw [putE_hand q L L']
 unfold Hand.addSt Hand.putS1 Hand.wr Hand.wrD Hand.st
 rfl
theorem takeSt_hand (q:Option Addr) (L L':List Nat) (s:St) (a o t:Int) (m x:W4):(⟨q,true,L⟩:Hand).takeSt s a o t m x=(⟨q,true,L'⟩:Hand).takeSt s a o t m x:=by
 unfold Hand.takeSt Hand.subSt Hand.wr Hand.wrD Hand.st
 rfl
theorem cutSt_hand (q:Option Addr) (L L':List Nat) (s:St) (o t:Int) (m x:W4):(⟨q,true,L⟩:Hand).cutSt s o t m x=(⟨q,true,L'⟩:Hand).cutSt s o t m x:=by
 unfold Hand.cutSt Hand.st
 rfl
def HGood (s:St):Prop:=Sorted s.ents∧∀ x∈s.ents,x.1.size≤17
theorem key17 (n:Nat) (a b:Int):(keyL n [a,b]).size≤17:=by
 unfold keyL
 split
 ·exact Nat.zero_le _
 ·show (keyBytes n [a,b]).toArray.size≤_
  rw [List.size_toArray,keyBytes_len]
  exact Nat.le_refl _
theorem HGood.put {s:St} (h:HGood s) {k:ByteArray} (hk:k.size≤17) (v:ByteArray):HGood (s.put k v):=by
 refine ⟨put_srt h.1 _ _,?_⟩
 unfold St.put
 split
 ·unfold St.del; split
  ·exact fun y hy=>h.2 y (delE_mem hy)
  ·exact h.2
 ·split
  ·exact h.2
  ·unfold St.set; split
   ·exact h.2
   ·intro y hy
    rcases putE_mem hy with rfl | hy
    ·exact hk
    ·exact h.2 y hy
theorem HGood.set {s:St} (h:HGood s) (n:Nat) (a b:Int) (x:W4):HGood (s.setAmt (keyL n [a,b]) x):=h.put (key17 _ _ _) _
theorem st_keeps {P:St→Prop} {h:Hand} {s s':St} (h1:P s) (h2:P s'):P (h.st s s'):=by
 unfold Hand.st; split
 ·exact h2
 ·exact h1
section
variable {P:St→Prop} (hP:∀ s n a b x,P s→P (s.setAmt (keyL n [a,b]) x)) {h:Hand} {s:St}
include hP
theorem wr_keeps (hs:P s) (a t:Int) (d f:W4):P (h.wr s a t d f):=by
 have h1:P (h.wrD s a t d):=st_keeps hs (hP _ _ _ _ _ hs)
 exact st_keeps h1 (hP _ _ _ _ _ h1)
theorem add_keeps (hs:P s) (n:Nat) (a b:Int) (x:W4):P (h.addSt s (keyL n [a,b]) x):=by
 unfold Hand.addSt; split
 ·exact st_keeps hs (hP _ _ _ _ _ hs)
 ·exact hs
theorem sub_keeps (hs:P s) (n:Nat) (a b:Int) (x:W4):P (h.subSt s (keyL n [a,b]) x):=by
 unfold Hand.subSt; split
 ·exact st_keeps hs (hP _ _ _ _ _ hs)
 ·exact hs
theorem put_keeps (hs:P s) (a o t:Int) (m x:W4):P (h.putSt s a o t m x):=by
 unfold Hand.putSt; split
 ·exact add_keeps hP (wr_keeps hP hs _ _ _ _) _ _ _ _
 ·exact hs
theorem take_keeps (hs:P s) (a o t:Int) (m x:W4):P (h.takeSt s a o t m x):=by
 unfold Hand.takeSt; split
 ·exact wr_keeps hP (sub_keeps hP hs _ _ _ _) _ _ _ _
 ·exact hs
theorem cut_keeps (hs:P s) (o t:Int) (m x:W4):P (h.cutSt s o t m x):=by
 unfold Hand.cutSt; split
 ·exact st_keeps hs (hP _ _ _ _ _ hs)
 ·exact hs
end
theorem HGood.keys {s:St} (h:HGood s):∀ x∈s.ents,x.1.size < 1000000000000:=fun x hx=>Nat.lt_of_le_of_lt (h.2 x hx) (by decide)
def HTwo (w:World) (q:Option Addr) (b k:Nat) (wr:World):Prop :=
 ∃ (K:List Nat) (s t:St),PairRep q true b t wr K s∧(∀ j∈K,w.heap.size≤j)∧Below w.heap.size w wr∧s.Fit (8*k)∧t.Fit (8*k)∧s.ents=t.ents∧HGood s
abbrev LRow (m:Nat) (a:Option Addr) (n c:Nat) (w:World):Prop:=w.cell? ⟨m,0,none⟩=some (.slice a n c)
def HEnd (w:World) (q:Option Addr) (b:Nat) (a2:Option Addr) (n c2:Nat) (w0:World):Prop :=
 Calls Tryz.prog 29 #[.pointer q] w0 fun e w4=>∃ a4 c4,e = .returned (.slice a4 n c4)∧LRow b a2 n c2 w4 ∧
 Calls Tryz.prog 30 #[.slice a4 n c4,.slice a2 n c2] w4 fun e w5=>e = .returned (.bool true)∧LRow b a2 n c2 w5 ∧
 Calls Tryz.prog 11 #[] w5 fun e w6=>e = .returned (.bool true)∧LRow b a2 n c2 w6∧Below w.heap.size w w6
theorem HTwo.below {w wr:World} {q:Option Addr} {b k:Nat} (h:HTwo w q b k wr):Below w.heap.size w wr:=by
 obtain ⟨_,_,_,_,_,h,_⟩:=h; exact h
theorem hend {w wr:World} {q:Option Addr} {b k:Nat} (h:HTwo w q b k wr) (hk:k < 1000):∃ a2 n c2,LRow b a2 n c2 wr∧HEnd w q b a2 n c2 wr.drew:=by
 obtain ⟨K,s,t,⟨L,M,_,_,hQ,hR⟩,hK,hbw,hfs,hft,hee,hg⟩:=h
 rcases hQ with ⟨_,b',hq,hS⟩ | ⟨h0,_⟩
 ·obtain ⟨lv,pv,hA,_⟩:=hR
  obtain ⟨a2,c2,rfl,hE⟩:=hA.ents
  have hq':q=some ⟨b',0,none⟩:=hq
  subst hq'
  refine ⟨a2,_,c2,hE.hd,?_⟩
  have hd:Below wr.heap.size wr wr.drew:=⟨rfl,rfl,rfl,Nat.le_refl _,fun _ _=>rfl⟩
  have hz:s.size < 1000000000000:=by have:=hfs.size; omega
  have hl:s.ents.length < 1000000000000:=by unfold St.size at hz; omega
  have cm:∀ {w1 w2:World},LRow b a2 t.ents.length c2 w1→Below w1.heap.size w1 w2→LRow b a2 t.ents.length c2 w2:=fun {w1 w2} h hb=>by
   show w2.cell? _=_
   rw [hb.cell (p:=⟨b,0,none⟩) (World.block_lt_of_cell? w1 _ h)]; exact h
  have m0:LRow b a2 t.ents.length c2 wr.drew:=hE.hd
  have hp0:PairsAt wr.drew a2 t.ents:=⟨hE.at0⟩
  refine (all_any wr.drew b' s L (hS.below hd) hz).mono fun e w4 ⟨v,he,hO⟩ => ?_
  obtain ⟨a4,c4,rfl,hp1⟩:=hO.1.pairs
  have hb4:Below wr.drew.heap.size wr.drew w4:=hO.2.2
  have hp2:PairsAt w4 a2 t.ents:=⟨fun k x hk=>by
   obtain ⟨g,h3,h4,h5⟩:=hp0.at0 k x hk
   exact ⟨g,h3,by rw [hb4.cell (p:=⟨g,k*2,none⟩) (World.block_lt_of_cell? _ _ h4)]; exact h4,by rw [hb4.cell (p:=⟨g,k*2+1,none⟩) (World.block_lt_of_cell? _ _ h5)]; exact h5⟩⟩
  have m4:=cm m0 hb4
  refine ⟨a4,c4,by rw [he,hee],m4,?_⟩
  rw [← hee] at hp2
  have hs:=same_any w4 a4 a2 c4 c2 s.ents s.ents hp1 hp2 hl
  rw [hee] at hs
  refine hs.mono fun e w5 ⟨he,n,hw⟩ => ?_
  subst hw
  refine ⟨by rw [he]; simp,m4,?_⟩
  have h5:Below wr.heap.size wr (w4.drewN n):=below_drewN (hd.trans (hb4.mono (Nat.le_refl _))) n
  refine (lives23 (w4.drewN n)).mono fun e w6 ⟨he,hb6⟩=>⟨he,cm (w1:=w4.drewN n) m4 hb6,bl_then (bl_then hbw h5) hb6⟩
 ·cases h0
theorem HGood.empty:HGood emptySt:=⟨List.Pairwise.nil,fun x hx=>by cases hx⟩
end Go.Proofs.YtpojljieakdgiaaGreat
