/- What is proved here: what holdings are worth together stays at most the part, whatever is put, taken and cut; plain. Conditions: words below 2^64, keys in order. -/
import Derived.Test.YtpojljieakdgiaaGreatEHoldAct
set_option maxRecDepth 100000
set_option maxHeartbeats 16000000
namespace Go.Proofs.YtpojljieakdgiaaGreat
open Go.RowKit
abbrev E36:Nat:=1000000000000000000000000000000000000
abbrev E18:Nat:=1000000000000000000
def wgt (s:St) (a:Int):Nat:=uN (s.dep a 1)*uN (s.fct a 1)
def Who3 (a:Int):Prop:=a=1∨a=2∨a=3
theorem Who3.nn {a:Int} (h:Who3 a):¬ a < 0:=by unfold Who3 at h; omega
structure CInv (s:St) (m:W4):Prop where
 good:HGood s
 mo:m.Ok
 m0:0 < uN m
 m18:uN m≤E18
 d:∀ a,Who3 a→uN (s.dep a 1) < M128
 f:∀ a,Who3 a→uN (s.fct a 1)≤E36
 p:uN (s.prt 9 1) < M128
 le:(wgt s 1+wgt s 2+wgt s 3)*uN m≤E36*uN (s.prt 9 1)
theorem key_who (n:Nat) (hn:n=10∨n=11) {a b:Int} (ha:Who3 a) (hb:Who3 b) (h:a≠b):keyL n [a,1]≠keyL n [b,1]:=by
 rcases hn with rfl | rfl <;> rcases ha with rfl | rfl | rfl <;> rcases hb with rfl | rfl | rfl <;> first | exact absurd rfl h | decide +kernel
theorem CInv.step {s s':St} {m:W4} (h:CInv s m) (hg:HGood s') {a:Int} (ha:Who3 a) (hd:uN (s'.dep a 1) < M128) (hf:uN (s'.fct a 1)≤E36)
  (ho:∀ b,Who3 b→a≠b→s'.dep b 1=s.dep b 1∧s'.fct b 1=s.fct b 1) (hp:uN (s'.prt 9 1) < M128)
  (hle:wgt s' a*uN m+E36*uN (s.prt 9 1)≤wgt s a*uN m+E36*uN (s'.prt 9 1)):CInv s' m:=by
 refine ⟨hg,h.mo,h.m0,h.m18,fun b hb => ?_,fun b hb => ?_,hp,?_⟩
 ·by_cases e:a=b
  ·subst e; exact hd
  ·rw [(ho b hb e).1]; exact h.d b hb
 ·by_cases e:a=b
  ·subst e; exact hf
  ·rw [(ho b hb e).2]; exact h.f b hb
 ·have hw:∀ b,Who3 b→a≠b→wgt s' b=wgt s b:=fun b hb e=>by unfold wgt; rw [(ho b hb e).1,(ho b hb e).2]
  have h0:=h.le
  rw [Nat.add_mul,Nat.add_mul] at h0 ⊢
  rcases ha with rfl | rfl | rfl
  ·rw [hw 2 (.inr (.inl rfl)) (by decide),hw 3 (.inr (.inr rfl)) (by decide)]; omega
  ·rw [hw 1 (.inl rfl) (by decide),hw 3 (.inr (.inr rfl)) (by decide)]; omega
  ·rw [hw 1 (.inl rfl) (by decide),hw 2 (.inr (.inl rfl)) (by decide)]; omega
theorem fct_of {s s':St} {a b:Int} (h:s'.amt (keyL 11 [a,1])=s.amt (keyL 11 [b,1])):s'.fct a 1=s.fct b 1:=by unfold St.fct; rw [h]
theorem p12_other {s:St} (hs:Sorted s.ents) (x:W4) {a:Int} (ha:¬ a < 0):(s.setAmt (keyL 12 [9,1]) x).dep a 1=s.dep a 1∧(s.setAmt (keyL 12 [9,1]) x).fct a 1=s.fct a 1 :=
 ⟨amt_other hs (key_tab (by decide) (by decide) ha (by decide) (by decide)) x,fct_of (amt_other hs (key_tab (by decide) (by decide) ha (by decide) (by decide)) x)⟩
theorem p12_own {s:St} (hs:Sorted s.ents) {x:W4} (hx:x.Ok):(s.setAmt (keyL 12 [9,1]) x).prt 9 1=x:=amt_own hs (key_some 12 (by decide) (by decide)) hx
section
variable {h:Hand} (hon:h.on=true) {s:St} (hs:Sorted s.ents) {a:Int} (ha:Who3 a) (d f:W4)
include hon hs ha
theorem wr_prt:(h.wr s a 1 d f).prt 9 1=s.prt 9 1:=by
 unfold St.prt
 rw [wr_on hon,amt_other (setAmt_srt hs _ _) (key_tab ha.nn (by decide) (by decide) (by decide) (by decide)),amt_other hs (key_tab ha.nn (by decide) (by decide) (by decide) (by decide))]
theorem wr_other {b:Int} (hb:Who3 b) (e:a≠b):(h.wr s a 1 d f).dep b 1=s.dep b 1∧(h.wr s a 1 d f).fct b 1=s.fct b 1:=by
 refine ⟨?_,fct_of ?_⟩
 ·unfold St.dep
  rw [wr_on hon,amt_other (setAmt_srt hs _ _) (key_tab ha.nn (by decide) hb.nn (by decide) (by decide)),amt_other hs (key_who 10 (.inl rfl) ha hb e)]
 ·rw [wr_on hon,amt_other (setAmt_srt hs _ _) (key_who 11 (.inr rfl) ha hb e),amt_other hs (key_tab ha.nn (by decide) hb.nn (by decide) (by decide))]
theorem wr_fct (hf:f.Ok):(h.wr s a 1 d f).fct a 1=if (if d=(0,0,0,0) then (0,0,0,0) else f)=(0,0,0,0) then oneW else (if d=(0,0,0,0) then (0,0,0,0) else f):=by
 have hz:W4.Ok (if d=(0,0,0,0) then (0,0,0,0) else f):=by
  split
  ·exact ⟨by decide,by decide,by decide,by decide⟩
  ·exact hf
 unfold St.fct
 rw [wr_on hon,amt_own (setAmt_srt hs _ _) (key_some 11 ha.nn (by decide)) hz]
end
theorem W4.zero_of {x:W4} (h:uN x=0):x=(0,0,0,0):=by
 obtain ⟨x0,x1,x2,x3⟩:=x
 unfold uN at h
 simp only at h
 have h0:x0=0:=by omega
 have h1:x1=0:=by omega
 have h2:x2=0:=by omega
 have h3:x3=0:=by omega
 rw [h0,h1,h2,h3]
theorem uN_pos {x:W4} (h:x≠(0,0,0,0)):0 < uN x:=Nat.pos_of_ne_zero fun e=>h (W4.zero_of e)
theorem fct_ne (s:St) (a:Int):s.fct a 1≠(0,0,0,0):=by
 unfold St.fct
 split
 ·decide
 ·assumption
theorem oneW_le:uN oneW≤E36:=by decide
theorem M128_W:M128 < W256:=by decide
theorem grow_arith {d x f F m wn p E:Nat} (hF:F*((d+x)*m)≤(wn+x)*E) (hW:wn*E≤d*f*m):(d+x)*F*m+E*p≤d*f*m+E*(p+x):=by
 rw [Nat.mul_add,Nat.mul_comm (d+x) F,Nat.mul_assoc]
 rw [Nat.add_mul wn x E] at hF
 rw [Nat.mul_comm E x]
 omega
theorem M128_lt:M128 < 115792089237316195423570985008687907853269984665640564039457584007913129639936:=by decide
theorem cov_put {h:Hand} (hon:h.on=true) {s:St} {m x:W4} (hc:CInv s m) {a:Int} (ha:Who3 a):CInv (h.putSt s a 9 1 m x) m:=by
 by_cases he:h.putE s a 9 1 m x=0
 ·obtain ⟨_,_,_,_,hg,hm,hst⟩:=put_ok hon hc.good.1 he
  have hgood:HGood (h.putSt s a 9 1 m x):=put_keeps (P:=HGood) (fun _ n a b x hs=>hs.set n a b x) hc.good _ _ _ _ _
  have hs:=hc.good.1
  have h1:=wr_srt h hs a 1 (sumW (s.dep a 1) x) (growW (s.dep a 1) (s.fct a 1) m x)
  have hg':=hg
  unfold growB at hg'
  simp only [Bool.and_eq_true,decide_eq_true_eq] at hg'
  obtain ⟨hgood0,_,_,hlt,hfb⟩:=hg'
  have hsum:uN (sumW (s.dep a 1) x)=uN (s.dep a 1)+uN x:=by
   unfold sumW toW
   rw [if_pos (Nat.lt_trans hlt M128_W),uN_of (Nat.lt_trans hlt M128_lt)]
  have hwl:=worth_le hgood0
  have hdl:=hc.d a ha
  have hwx:worthN (s.dep a 1) (s.fct a 1) m+uN x < 115792089237316195423570985008687907853269984665640564039457584007913129639936:=by
   unfold M128 at hlt hdl; omega
  have hfb':=hfb
  unfold facB at hfb'
  simp only [Bool.and_eq_true,decide_eq_true_eq] at hfb'
  have hgw:growW (s.dep a 1) (s.fct a 1) m x=uOf (facN (uOf (worthN (s.dep a 1) (s.fct a 1) m+uN x)) (uOf (uN (s.dep a 1)+uN x)) m):=by
   unfold growW; rw [if_pos hg]; unfold facW; rw [if_pos hfb]
  have hgn:uN (growW (s.dep a 1) (s.fct a 1) m x)=facN (uOf (worthN (s.dep a 1) (s.fct a 1) m+uN x)) (uOf (uN (s.dep a 1)+uN x)) m:=by
   rw [hgw,uN_of (Nat.lt_of_le_of_lt hfb'.2 (by decide))]
  have hgo:(growW (s.dep a 1) (s.fct a 1) m x).Ok:=by rw [hgw]; exact uOf_ok _
  have hFle:facN (uOf (worthN (s.dep a 1) (s.fct a 1) m+uN x)) (uOf (uN (s.dep a 1)+uN x)) m*((uN (s.dep a 1)+uN x)*uN m)≤(worthN (s.dep a 1) (s.fct a 1) m+uN x)*E36:=by
   unfold facN
   rw [uN_of hwx,uN_of (Nat.lt_trans hlt M128_lt)]
   exact Nat.div_mul_le_self _ _
  have hWle:worthN (s.dep a 1) (s.fct a 1) m*E36≤uN (s.dep a 1)*uN (s.fct a 1)*uN m:=by
   unfold worthN
   exact Nat.div_mul_le_self _ _
  have hd':(h.putSt s a 9 1 m x).dep a 1=sumW (s.dep a 1) x:=by
   rw [hst,(p12_other h1 _ ha.nn).1]
   exact wr_dep hon hs ha.nn (by decide) (sumW_okk _ _) _
  have hx0:0 < uN x:=by
   rename_i h4 _
   exact uN_pos (by assumption)
  have hsn:sumW (s.dep a 1) x≠(0,0,0,0):=fun e=>by
   have h2:=hsum
   rw [e] at h2
   have h3:uN (0,0,0,0)=0:=rfl
   omega
  have hgn0:growW (s.dep a 1) (s.fct a 1) m x≠(0,0,0,0):=fun e=>by
   have h2:=hgn
   rw [e] at h2
   have h3:uN (0,0,0,0)=0:=rfl
   omega
  have hf':(h.putSt s a 9 1 m x).fct a 1=growW (s.dep a 1) (s.fct a 1) m x:=by
   rw [hst,(p12_other h1 _ ha.nn).2,wr_fct hon hs ha _ _ hgo,if_neg hsn,if_neg hgn0]
  have hpm:uN (moreW (s.prt 9 1) x)=uN (s.prt 9 1)+uN x∧uN (s.prt 9 1)+uN x < M128:=by
   unfold moreE at hm
   split at hm
   ·rename_i hlt2
    unfold moreW
    rw [if_pos hlt2,uN_of (Nat.lt_trans hlt2 M128_lt)]
    exact ⟨rfl,hlt2⟩
   ·exact absurd hm (by decide)
  have hp':(h.putSt s a 9 1 m x).prt 9 1=moreW (s.prt 9 1) x:=by
   rw [hst]; exact p12_own h1 (moreW_ok _ _)
  refine hc.step hgood ha ?_ ?_ (fun b hb e => ?_) ?_ ?_
  ·rw [hd',hsum]; exact hlt
  ·rw [hf',hgn]; exact hfb'.2
  ·rw [hst,(p12_other h1 _ hb.nn).1,(p12_other h1 _ hb.nn).2]
   exact wr_other hon hs ha _ _ hb e
  ·rw [hp',hpm.1]; exact hpm.2
  ·unfold wgt
   rw [hd',hf',hp',hpm.1,hsum,hgn]
   exact grow_arith hFle hWle
 ·rw [putSt_no rfl he]; exact hc
theorem cov_worth {s:St} {m x:W4} (hc:CInv s m) {a:Int} (ha:Who3 a) (hx:uN x≤uN (s.dep a 1)):goodB x (s.fct a 1) m=true∧uN (worthW x (s.fct a 1) m)=worthN x (s.fct a 1) m∧worthN x (s.fct a 1) m≤uN (s.prt 9 1):=by
 have hgb:goodB x (s.fct a 1) m=true:=by
  unfold goodB
  simp only [Bool.and_eq_true,decide_eq_true_eq]
  exact ⟨Nat.lt_of_le_of_lt hx (hc.d a ha),hc.f a ha,hc.m18⟩
 refine ⟨hgb,worth_nat hgb,?_⟩
 have h1:uN x*uN (s.fct a 1)*uN m≤wgt s a*uN m:=Nat.mul_le_mul_right _ (Nat.mul_le_mul_right _ hx)
 have h2:=hc.le
 rw [Nat.add_mul,Nat.add_mul] at h2
 have h3:wgt s a*uN m≤E36*uN (s.prt 9 1):=by
  rcases ha with rfl | rfl | rfl <;> omega
 unfold worthN
 exact Nat.div_le_of_le_mul (Nat.le_trans h1 h3)
theorem cov_take {h:Hand} (hon:h.on=true) {s:St} {m x:W4} (hc:CInv s m) {a:Int} (ha:Who3 a) (hx0:x≠(0,0,0,0)) (hx:uN x≤uN (s.dep a 1)) :
  takeE s a 9 1 m x=0∧CInv (h.takeSt s a 9 1 m x) m:=by
 obtain ⟨hgb,hwn,hwp⟩:=cov_worth hc ha hx
 have hl:lessE' (s.prt 9 1) (worthW x (s.fct a 1) m)=0:=by
  unfold lessE'; rw [if_pos (by rw [hwn]; exact hwp)]
 have hE:takeE s a 9 1 m x=0:=by
  unfold takeE; rw [if_neg hx0,if_pos hx,if_pos hgb,hl]
 refine ⟨hE,?_⟩
 have hs:=hc.good.1
 have hgood:HGood (h.takeSt s a 9 1 m x):=take_keeps (P:=HGood) (fun _ n a b x hs=>hs.set n a b x) hc.good _ _ _ _ _
 have hst:h.takeSt s a 9 1 m x=h.wr (s.setAmt (keyL 12 [9,1]) (subW (s.prt 9 1) (worthW x (s.fct a 1) m))) a 1 (subW (s.dep a 1) x) (s.fct a 1):=by
  unfold Hand.takeSt
  rw [if_pos hE]
  unfold Hand.subSt
  rw [if_pos (show lessE' (s.amt (keyL 12 [9,1])) _=0 from hl),Hand.st_on hon]
  rfl
 have h1:=setAmt_srt hs (keyL 12 [9,1]) (subW (s.prt 9 1) (worthW x (s.fct a 1) m))
 have hpn:uN (subW (s.prt 9 1) (worthW x (s.fct a 1) m))=uN (s.prt 9 1) - worthN x (s.fct a 1) m:=by
  unfold subW
  rw [hwn,if_pos hwp,uN_of (Nat.lt_of_le_of_lt (Nat.sub_le _ _) (Nat.lt_trans hc.p M128_lt))]
 have hdn:uN (subW (s.dep a 1) x)=uN (s.dep a 1) - uN x:=by
  unfold subW
  rw [if_pos hx,uN_of (Nat.lt_of_le_of_lt (Nat.sub_le _ _) (Nat.lt_trans (hc.d a ha) M128_lt))]
 have hd':(h.takeSt s a 9 1 m x).dep a 1=subW (s.dep a 1) x:=by
  rw [hst]; exact wr_dep hon h1 ha.nn (by decide) (subW_ok _ _) _
 have hp':(h.takeSt s a 9 1 m x).prt 9 1=subW (s.prt 9 1) (worthW x (s.fct a 1) m):=by
  rw [hst,wr_prt hon h1 ha]; exact p12_own hs (subW_ok _ _)
 have hf':=wr_fct hon h1 ha (subW (s.dep a 1) x) (s.fct a 1) (fct_ok _ _ _)
 rw [← hst] at hf'
 have hwE:E36*worthN x (s.fct a 1) m≤uN x*uN (s.fct a 1)*uN m:=by
  unfold worthN; exact Nat.mul_div_le _ _
 refine hc.step hgood ha ?_ ?_ (fun b hb e => ?_) ?_ ?_
 ·rw [hd',hdn]; exact Nat.lt_of_le_of_lt (Nat.sub_le _ _) (hc.d a ha)
 ·rw [hf']
  split
  ·exact oneW_le
  ·split
   ·decide
   ·exact hc.f a ha
 ·rw [hst]
  obtain ⟨e1,e2⟩:=wr_other hon h1 ha (subW (s.dep a 1) x) (s.fct a 1) hb e
  rw [e1,e2]
  exact p12_other hs _ hb.nn
 ·rw [hp',hpn]; exact Nat.lt_of_le_of_lt (Nat.sub_le _ _) hc.p
 ·have hw:wgt (h.takeSt s a 9 1 m x) a*uN m≤(uN (s.dep a 1) - uN x)*uN (s.fct a 1)*uN m:=by
   unfold wgt
   rw [hd',hdn,hf']
   by_cases hz:subW (s.dep a 1) x=(0,0,0,0)
   ·have:uN (s.dep a 1) - uN x=0:=by rw [← hdn,hz]; rfl
    rw [this,Nat.zero_mul,Nat.zero_mul]
    exact Nat.zero_le _
   ·rw [if_neg hz,if_neg (fct_ne s a)]
    exact Nat.le_refl _
  have hsp:(uN (s.dep a 1) - uN x)*uN (s.fct a 1)*uN m+uN x*uN (s.fct a 1)*uN m=wgt s a*uN m:=by
   unfold wgt
   rw [← Nat.add_mul,← Nat.add_mul,Nat.sub_add_cancel hx]
  rw [hp',hpn,Nat.mul_sub]
  have hEp:E36*worthN x (s.fct a 1) m≤E36*uN (s.prt 9 1):=Nat.mul_le_mul_left _ hwp
  omega
theorem up_le {p t m:Nat} (hm:0 < m) (ht:t≤m):p*t / m+(if p*t % m=0 then 0 else 1)≤p:=by
 have h1:p*t≤p*m:=Nat.mul_le_mul_left _ ht
 have h2:=Nat.div_add_mod (p*t) m
 split
 ·exact Nat.div_le_of_le_mul (by rw [Nat.mul_comm m p]; exact h1)
 ·rename_i h
  refine Nat.succ_le_of_lt ((Nat.div_lt_iff_lt_mul hm).2 (Nat.lt_of_le_of_ne h1 fun e=>h ?_))
  rw [e]; exact Nat.mul_mod_left _ _
theorem up_ge {n m:Nat} (hm:0 < m):n≤(n / m+(if n % m=0 then 0 else 1))*m:=by
 have h2:=Nat.div_add_mod n m
 have h3:=Nat.mod_lt n hm
 rw [Nat.add_mul,Nat.mul_comm (n / m) m]
 split <;> omega
theorem cov_cut {h:Hand} (hon:h.on=true) {s:St} {m t:W4} (hc:CInv s m) (hto:t.Ok) (ht0:0 < uN t) (ht:uN t≤uN m):cutE s 9 1 t m=0∧CInv (h.cutSt s 9 1 t m) t:=by
 have hs:=hc.good.1
 have hup:upN (s.prt 9 1) t m≤uN (s.prt 9 1):=up_le hc.m0 ht
 have hlt:upN (s.prt 9 1) t m < 115792089237316195423570985008687907853269984665640564039457584007913129639936:=Nat.lt_of_le_of_lt hup (Nat.lt_trans hc.p M128_lt)
 have hm0:¬ uN m=0:=Nat.pos_iff_ne_zero.1 hc.m0
 have hsu:suB (s.prt 9 1) t m=true:=by
  unfold suB upB toB
  rw [if_neg hm0]
  simp only [Bool.and_eq_true,decide_eq_true_eq]
  exact ⟨hm0,hlt⟩
 have hB:cutB s 9 1 t m=true:=by
  unfold cutB
  rw [hsu,decide_eq_true ht]; rfl
 have hltW:upN (s.prt 9 1) t m < W256:=hlt
 have hw:suW (s.prt 9 1) t m=uOf (upN (s.prt 9 1) t m):=by
  unfold suW upW toW
  rw [if_neg hm0,if_neg hm0,if_pos hltW]
 have hwn:uN (suW (s.prt 9 1) t m)=upN (s.prt 9 1) t m:=by rw [hw,uN_of hlt]
 have hE:cutE s 9 1 t m=0:=by unfold cutE; rw [if_pos hB]
 refine ⟨hE,?_⟩
 have hst:h.cutSt s 9 1 t m=s.setAmt (keyL 12 [9,1]) (suW (s.prt 9 1) t m):=by
  unfold Hand.cutSt; rw [if_pos hB,Hand.st_on hon]
 have hgood:HGood (h.cutSt s 9 1 t m):=cut_keeps (P:=HGood) (fun _ n a b x hs=>hs.set n a b x) hc.good _ _ _ _
 have hp':(h.cutSt s 9 1 t m).prt 9 1=suW (s.prt 9 1) t m:=by rw [hst]; exact p12_own hs (by rw [hw]; exact uOf_ok _)
 have ho:∀ b,Who3 b→(h.cutSt s 9 1 t m).dep b 1=s.dep b 1∧(h.cutSt s 9 1 t m).fct b 1=s.fct b 1:=fun b hb=>by rw [hst]; exact p12_other hs _ hb.nn
 refine ⟨hgood,hto,ht0,Nat.le_trans ht hc.m18,fun b hb => ?_,fun b hb => ?_,?_,?_⟩
 ·rw [(ho b hb).1]; exact hc.d b hb
 ·rw [(ho b hb).2]; exact hc.f b hb
 ·rw [hp',hwn]; exact Nat.lt_of_le_of_lt hup hc.p
 ·have hwg:∀ b,Who3 b→wgt (h.cutSt s 9 1 t m) b=wgt s b:=fun b hb=>by unfold wgt; rw [(ho b hb).1,(ho b hb).2]
  rw [hwg 1 (.inl rfl),hwg 2 (.inr (.inl rfl)),hwg 3 (.inr (.inr rfl)),hp',hwn]
  have h0:=hc.le
  generalize wgt s 1+wgt s 2+wgt s 3=S at *
  have hge:uN (s.prt 9 1)*uN t≤upN (s.prt 9 1) t m*uN m:=up_ge hc.m0
  have h1:=Nat.mul_le_mul_right (uN t) h0
  have h2:=Nat.mul_le_mul_left E36 hge
  refine Nat.le_of_mul_le_mul_right (c:=uN m) ?_ hc.m0
  calc S*uN t*uN m=S*uN m*uN t:=Nat.mul_right_comm _ _ _
   _≤E36*uN (s.prt 9 1)*uN t:=h1
   _=E36*(uN (s.prt 9 1)*uN t):=Nat.mul_assoc _ _ _
   _≤E36*(upN (s.prt 9 1) t m*uN m):=h2
   _=E36*upN (s.prt 9 1) t m*uN m:=(Nat.mul_assoc _ _ _).symm
theorem cov_sum {s:St} {m:W4} (hc:CInv s m):uN (worthW (s.dep 1 1) (s.fct 1 1) m)+uN (worthW (s.dep 2 1) (s.fct 2 1) m)+uN (worthW (s.dep 3 1) (s.fct 3 1) m)≤uN (s.prt 9 1):=by
 have h1:=(cov_worth hc (a:=1) (.inl rfl) (Nat.le_refl _)).2.1
 have h2:=(cov_worth hc (a:=2) (.inr (.inl rfl)) (Nat.le_refl _)).2.1
 have h3:=(cov_worth hc (a:=3) (.inr (.inr rfl)) (Nat.le_refl _)).2.1
 rw [h1,h2,h3]
 have h0:(wgt s 1+wgt s 2+wgt s 3)*uN m≤1000000000000000000000000000000000000*uN (s.prt 9 1):=hc.le
 rw [Nat.add_mul,Nat.add_mul] at h0
 unfold wgt at h0
 unfold worthN
 omega
end Go.Proofs.YtpojljieakdgiaaGreat
