/- What is proved here: plain arithmetic of ExitCovers: what is left covers what all that wait pay, as shares of one whole. Conditions: none. what a withdrawal pays: at most its worth, less at a less magnitude, all of it at its own. Conditions: words below 2^64. the amounts of ExitCovers as numbers: what one pays, what is scaled, what a cut takes. Conditions: words below 2^64. the history behind a push, for ExitCovers: w -/
import Derived.Test.YtnkilceibkkjlaaGreatHExEqB
import Derived.Test.YtnkilceibkkjlaaGreatHExA
set_option maxRecDepth 100000
set_option maxHeartbeats 16000000
namespace Go.Proofs.YtnkilceibkkjlaaGreat
open Go.RowKit
structure CW where
 st:Nat
 W:Nat
 M:Nat
 c:Nat
def cvS (f:CW × Nat→Nat):List (CW × Nat)→Nat
 | []=>0
 | x :: l=>f x+cvS f l
theorem cvS_append (f:CW × Nat→Nat) (l m:List (CW × Nat)):cvS f (l ++ m)=cvS f l+cvS f m:=by
 induction l with
 | nil=>simp [cvS]
 | cons x l ih=>simp only [List.cons_append,cvS,ih]; omega
theorem cvS_map (f:CW × Nat→Nat) (g:CW × Nat→CW × Nat) (l:List (CW × Nat)):cvS f (l.map g)=cvS (fun x=>f (g x)) l:=by
 induction l with
 | nil=>rfl
 | cons x l ih=>simp only [List.map_cons,cvS,ih]
theorem cvS_mul (f:CW × Nat→Nat) (k:Nat) (l:List (CW × Nat)):cvS (fun x=>f x*k) l=cvS f l*k:=by
 induction l with
 | nil=>simp [cvS]
 | cons x l ih=>simp only [cvS,ih,Nat.add_mul]
theorem cvS_add (f g:CW × Nat→Nat) (l:List (CW × Nat)):cvS (fun x=>f x+g x) l=cvS f l+cvS g l:=by
 induction l with
 | nil=>rfl
 | cons x l ih=>simp only [cvS,ih]; omega
theorem cvS_congr {f g:CW × Nat→Nat} {l:List (CW × Nat)} (h:∀ x∈l,f x=g x):cvS f l=cvS g l:=by
 induction l with
 | nil=>rfl
 | cons x l ih=>simp only [cvS]; rw [h x (by simp),ih fun y hy=>h y (by simp [hy])]
def CvInv (L:Nat) (l:List CW):Prop:=∃ ql:List (CW × Nat),ql.map Prod.fst=l∧∃ P,0 < P∧(∀ x∈ql,x.2*x.1.M=P)∧cvS (fun x=>x.1.W*x.1.c*x.2) ql≤L*P
theorem CvInv.nil (L:Nat):CvInv L []:=⟨[],rfl,1,by omega,(fun _ h=>by cases h),Nat.zero_le _⟩
theorem CvInv.add {L:Nat} {l:List CW} (h:CvInv L l) (st W M:Nat) (hM:1≤M):CvInv (L+W) (l ++ [⟨st,W,M,M⟩]):=by
 obtain ⟨ql,hl,P,hP,hq,hs⟩:=h
 refine ⟨ql.map (fun x=>(x.1,x.2*M)) ++ [(⟨st,W,M,M⟩,P)],?_,P*M,Nat.mul_pos hP hM,fun x hx => ?_,?_⟩
 ·rw [List.map_append,List.map_map]
  show ql.map Prod.fst ++ _=_
  rw [hl]; rfl
 ·rcases List.mem_append.1 hx with hx | hx
  ·obtain ⟨y,hy,rfl⟩:=List.mem_map.1 hx
   show y.2*M*y.1.M=P*M
   rw [← hq y hy,Nat.mul_right_comm]
  ·rw [List.mem_singleton] at hx; subst hx; rfl
 ·rw [cvS_append,cvS_map]
  show cvS (fun x=>x.1.W*x.1.c*(x.2*M)) ql+(W*M*P+0)≤_
  rw [cvS_congr (g:=fun x=>x.1.W*x.1.c*x.2*M) fun x _=>(Nat.mul_assoc _ _ _).symm,cvS_mul]
  have h1:=Nat.mul_le_mul_right M hs
  have h2:L*P*M=L*(P*M):=Nat.mul_assoc _ _ _
  have h3:W*M*P=W*(P*M):=by rw [Nat.mul_assoc,Nat.mul_comm M P]
  rw [Nat.add_mul]
  omega
def cvCut (b d t:Nat) (x:CW):CW:=if b≤x.st+d then { x with c:=t } else x
def cvSc (b d:Nat) (sc:CW→Nat):List CW→Nat
 | []=>0
 | x :: l=>(if b≤x.st+d then sc x else 0)+cvSc b d sc l
theorem cvSc_le {b d D k P:Nat} {sc:CW→Nat}:∀ {ql:List (CW × Nat)},(∀ x∈ql,x.2*x.1.M=P)→(∀ x∈ql,sc x.1*x.1.M≤x.1.W*D) →
  cvSc b d sc (ql.map Prod.fst)*k*P≤cvS (fun x=>if b≤x.1.st+d then x.1.W*k*x.2 else 0) ql*D
 | [],_,_=>by simp [cvSc,cvS]
 | x :: ql,hq,hs=>by
  have ih:=cvSc_le (ql:=ql) (b:=b) (d:=d) (k:=k) (fun y hy=>hq y (by simp [hy])) (fun y hy=>hs y (by simp [hy]))
  simp only [List.map_cons,cvSc,cvS]
  rw [Nat.add_mul,Nat.add_mul,Nat.add_mul]
  refine Nat.add_le_add ?_ ih
  split
  ·have h1:=Nat.mul_le_mul_right (k*x.2) (hs x (by simp))
   rw [← hq x (by simp)]
   calc sc x.1*k*(x.2*x.1.M)=sc x.1*x.1.M*(k*x.2):=by simp only [Nat.mul_comm,Nat.mul_left_comm]
    _≤x.1.W*D*(k*x.2):=h1
    _=x.1.W*k*x.2*D:=by simp only [Nat.mul_comm,Nat.mul_left_comm]
  ·simp
theorem CvInv.cut {L a b d m t D:Nat} {sc:CW→Nat} {l:List CW} (h:CvInv L l) (ht:t≤m) (hD:0 < D) (hw:∀ x∈l,b≤x.st+d→x.c=m) (hsc:∀ x∈l,sc x*x.M≤x.W*D)
  (ha:a*D≤cvSc b d sc l*(m - t)):CvInv (L - a) (l.map (cvCut b d t)):=by
 obtain ⟨ql,hl,P,hP,hq,hs⟩:=h
 have hm:∀ x∈ql,x.1∈l:=fun x hx=>by rw [← hl]; exact List.mem_map_of_mem hx
 refine ⟨ql.map (fun x=>(cvCut b d t x.1,x.2)),?_,P,hP,fun x hx => ?_,?_⟩
 ·rw [List.map_map,← hl,List.map_map]; rfl
 ·obtain ⟨y,hy,rfl⟩:=List.mem_map.1 hx
  show y.2*(cvCut b d t y.1).M=P
  rw [← hq y hy]; unfold cvCut; split <;> rfl
 ·rw [cvS_map]
  have hB:=cvSc_le (b:=b) (d:=d) (k:=m - t) hq (fun x hx=>hsc _ (hm x hx))
  rw [hl] at hB
  have h1:a*P≤cvS (fun x=>if b≤x.1.st+d then x.1.W*(m - t)*x.2 else 0) ql:=by
   have h2:=Nat.mul_le_mul_right P ha
   have h3:a*P*D≤cvS (fun x=>if b≤x.1.st+d then x.1.W*(m - t)*x.2 else 0) ql*D:=by
    rw [Nat.mul_right_comm]; exact Nat.le_trans h2 hB
   exact Nat.le_of_mul_le_mul_right h3 hD
  have h4:cvS (fun x=>(cvCut b d t x.1).W*(cvCut b d t x.1).c*x.2) ql+cvS (fun x=>if b≤x.1.st+d then x.1.W*(m - t)*x.2 else 0) ql=cvS (fun x=>x.1.W*x.1.c*x.2) ql:=by
   rw [← cvS_add]
   refine cvS_congr fun x hx => ?_
   by_cases hb:b≤x.1.st+d
   ·simp only [cvCut,if_pos hb,hw _ (hm x hx) hb]
    rw [← Nat.add_mul,← Nat.mul_add]
    congr 2; omega
   ·simp only [cvCut,if_neg hb]; omega
  rw [Nat.sub_mul]
  show cvS (fun x=>(cvCut b d t x.1).W*(cvCut b d t x.1).c*x.2) ql≤_
  omega
def cvPay:List CW→Nat
 | []=>0
 | x :: l=>x.W*x.c / x.M+cvPay l
theorem CvInv.pays {L:Nat} {l:List CW} (h:CvInv L l):cvPay l≤L:=by
 obtain ⟨ql,rfl,P,hP,hq,hs⟩:=h
 have h1:cvPay (ql.map Prod.fst)*P≤cvS (fun x=>x.1.W*x.1.c*x.2) ql:=by
  clear hs
  induction ql with
  | nil=>simp [cvPay]
  | cons x l ih =>
   have:=ih fun y hy=>hq y (by simp [hy])
   simp only [List.map_cons,cvPay,cvS]
   rw [Nat.add_mul]
   refine Nat.add_le_add ?_ this
   rw [← hq x (by simp)]
   have h2:=Nat.mul_le_mul_right x.2 (Nat.div_mul_le_self (x.1.W*x.1.c) x.1.M)
   calc x.1.W*x.1.c / x.1.M*(x.2*x.1.M)=x.1.W*x.1.c / x.1.M*x.1.M*x.2:=by rw [Nat.mul_assoc,Nat.mul_comm x.2]
    _≤_:=h2
 exact Nat.le_of_mul_le_mul_right (Nat.le_trans h1 hs) hP
theorem dn_fit {a t f:W4} (ha:a.Ok) (h:uN t≤uN f) (hf:uN f≠0):uN a*uN t / uN f≤uN a∧uN (dnW a t f)=uN a*uN t / uN f:=by
 have h1:uN a*uN t / uN f≤uN a:=Nat.div_le_of_le_mul (by rw [Nat.mul_comm (uN f)]; exact Nat.mul_le_mul_left _ h)
 have h2:=uN_lt ha
 refine ⟨h1,?_⟩
 unfold dnW toW
 rw [if_neg hf,if_pos (show uN a*uN t / uN f < W256 from Nat.lt_of_le_of_lt h1 h2)]
 exact uN_of (Nat.lt_of_le_of_lt h1 h2)
theorem dn_mul (a t f:W4):uN (dnW a t f)*uN f≤uN a*uN t:=by
 unfold dnW
 split
 ·rename_i h; rw [h]; simp
 ·unfold toW
  split
  ·rename_i h; rw [uN_of h]; exact Nat.div_mul_le_self _ _
  ·show uN (0,0,0,0)*_≤_
   rw [show uN (0,0,0,0)=0 from by decide,Nat.zero_mul]; exact Nat.zero_le _
theorem pays_nat {x:Ex} (hwo:x.wo.Ok) (h0:x.op≠0) {c:W4} (hM:uN x.mx≠0) (hc:uN c≤uN x.mx):uN (paysW x c)=uN x.wo*uN c / uN x.mx:=by
 unfold paysW scW
 rw [if_neg h0,if_neg (Nat.not_lt.2 hc),if_neg hM]
 exact (dn_fit hwo hc hM).2
theorem sd_nat (a m:W4):uN (sdW a m)*uN m≤uN a*1000000000000000000000000000000000000:=by
 unfold sdW
 split
 ·split
  ·rw [show uN (0,0,0,0)=0 from by decide,Nat.zero_mul]; exact Nat.zero_le _
  ·have:=dn_mul a sqW m
   rwa [sq_nat] at this
 ·rw [show uN (0,0,0,0)=0 from by decide,Nat.zero_mul]; exact Nat.zero_le _
theorem min_nat (a b:W4):uN (minW a b)≤uN a∧uN (minW a b)≤uN b:=by
 unfold minW
 split
 ·rename_i h; exact ⟨Nat.le_refl _,h⟩
 ·rename_i h; exact ⟨by omega,Nat.le_refl _⟩
theorem cutW_nat (s:St) (sl:W4) (t:Int) (fr tq:W4):uN (xcutW s sl t fr tq)*1000000000000000000000000000000000000≤uN sl*uN (gapW fr tq)∧uN (xcutW s sl t fr tq)≤uN (s.left t):=by
 unfold xcutW
 refine ⟨Nat.le_trans (Nat.mul_le_mul_right _ (min_nat _ _).1) ?_,(min_nat _ _).2⟩
 have:=dn_mul sl (gapW fr tq) sqW
 rwa [sq_nat] at this
theorem gap_nat {a b:W4} (ha:a.Ok) (hb:b.Ok) (h:uN b≤uN a):uN (gapW a b)=uN a - uN b:=by
 have hc:=(uSubC_iff ha hb).2 h
 unfold gapW
 rw [if_pos hc]
 have:=uSub_dif ha hb
 rw [hc] at this
 omega
theorem add_nat {a b:W4} (h:uAddC a b=0):uN (uAddS a b)=uN a+uN b:=by
 have:=uAdd_sum (x:=a) (y:=b)
 rw [h] at this
 omega
theorem hset_at {s0:St} (h0:XB s0) {o t:Int} (ho:0≤o) (ht:0≤t) (ho':I63 o) (ht':I63 t) {i:Nat} (hi:i < 9223372036854775808) {b:Nat} (hb:b≤1099511627776) {a:W4} (ha:a.Ok) :
  (s0.set (keyL 16 ([o,t] ++ [(i:Int)])) (ptB b a)).hlen 16 [o,t]=s0.hlen 16 [o,t]∧(∀ j:Nat,j < 9223372036854775808→(s0.set (keyL 16 ([o,t] ++ [(i:Int)])) (ptB b a)).hpI 16 [o,t] j=if j=i then (b,a) else s0.hpI 16 [o,t] j):=by
 have hnn:=nn2 ho ht
 have hin2:∀ x∈[o,t],0≤x∧I63 x:=fun x hx=>by
  simp only [List.mem_cons,List.not_mem_nil,or_false] at hx
  rcases hx with rfl | rfl <;> exact ⟨by assumption,by assumption⟩
 have hin3:∀ {i:Nat},i < 9223372036854775808→∀ x∈[o,t] ++ [(i:Int)],0≤x∧I63 x:=fun e x hx=>by
  rcases List.mem_append.1 hx with h | h
  ·exact hin2 x h
  ·rw [List.mem_singleton] at h; subst h; exact ⟨by omega,by unfold I63; omega⟩
 have hk0:keyL 16 ([o,t] ++ [(i:Int)])≠emptyB:=kpos 16 hnn (by omega)
 rw [set_put _ hk0 (ptB_some _ _)]
 refine ⟨?_,fun j hj => ?_⟩
 ·unfold St.hlen St.int
  rw [val_put s0 h0.srt _ _ _ hk0,if_neg (keyI_ne (by decide) (by decide) (hin3 hi) hin2 (by simp))]
 ·unfold St.hpI
  rw [val_put s0 h0.srt _ _ _ hk0]
  by_cases e:j=i
  ·subst e
   rw [if_pos rfl,if_pos rfl,hpt_ptB (by omega) ha]
  ·rw [if_neg e,if_neg]
   intro e2
   have:=keyI_inj (by decide) (by decide) (hin3 hi) (hin3 hj) e2
   simp only [List.cons_append,List.nil_append,List.cons.injEq,and_true,true_and] at this
   omega
theorem hnew_at {k:Nat} {s:St} (hg:XG k s) (hk:k < 1000000000000) {o t:Int} (ho:0≤o) (ht:0≤t) (ho':I63 o) (ht':I63 t) {b:Nat} (hb:b≤1099511627776) {a:W4} (ha:a.Ok) :
  (s.hnew 16 [o,t] b a).hlen 16 [o,t]=s.hlen 16 [o,t]+1∧(∀ j:Nat,j < 9223372036854775808→(s.hnew 16 [o,t] b a).hpI 16 [o,t] j=if j=s.hlen 16 [o,t] then (b,a) else s.hpI 16 [o,t] j):=by
 have hnn:=nn2 ho ht
 have hlen0:=hg.hlen o t ho ht ho' ht'
 have hin2:∀ x∈[o,t],0≤x∧I63 x:=fun x hx=>by
  simp only [List.mem_cons,List.not_mem_nil,or_false] at hx
  rcases hx with rfl | rfl <;> exact ⟨by assumption,by assumption⟩
 have hbI:XB (s.setInt (keyL 16 [o,t]) (((s.hlen 16 [o,t]:Nat):Int)+1)):=hg.b.put (key25 16 (by simp)) _
 have hLI:(s.setInt (keyL 16 [o,t]) (((s.hlen 16 [o,t]:Nat):Int)+1)).hlen 16 [o,t]=s.hlen 16 [o,t]+1:=by
  unfold St.hlen
  rw [int_setInt s hg.b.srt _ _ (keyL_some 16 hnn) _ (by unfold St.hlen at hlen0; omega),if_pos rfl]
  omega
 have hPI:∀ j:Nat,j < 9223372036854775808→(s.setInt (keyL 16 [o,t]) (((s.hlen 16 [o,t]:Nat):Int)+1)).hpI 16 [o,t] j=s.hpI 16 [o,t] j:=fun j hj=>by
  unfold St.hpI St.setInt
  rw [val_put s hg.b.srt _ _ _ (keyL_some 16 hnn),if_neg]
  refine keyI_ne (by decide) (by decide) hin2 (fun x hx => ?_) (by simp)
  rcases List.mem_append.1 hx with h | h
  ·exact hin2 x h
  ·rw [List.mem_singleton] at h; subst h; exact ⟨by omega,by unfold I63; omega⟩
 obtain ⟨c1,c2⟩:=hset_at hbI ho ht ho' ht' (i:=s.hlen 16 [o,t]) (by omega) hb ha
 unfold St.hnew
 refine ⟨by rw [c1,hLI],fun j hj => ?_⟩
 rw [c2 j hj,hPI j hj]
theorem hat_of {k:Nat} {s:St} (hg:XG k s) {o t:Int} (ho:I63 o) (ht:I63 t) (b:Int):∃ r,r≤s.hlen 16 [o,t]∧(∀ i:Nat,i < r→((s.hpI 16 [o,t] i).1:Int)≤b)∧(∀ i:Nat,r≤i→i < s.hlen 16 [o,t]→¬ ((s.hpI 16 [o,t] i).1:Int)≤b)∧s.hat 16 [o,t] b=if r=0 then (0,0,0,0) else (s.hpI 16 [o,t] ((r - 1:Nat):Int)).2:=by
 have hm:=hg.mono' ho ht
 obtain ⟨a1,a2,a3⟩:=bsr_inv (p:=fun i=>decide (((s.hpI 16 [o,t] (i:Nat)).1:Int)≤b)) (n:=s.hlen 16 [o,t]) (fun i j hij hj hp=>by
  have h1:=hm i j hij hj
  have h2:=of_decide_eq_true hp
  exact decide_eq_true (by omega)) (s.hlen 16 [o,t]) 0 (s.hlen 16 [o,t]) (by omega) (Nat.zero_le _) (Nat.le_refl _) (fun i hi=>absurd hi (by omega)) (fun i h1 h2=>absurd h2 (by omega))
 refine ⟨s.hpos 16 [o,t] b,a3,fun i hi=>of_decide_eq_true (a1 i hi),fun i h1 h2=>of_decide_eq_false (a2 i h1 h2),?_⟩
 unfold St.hat
 by_cases h0:s.hpos 16 [o,t] b=0
 ·rw [if_pos h0,if_pos h0]
 ·rw [if_neg h0,if_neg h0]
  rw [show ((s.hpos 16 [o,t] b:Nat):Int) - 1=((s.hpos 16 [o,t] b - 1:Nat):Int) by omega]
theorem push_hat {k:Nat} {s:St} (hg:XG k s) (hk:k < 1000000000000) {o t:Int} (ho:0≤o) (ht:0≤t) (ho':I63 o) (ht':I63 t) {b:Nat} (hb:b≤1099511627776) {a:W4} (ha:a.Ok) (he:hpuE s 16 [o,t] b=0) :
  (hpuSt s 16 [o,t] b a).hlast 16 [o,t]=a∧∀ x:Int,(hpuSt s 16 [o,t] b a).hat 16 [o,t] x=if (b:Int)≤x then a else s.hat 16 [o,t] x:=by
 have hlen0:=hg.hlen o t ho ht ho' ht'
 have hgp:=hg.push hk ho ht ho' ht' hb ha
 have hlast:0 < s.hlen 16 [o,t]→(s.hpI 16 [o,t] ((s.hlen 16 [o,t] - 1:Nat):Int))=s.hpL 16 [o,t]:=fun h=>by
  unfold St.hpL St.hpI
  rw [show ((s.hlen 16 [o,t]:Nat):Int) - 1=((s.hlen 16 [o,t] - 1:Nat):Int) by omega]
 have hle:0 < s.hlen 16 [o,t]→(s.hpL 16 [o,t]).1≤b:=fun h=>by
  unfold hpuE at he
  refine Nat.le_of_not_lt fun hl => ?_
  rw [if_pos ⟨h,hl⟩] at he; cases he
 have hbl:∀ i:Nat,i < s.hlen 16 [o,t]→(s.hpI 16 [o,t] i).1≤b:=fun i hi=>by
  have h1:=hg.mono' ho' ht' i (s.hlen 16 [o,t] - 1) (by omega) (by omega)
  rw [hlast (by omega)] at h1
  exact Nat.le_trans h1 (hle (by omega))
 have hl2:∀ s':St,s'.hlast 16 [o,t]=if s'.hlen 16 [o,t]=0 then (0,0,0,0) else (s'.hpI 16 [o,t] ((s'.hlen 16 [o,t] - 1:Nat):Int)).2:=fun s'=>by
  unfold St.hlast
  by_cases h:s'.hlen 16 [o,t]=0
  ·rw [if_pos h,if_pos h]
  ·rw [if_neg h,if_neg h]
   unfold St.hpI
   rw [show ((s'.hlen 16 [o,t]:Nat):Int) - 1=((s'.hlen 16 [o,t] - 1:Nat):Int) by omega]
 have go:∀ (s':St) (m:Nat),XG (k+1) s'→m≤s.hlen 16 [o,t]→s'.hlen 16 [o,t]=m+1→(∀ i:Nat,m≤i→i < s.hlen 16 [o,t]→(s.hpI 16 [o,t] i).1=b)→(∀ j:Nat,j < 9223372036854775808→s'.hpI 16 [o,t] j=if j=m then (b,a) else s.hpI 16 [o,t] j) →
   s'.hlast 16 [o,t]=a∧∀ x:Int,s'.hat 16 [o,t] x=if (b:Int)≤x then a else s.hat 16 [o,t] x:=fun s' m hg' hm hn hsame hI=>by
  refine ⟨by rw [hl2,hn,if_neg (by omega),show m+1 - 1=m by omega,hI m (by omega),if_pos rfl],fun x => ?_⟩
  obtain ⟨r',h1,h2,h3,h4⟩:=hat_of hg' ho' ht' x
  obtain ⟨r,g1,g2,g3,g4⟩:=hat_of hg ho' ht' x
  rw [h4,g4]
  by_cases hx:(b:Int)≤x
  ·rw [if_pos hx]
   have hr':r'=m+1:=by
    refine Nat.le_antisymm (by omega) (Nat.le_of_not_lt fun hlt => ?_)
    refine h3 r' (Nat.le_refl _) (by omega) ?_
    rw [hI r' (by omega)]
    split
    ·exact hx
    ·have:=hbl r' (by omega); omega
   rw [hr',if_neg (by omega),show m+1 - 1=m by omega,hI m (by omega),if_pos rfl]
  ·rw [if_neg hx]
   have hrm:r≤m:=Nat.le_of_not_lt fun hlt=>by
    have h5:=g2 m hlt
    rw [hsame m (Nat.le_refl _) (by omega)] at h5
    exact hx h5
   have hr'm:r'≤m:=Nat.le_of_not_lt fun hlt=>by
    have h5:=h2 m hlt
    rw [hI m (by omega),if_pos rfl] at h5
    exact hx h5
   have hrr:r'=r:=by
    rcases Nat.lt_trichotomy r' r with h | h | h
    ·have h5:=g2 r' h
     have h6:=h3 r' (Nat.le_refl _) (by omega)
     rw [hI r' (by omega),if_neg (by omega)] at h6
     exact absurd h5 h6
    ·exact h
    ·have h5:=h2 r h
     rw [hI r (by omega),if_neg (by omega)] at h5
     exact absurd h5 (g3 r (Nat.le_refl _) (by omega))
   rw [hrr]
   by_cases h0:r=0
   ·rw [if_pos h0,if_pos h0]
   ·rw [if_neg h0,if_neg h0,hI (r - 1) (by omega),if_neg (by omega)]
 revert hgp
 unfold hpuSt
 by_cases hp:0 < s.hlen 16 [o,t]
 ·rw [if_pos hp,if_neg (Nat.not_lt.2 (hle hp))]
  by_cases hb2:b=(s.hpL 16 [o,t]).1
  ·rw [if_pos hb2]
   intro hgp
   rw [show ((s.hlen 16 [o,t]:Nat):Int) - 1=((s.hlen 16 [o,t] - 1:Nat):Int) by omega] at hgp ⊢
   obtain ⟨c1,c2⟩:=hset_at hg.b ho ht ho' ht' (i:=s.hlen 16 [o,t] - 1) (by omega) hb ha
   exact go _ (s.hlen 16 [o,t] - 1) hgp (by omega) (by rw [c1]; omega) (fun i h1 h2=>by
    rw [show i=s.hlen 16 [o,t] - 1 by omega,hlast hp]; exact hb2.symm) c2
  ·rw [if_neg hb2]
   by_cases ha2:a=(s.hpL 16 [o,t]).2
   ·rw [if_pos ha2]
    intro _
    refine ⟨by rw [hl2,if_neg (by omega),hlast hp]; exact ha2.symm,fun x => ?_⟩
    by_cases hx:(b:Int)≤x
    ·rw [if_pos hx]
     obtain ⟨r,g1,g2,g3,g4⟩:=hat_of hg ho' ht' x
     have hr:r=s.hlen 16 [o,t]:=by
      refine Nat.le_antisymm g1 (Nat.le_of_not_lt fun hlt => ?_)
      refine g3 r (Nat.le_refl _) hlt ?_
      have:=hbl r hlt; omega
     rw [g4,hr,if_neg (by omega),hlast hp]; exact ha2.symm
    ·rw [if_neg hx]
   ·rw [if_neg ha2]
    intro hgp
    obtain ⟨c1,c2⟩:=hnew_at hg hk ho ht ho' ht' hb ha
    exact go _ (s.hlen 16 [o,t]) hgp (Nat.le_refl _) c1 (fun i h1 h2=>absurd h2 (by omega)) c2
 ·rw [if_neg hp]
  intro hgp
  obtain ⟨c1,c2⟩:=hnew_at hg hk ho ht ho' ht' hb ha
  exact go _ (s.hlen 16 [o,t]) hgp (Nat.le_refl _) c1 (fun i h1 h2=>absurd h2 (by omega)) c2
theorem ids_nil {s:St} (h:∀ n:Nat,n < 9223372036854775808→getE s.ents (keyL 15 [(n:Int)])=none) (P:List Nat→Bool):s.ids P = []:=by
 unfold St.ids
 refine List.filterMap_eq_nil_iff.2 fun x hx => ?_
 cases hi:idOf s P x with
 | none=>rfl
 | some z =>
  exfalso
  obtain ⟨n,hn,_,_⟩:=idOf_some hi
  obtain ⟨h1,h2⟩:=one_key hx hn
  have hm:x∈s.ents:=(List.mem_filter.1 hx).1
  have h3:=h n h1
  rw [getE_none] at h3
  exact h3 (List.mem_map.2 ⟨x,hm,h2⟩)
theorem xnote_same {k:Nat} {s:St} (hg:XG k s) {x:Ex} (hgd:x.good=true):Same [16] s (noteSt s x):=by
 obtain ⟨g1,g2,g3,g4,g5,_⟩:=Ex.good_at hgd
 unfold noteSt
 split
 ·exact Same.refl _ _
 ·split
  ·unfold hpuSt
   have hset:∀ i:Nat,Same [16] s (s.set (keyL 16 ([x.op,x.sg] ++ [(i:Int)])) (ptB x.bl.toNat (uAddS (s.hlast 16 [x.op,x.sg]) (sdW x.wo x.mx)))):=fun i=>by
    rw [set_put _ (kpos 16 (nn2 g3 (Int.le_trans (by decide) g2)) (by omega)) (ptB_some _ _)]
    exact hg.b.same (by decide) _ _
   have hnw:∀ a,Same [16] s (s.hnew 16 [x.op,x.sg] x.bl.toNat a):=fun a=>by
    unfold St.hnew
    have hb1:XB (s.setInt (keyL 16 [x.op,x.sg]) (((s.hlen 16 [x.op,x.sg]:Nat):Int)+1)):=hg.b.put (key25 16 (by simp)) _
    refine Same.trans (s1:=s.setInt (keyL 16 [x.op,x.sg]) (((s.hlen 16 [x.op,x.sg]:Nat):Int)+1)) (hg.b.same (n:=16) (by decide) [x.op,x.sg] _) ?_
    rw [set_put _ (kpos 16 (nn2 g3 (Int.le_trans (by decide) g2)) (by omega)) (ptB_some _ _)]
    exact hb1.same (by decide) _ _
   split
   ·rename_i h0
    split
    ·exact Same.refl _ _
    ·split
     ·have:=hset (s.hlen 16 [x.op,x.sg] - 1)
      rwa [show ((s.hlen 16 [x.op,x.sg] - 1:Nat):Int)=((s.hlen 16 [x.op,x.sg]:Nat):Int) - 1 by omega] at this
     ·split
      ·exact Same.refl _ _
      ·exact hnw _
   ·exact hnw _
  ·exact Same.refl _ _
theorem Same.hlast {T:List Nat} {s s':St} (h:Same T s s') (hT:16∉T) {o t:Int} (ho:0≤o) (ht:0≤t):s'.hlast 16 [o,t]=s.hlast 16 [o,t]:=by
 unfold St.hlast
 rw [h.hlen hT ho ht]
 by_cases h0:s.hlen 16 [o,t]=0
 ·rw [if_pos h0,if_pos h0]
 ·rw [if_neg h0,if_neg h0,show ((s.hlen 16 [o,t]:Nat):Int) - 1=((s.hlen 16 [o,t] - 1:Nat):Int) by omega,h.val (by decide) hT (nn3 ho ht _)]
theorem Same.hat {T:List Nat} {s s':St} (h:Same T s s') (hT:16∉T) {o t:Int} (ho:0≤o) (ht:0≤t) (b:Int):s'.hat 16 [o,t] b=s.hat 16 [o,t] b:=by
 have hp:s'.hpos 16 [o,t] b=s.hpos 16 [o,t] b:=by
  unfold St.hpos
  rw [h.hlen hT ho ht]
  congr 1
  funext i
  rw [h.hpI hT ho ht i]
 unfold St.hat
 rw [hp]
 by_cases h0:s.hpos 16 [o,t] b=0
 ·rw [if_pos h0,if_pos h0]
 ·rw [if_neg h0,if_neg h0,show ((s.hpos 16 [o,t] b:Nat):Int) - 1=((s.hpos 16 [o,t] b - 1:Nat):Int) by omega,h.hpI hT ho ht]
end Go.Proofs.YtnkilceibkkjlaaGreat
