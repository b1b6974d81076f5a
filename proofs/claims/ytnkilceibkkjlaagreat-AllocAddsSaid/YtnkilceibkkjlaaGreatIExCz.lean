/- What is proved here: plain arithmetic of ExitCovers: what is left covers what all that wait pay, as shares of one whole. Conditions: none. what a withdrawal pays: at most its worth, less at a less magnitude, all of it at its own. Conditions: words below 2^64. the amounts of ExitCovers as numbers: what one pays, what is scaled, what a cut takes. Conditions: words below 2^64. the history behind a push, for ExitCovers: w -/
import Derived.Test.YtnkilceibkkjlaaGreatIExEqB
import Derived.Test.YtnkilceibkkjlaaGreatILeast
set_option maxRecDepth 100000
set_option maxHeartbeats 16000000
namespace Go.Proofs.YtnkilceibkkjlaaGreat
open Go.RowKit
structure CW where
 st:Nat
 W:Nat
 M:Nat
 c:Nat
def cvS (f:CW × Nat→Nat):List (CW × Nat)→Nat
 | []=>0
 | x :: l=>f x+cvS f l
theorem cvS_append (f:CW × Nat→Nat) (l m:List (CW × Nat)):cvS f (l ++ m)=cvS f l+cvS f m:=by
 induction l with
 | nil=>simp [cvS]
 | cons x l ih=>simp only [List.cons_append,cvS,ih]; omega
theorem cvS_map (f:CW × Nat→Nat) (g:CW × Nat→CW × Nat) (l:List (CW × Nat)):cvS f (l.map g)=cvS (fun x=>f (g x)) l:=by
 induction l with
 | nil=>rfl
 | cons x l ih=>simp only [List.map_cons,cvS,ih]
theorem cvS_mul (f:CW × Nat→Nat) (k:Nat) (l:List (CW × Nat)):cvS (fun x=>f x*k) l=cvS f l*k:=by
 induction l with
 | nil=>simp [cvS]
 | cons x l ih=>simp only [cvS,ih,Nat.add_mul]
theorem cvS_add (f g:CW × Nat→Nat) (l:List (CW × Nat)):cvS (fun x=>f x+g x) l=cvS f l+cvS g l:=by
 induction l with
 | nil=>rfl
 | cons x l ih=>simp only [cvS,ih]; omega
theorem cvS_congr {f g:CW × Nat→Nat} {l:List (CW × Nat)} (h:∀ x∈l,f x=g x):cvS f l=cvS g l:=by
 induction l with
 | nil=>rfl
 | cons x l ih=>simp only [cvS]; rw [h x (by simp),ih fun y hy=>h y (by simp [hy])]
def CvInv (L:Nat) (l:List CW):Prop:=∃ ql:List (CW × Nat),ql.map Prod.fst=l∧∃ P,0 < P∧(∀ x∈ql,x.2*x.1.M=P)∧cvS (fun x=>x.1.W*x.1.c*x.2) ql≤L*P
theorem CvInv.nil (L:Nat):CvInv L []:=⟨[],rfl,1,by omega,(fun _ h=>by cases h),Nat.zero_le _⟩
theorem CvInv.add {L:Nat} {l:List CW} (h:CvInv L l) (st W M:Nat) (hM:1≤M):CvInv (L+W) (l ++ [⟨st,W,M,M⟩]):=by
 obtain ⟨ql,hl,P,hP,hq,hs⟩:=h
 refine ⟨ql.map (fun x=>(x.1,x.2*M)) ++ [(⟨st,W,M,M⟩,P)],?_,P*M,Nat.mul_pos hP hM,fun x hx => ?_,?_⟩
 ·rw [List.map_append,List.map_map]
  show ql.map Prod.fst ++ _=_
  rw [hl]; rfl
 ·rcases List.mem_append.1 hx with hx | hx
  ·obtain ⟨y,hy,rfl⟩:=List.mem_map.1 hx
   show y.2*M*y.1.M=P*M
   rw [← hq y hy,Nat.mul_right_comm]
  ·rw [List.mem_singleton] at hx; subst hx; rfl
 ·rw [cvS_append,cvS_map]
  show cvS (fun x=>x.1.W*x.1.c*(x.2*M)) ql+(W*M*P+0)≤_
  rw [cvS_congr (g:=fun x=>x.1.W*x.1.c*x.2*M) fun x _=>(Nat.mul_assoc _ _ _).symm,cvS_mul]
  have h1:=Nat.mul_le_mul_right M hs
  have h2:L*P*M=L*(P*M):=Nat.mul_assoc _ _ _
  have h3:W*M*P=W*(P*M):=by rw [Nat.mul_assoc,Nat.mul_comm M P]
  rw [Nat.add_mul]
  omega
def cvCut (b d t:Nat) (x:CW):CW:=if b≤x.st+d then { x with c:=t } else x
def cvSc (b d:Nat) (sc:CW→Nat):List CW→Nat
 | []=>0
 | x :: l=>(if b≤x.st+d then sc x else 0)+cvSc b d sc l
theorem cvSc_le {b d D k P:Nat} {sc:CW→Nat}:∀ {ql:List (CW × Nat)},(∀ x∈ql,x.2*x.1.M=P)→(∀ x∈ql,sc x.1*x.1.M≤x.1.W*D) →
  cvSc b d sc (ql.map Prod.fst)*k*P≤cvS (fun x=>if b≤x.1.st+d then x.1.W*k*x.2 else 0) ql*D
 | [],_,_=>by simp [cvSc,cvS]
 | x :: ql,hq,hs=>by
  have ih:=cvSc_le (ql:=ql) (b:=b) (d:=d) (k:=k) (fun y hy=>hq y (by simp [hy])) (fun y hy=>hs y (by simp [hy]))
  simp only [List.map_cons,cvSc,cvS]
  rw [Nat.add_mul,Nat.add_mul,Nat.add_mul]
  refine Nat.add_le_add ?_ ih
  split
  ·have h1:=Nat.mul_le_mul_right (k*x.2) (hs x (by simp))
   rw [← hq x (by simp)]
   calc sc x.1*k*(x.2*x.1.M)=sc x.1*x.1.M*(k*x.2):=by simp only [Nat.mul_comm,Nat.mul_left_comm]
    _≤x.1.W*D*(k*x.2):=h1
    _=x.1.W*k*x.2*D:=by simp only [Nat.mul_comm,Nat.mul_left_comm]
  ·simp
theorem CvInv.cut {L a b d m t D:Nat} {sc:CW→Nat} {l:List CW} (h:CvInv L l) (ht:t≤m) (hD:0 < D) (hw:∀ x∈l,b≤x.st+d→x.c=m) (hsc:∀ x∈l,sc x*x.M≤x.W*D)
  (ha:a*D≤cvSc b d sc l*(m - t)):CvInv (L - a) (l.map (cvCut b d t)):=by
 obtain ⟨ql,hl,P,hP,hq,hs⟩:=h
 have hm:∀ x∈ql,x.1∈l:=fun x hx=>by rw [← hl]; exact List.mem_map_of_mem hx
 refine ⟨ql.map (fun x=>(cvCut b d t x.1,x.2)),?_,P,hP,fun x hx => ?_,?_⟩
 ·rw [List.map_map,← hl,List.map_map]; rfl
 ·obtain ⟨y,hy,rfl⟩:=List.mem_map.1 hx
  show y.2*(cvCut b d t y.1).M=P
  rw [← hq y hy]; unfold cvCut; split <;> rfl
 ·rw [cvS_map]
  have hB:=cvSc_le (b:=b) (d:=d) (k:=m - t) hq (fun x hx=>hsc _ (hm x hx))
  rw [hl] at hB
  have h1:a*P≤cvS (fun x=>if b≤x.1.st+d then x.1.W*(m - t)*x.2 else 0) ql:=by
   have h2:=Nat.mul_le_mul_right P ha
   have h3:a*P*D≤cvS (fun x=>if b≤x.1.st+d then x.1.W*(m - t)*x.2 else 0) ql*D:=by
    rw [Nat.mul_right_comm]; exact Nat.le_trans h2 hB
   exact Nat.le_of_mul_le_mul_right h3 hD
  have h4:cvS (fun x=>(cvCut b d t x.1).W*(cvCut b d t x.1).c*x.2) ql+cvS (fun x=>if b≤x.1.st+d then x.1.W*(m - t)*x.2 else 0) ql=cvS (fun x=>x.1.W*x.1.c*x.2) ql:=by
   rw [← cvS_add]
   refine cvS_congr fun x hx => ?_
   by_cases hb:b≤x.1.st+d
   ·simp only [cvCut,if_pos hb,hw _ (hm x hx) hb]
    rw [← Nat.add_mul,← Nat.mul_add]
    congr 2; omega
   ·simp only [cvCut,if_neg hb]; omega
  rw [Nat.sub_mul]
  show cvS (fun x=>(cvCut b d t x.1).W*(cvCut b d t x.1).c*x.2) ql≤_
  omega
end Go.Proofs.YtnkilceibkkjlaaGreat
namespace Go.Proofs.YtnkilceibkkjlaaGreat
open Go.RowKit
theorem dn_mul (a t f:W4):uN (dnW a t f)*uN f≤uN a*uN t:=by
 unfold dnW
 split
 ·rename_i h; rw [h]; simp
 ·unfold toW
  split
  ·rename_i h; rw [uN_of h]; exact Nat.div_mul_le_self _ _
  ·show uN (0,0,0,0)*_≤_
   rw [show uN (0,0,0,0)=0 from by decide,Nat.zero_mul]; exact Nat.zero_le _
theorem sd_nat (a m:W4):uN (sdW a m)*uN m≤uN a*1000000000000000000000000000000000000:=by
 unfold sdW
 split
 ·split
  ·rw [show uN (0,0,0,0)=0 from by decide,Nat.zero_mul]; exact Nat.zero_le _
  ·have:=dn_mul a sqW m
   rwa [sq_nat] at this
 ·rw [show uN (0,0,0,0)=0 from by decide,Nat.zero_mul]; exact Nat.zero_le _
theorem min_nat (a b:W4):uN (minW a b)≤uN a∧uN (minW a b)≤uN b:=by
 unfold minW
 split
 ·rename_i h; exact ⟨Nat.le_refl _,h⟩
 ·rename_i h; exact ⟨by omega,Nat.le_refl _⟩
theorem cutW_nat (s:St) (sl:W4) (t:Int) (fr tq:W4):uN (xcutW s sl t fr tq)*1000000000000000000000000000000000000≤uN sl*uN (gapW fr tq)∧uN (xcutW s sl t fr tq)≤uN (s.left t):=by
 unfold xcutW
 refine ⟨Nat.le_trans (Nat.mul_le_mul_right _ (min_nat _ _).1) ?_,(min_nat _ _).2⟩
 have:=dn_mul sl (gapW fr tq) sqW
 rwa [sq_nat] at this
theorem gap_nat {a b:W4} (ha:a.Ok) (hb:b.Ok) (h:uN b≤uN a):uN (gapW a b)=uN a - uN b:=by
 have hc:=(uSubC_iff ha hb).2 h
 unfold gapW
 rw [if_pos hc]
 have:=uSub_dif ha hb
 rw [hc] at this
 omega
theorem add_nat {a b:W4} (h:uAddC a b=0):uN (uAddS a b)=uN a+uN b:=by
 have:=uAdd_sum (x:=a) (y:=b)
 rw [h] at this
 omega
theorem hset_at {s0:St} (h0:XB s0) {o t:Int} (ho:0≤o) (ht:0≤t) (ho':I63 o) (ht':I63 t) {i:Nat} (hi:i < 9223372036854775808) {b:Nat} (hb:b≤1099511627776) {a:W4} (ha:a.Ok) :
  (s0.set (keyL 16 ([o,t] ++ [(i:Int)])) (ptB b a)).hlen 16 [o,t]=s0.hlen 16 [o,t]∧(∀ j:Nat,j < 9223372036854775808→(s0.set (keyL 16 ([o,t] ++ [(i:Int)])) (ptB b a)).hpI 16 [o,t] j=if j=i then (b,a) else s0.hpI 16 [o,t] j):=by
 have hnn:=nn2 ho ht
 have hin2:∀ x∈[o,t],0≤x∧I63 x:=fun x hx=>by
  simp only [List.mem_cons,List.not_mem_nil,or_false] at hx
  rcases hx with rfl | rfl <;> exact ⟨by assumption,by assumption⟩
 have hin3:∀ {i:Nat},i < 9223372036854775808→∀ x∈[o,t] ++ [(i:Int)],0≤x∧I63 x:=fun e x hx=>by
  rcases List.mem_append.1 hx with h | h
  ·exact hin2 x h
  ·rw [List.mem_singleton] at h; subst h; exact ⟨by omega,by unfold I63; omega⟩
 have hk0:keyL 16 ([o,t] ++ [(i:Int)])≠emptyB:=kpos 16 hnn (by omega)
 rw [set_put _ hk0 (ptB_some _ _)]
 refine ⟨?_,fun j hj => ?_⟩
 ·unfold St.hlen St.int
  rw [val_put s0 h0.srt _ _ _ hk0,if_neg (keyI_ne (by decide) (by decide) (hin3 hi) hin2 (by simp))]
 ·unfold St.hpI
  rw [val_put s0 h0.srt _ _ _ hk0]
  by_cases e:j=i
  ·subst e
   rw [if_pos rfl,if_pos rfl,hpt_ptB (by omega) ha]
  ·rw [if_neg e,if_neg]
   intro e2
   have:=keyI_inj (by decide) (by decide) (hin3 hi) (hin3 hj) e2
   simp only [List.cons_append,List.nil_append,List.cons.injEq,and_true,true_and] at this
   omega
theorem hnew_at {k:Nat} {s:St} (hg:XG k s) (hk:k < 1000000000000) {o t:Int} (ho:0≤o) (ht:0≤t) (ho':I63 o) (ht':I63 t) {b:Nat} (hb:b≤1099511627776) {a:W4} (ha:a.Ok) :
  (s.hnew 16 [o,t] b a).hlen 16 [o,t]=s.hlen 16 [o,t]+1∧(∀ j:Nat,j < 9223372036854775808→(s.hnew 16 [o,t] b a).hpI 16 [o,t] j=if j=s.hlen 16 [o,t] then (b,a) else s.hpI 16 [o,t] j):=by
 have hnn:=nn2 ho ht
 have hlen0:=hg.hlen o t ho ht ho' ht'
 have hin2:∀ x∈[o,t],0≤x∧I63 x:=fun x hx=>by
  simp only [List.mem_cons,List.not_mem_nil,or_false] at hx
  rcases hx with rfl | rfl <;> exact ⟨by assumption,by assumption⟩
 have hbI:XB (s.setInt (keyL 16 [o,t]) (((s.hlen 16 [o,t]:Nat):Int)+1)):=hg.b.put (key25 16 (by simp)) _
 have hLI:(s.setInt (keyL 16 [o,t]) (((s.hlen 16 [o,t]:Nat):Int)+1)).hlen 16 [o,t]=s.hlen 16 [o,t]+1:=by
  unfold St.hlen
  rw [int_setInt s hg.b.srt _ _ (keyL_some 16 hnn) _ (by unfold St.hlen at hlen0; omega),if_pos rfl]
  omega
 have hPI:∀ j:Nat,j < 9223372036854775808→(s.setInt (keyL 16 [o,t]) (((s.hlen 16 [o,t]:Nat):Int)+1)).hpI 16 [o,t] j=s.hpI 16 [o,t] j:=fun j hj=>by
  unfold St.hpI St.setInt
  rw [val_put s hg.b.srt _ _ _ (keyL_some 16 hnn),if_neg]
  refine keyI_ne (by decide) (by decide) hin2 (fun x hx => ?_) (by simp)
  rcases List.mem_append.1 hx with h | h
  ·exact hin2 x h
  ·rw [List.mem_singleton] at h; subst h; exact ⟨by omega,by unfold I63; omega⟩
 obtain ⟨c1,c2⟩:=hset_at hbI ho ht ho' ht' (i:=s.hlen 16 [o,t]) (by omega) hb ha
 unfold St.hnew
 refine ⟨by rw [c1,hLI],fun j hj => ?_⟩
 rw [c2 j hj,hPI j hj]
theorem hat_of {k:Nat} {s:St} (hg:XG k s) {o t:Int} (ho:I63 o) (ht:I63 t) (b:Int):∃ r,r≤s.hlen 16 [o,t]∧(∀ i:Nat,i < r→((s.hpI 16 [o,t] i).1:Int)≤b)∧(∀ i:Nat,r≤i→i < s.hlen 16 [o,t]→¬ ((s.hpI 16 [o,t] i).1:Int)≤b)∧s.hat 16 [o,t] b=if r=0 then (0,0,0,0) else (s.hpI 16 [o,t] ((r - 1:Nat):Int)).2:=by
 have hm:=hg.mono' ho ht
 obtain ⟨a1,a2,a3⟩:=bsr_inv (p:=fun i=>decide (((s.hpI 16 [o,t] (i:Nat)).1:Int)≤b)) (n:=s.hlen 16 [o,t]) (fun i j hij hj hp=>by
  have h1:=hm i j hij hj
  have h2:=of_decide_eq_true hp
  exact decide_eq_true (by omega)) (s.hlen 16 [o,t]) 0 (s.hlen 16 [o,t]) (by omega) (Nat.zero_le _) (Nat.le_refl _) (fun i hi=>absurd hi (by omega)) (fun i h1 h2=>absurd h2 (by omega))
 refine ⟨s.hpos 16 [o,t] b,a3,fun i hi=>of_decide_eq_true (a1 i hi),fun i h1 h2=>of_decide_eq_false (a2 i h1 h2),?_⟩
 unfold St.hat
 by_cases h0:s.hpos 16 [o,t] b=0
 ·rw [if_pos h0,if_pos h0]
 ·rw [if_neg h0,if_neg h0]
  rw [show ((s.hpos 16 [o,t] b:Nat):Int) - 1=((s.hpos 16 [o,t] b - 1:Nat):Int) by omega]
theorem push_hat {k:Nat} {s:St} (hg:XG k s) (hk:k < 1000000000000) {o t:Int} (ho:0≤o) (ht:0≤t) (ho':I63 o) (ht':I63 t) {b:Nat} (hb:b≤1099511627776) {a:W4} (ha:a.Ok) (he:hpuE s 16 [o,t] b=0) :
  (hpuSt s 16 [o,t] b a).hlast 16 [o,t]=a∧∀ x:Int,(hpuSt s 16 [o,t] b a).hat 16 [o,t] x=if (b:Int)≤x then a else s.hat 16 [o,t] x:=by
 have hlen0:=hg.hlen o t ho ht ho' ht'
 have hgp:=hg.push hk ho ht ho' ht' hb ha
 have hlast:0 < s.hlen 16 [o,t]→(s.hpI 16 [o,t] ((s.hlen 16 [o,t] - 1:Nat):Int))=s.hpL 16 [o,t]:=fun h=>by
  unfold St.hpL St.hpI
  rw [show ((s.hlen 16 [o,t]:Nat):Int) - 1=((s.hlen 16 [o,t] - 1:Nat):Int) by omega]
 have hle:0 < s.hlen 16 [o,t]→(s.hpL 16 [o,t]).1≤b:=fun h=>by
  unfold hpuE at he
  refine Nat.le_of_not_lt fun hl => ?_
  rw [if_pos ⟨h,hl⟩] at he; cases he
 have hbl:∀ i:Nat,i < s.hlen 16 [o,t]→(s.hpI 16 [o,t] i).1≤b:=fun i hi=>by
  have h1:=hg.mono' ho' ht' i (s.hlen 16 [o,t] - 1) (by omega) (by omega)
  rw [hlast (by omega)] at h1
  exact Nat.le_trans h1 (hle (by omega))
 have hl2:∀ s':St,s'.hlast 16 [o,t]=if s'.hlen 16 [o,t]=0 then (0,0,0,0) else (s'.hpI 16 [o,t] ((s'.hlen 16 [o,t] - 1:Nat):Int)).2:=fun s'=>by
  unfold St.hlast
  by_cases h:s'.hlen 16 [o,t]=0
  ·rw [if_pos h,if_pos h]
  ·rw [if_neg h,if_neg h]
   unfold St.hpI
   rw [show ((s'.hlen 16 [o,t]:Nat):Int) - 1=((s'.hlen 16 [o,t] - 1:Nat):Int) by omega]
 have go:∀ (s':St) (m:Nat),XG (k+1) s'→m≤s.hlen 16 [o,t]→s'.hlen 16 [o,t]=m+1→(∀ i:Nat,m≤i→i < s.hlen 16 [o,t]→(s.hpI 16 [o,t] i).1=b)→(∀ j:Nat,j < 9223372036854775808→s'.hpI 16 [o,t] j=if j=m then (b,a) else s.hpI 16 [o,t] j) →
   s'.hlast 16 [o,t]=a∧∀ x:Int,s'.hat 16 [o,t] x=if (b:Int)≤x then a else s.hat 16 [o,t] x:=fun s' m hg' hm hn hsame hI=>by
  refine ⟨by rw [hl2,hn,if_neg (by omega),show m+1 - 1=m by omega,hI m (by omega),if_pos rfl],fun x => ?_⟩
  obtain ⟨r',h1,h2,h3,h4⟩:=hat_of hg' ho' ht' x
  obtain ⟨r,g1,g2,g3,g4⟩:=hat_of hg ho' ht' x
  rw [h4,g4]
  by_cases hx:(b:Int)≤x
  ·rw [if_pos hx]
   have hr':r'=m+1:=by
    refine Nat.le_antisymm (by omega) (Nat.le_of_not_lt fun hlt => ?_)
    refine h3 r' (Nat.le_refl _) (by omega) ?_
    rw [hI r' (by omega)]
    split
    ·exact hx
    ·have:=hbl r' (by omega); omega
   rw [hr',if_neg (by omega),show m+1 - 1=m by omega,hI m (by omega),if_pos rfl]
  ·rw [if_neg hx]
   have hrm:r≤m:=Nat.le_of_not_lt fun hlt=>by
    have h5:=g2 m hlt
    rw [hsame m (Nat.le_refl _) (by omega)] at h5
    exact hx h5
   have hr'm:r'≤m:=Nat.le_of_not_lt fun hlt=>by
    have h5:=h2 m hlt
    rw [hI m (by omega),if_pos rfl] at h5
    exact hx h5
   have hrr:r'=r:=by
    rcases Nat.lt_trichotomy r' r with h | h | h
    ·have h5:=g2 r' h
     have h6:=h3 r' (Nat.le_refl _) (by omega)
     rw [hI r' (by omega),if_neg (by omega)] at h6
     exact absurd h5 h6
    ·exact h
    ·have h5:=h2 r h
     rw [hI r (by omega),if_neg (by omega)] at h5
     exact absurd h5 (g3 r (Nat.le_refl _) (by omega))
   rw [hrr]
   by_cases h0:r=0
   ·rw [if_pos h0,if_pos h0]
   ·rw [if_neg h0,if_neg h0,hI (r - 1) (by omega),if_neg (by omega)]
 revert hgp
 unfold hpuSt
 by_cases hp:0 < s.hlen 16 [o,t]
 ·rw [if_pos hp,if_neg (Nat.not_lt.2 (hle hp))]
  by_cases hb2:b=(s.hpL 16 [o,t]).1
  ·rw [if_pos hb2]
   intro hgp
   rw [show ((s.hlen 16 [o,t]:Nat):Int) - 1=((s.hlen 16 [o,t] - 1:Nat):Int) by omega] at hgp ⊢
   obtain ⟨c1,c2⟩:=hset_at hg.b ho ht ho' ht' (i:=s.hlen 16 [o,t] - 1) (by omega) hb ha
   exact go _ (s.hlen 16 [o,t] - 1) hgp (by omega) (by rw [c1]; omega) (fun i h1 h2=>by
    rw [show i=s.hlen 16 [o,t] - 1 by omega,hlast hp]; exact hb2.symm) c2
  ·rw [if_neg hb2]
   by_cases ha2:a=(s.hpL 16 [o,t]).2
   ·rw [if_pos ha2]
    intro _
    refine ⟨by rw [hl2,if_neg (by omega),hlast hp]; exact ha2.symm,fun x => ?_⟩
    by_cases hx:(b:Int)≤x
    ·rw [if_pos hx]
     obtain ⟨r,g1,g2,g3,g4⟩:=hat_of hg ho' ht' x
     have hr:r=s.hlen 16 [o,t]:=by
      refine Nat.le_antisymm g1 (Nat.le_of_not_lt fun hlt => ?_)
      refine g3 r (Nat.le_refl _) hlt ?_
      have:=hbl r hlt; omega
     rw [g4,hr,if_neg (by omega),hlast hp]; exact ha2.symm
    ·rw [if_neg hx]
   ·rw [if_neg ha2]
    intro hgp
    obtain ⟨c1,c2⟩:=hnew_at hg hk ho ht ho' ht' hb ha
    exact go _ (s.hlen 16 [o,t]) hgp (Nat.le_refl _) c1 (fun i h1 h2=>absurd h2 (by omega)) c2
 ·rw [if_neg hp]
  intro hgp
  obtain ⟨c1,c2⟩:=hnew_at hg hk ho ht ho' ht' hb ha
  exact go _ (s.hlen 16 [o,t]) hgp (Nat.le_refl _) c1 (fun i h1 h2=>absurd h2 (by omega)) c2
theorem ids_nil {s:St} (h:∀ n:Nat,n < 9223372036854775808→getE s.ents (keyL 15 [(n:Int)])=none) (P:List Nat→Bool):s.ids P = []:=by
 unfold St.ids
 refine List.filterMap_eq_nil_iff.2 fun x hx => ?_
 cases hi:idOf s P x with
 | none=>rfl
 | some z =>
  exfalso
  obtain ⟨n,hn,_,_⟩:=idOf_some hi
  obtain ⟨h1,h2⟩:=one_key hx hn
  have hm:x∈s.ents:=(List.mem_filter.1 hx).1
  have h3:=h n h1
  rw [getE_none] at h3
  exact h3 (List.mem_map.2 ⟨x,hm,h2⟩)
theorem xnote_same {k:Nat} {s:St} (hg:XG k s) {x:Ex} (hgd:x.good=true):Same [16] s (noteSt s x):=by
 obtain ⟨g1,g2,g3,g4,g5,_⟩:=Ex.good_at hgd
 unfold noteSt
 split
 ·exact Same.refl _ _
 ·split
  ·unfold hpuSt
   have hset:∀ i:Nat,Same [16] s (s.set (keyL 16 ([x.op,x.sg] ++ [(i:Int)])) (ptB x.bl.toNat (uAddS (s.hlast 16 [x.op,x.sg]) (sdW x.wo x.mx)))):=fun i=>by
    rw [set_put _ (kpos 16 (nn2 g3 (Int.le_trans (by decide) g2)) (by omega)) (ptB_some _ _)]
    exact hg.b.same (by decide) _ _
   have hnw:∀ a,Same [16] s (s.hnew 16 [x.op,x.sg] x.bl.toNat a):=fun a=>by
    unfold St.hnew
    have hb1:XB (s.setInt (keyL 16 [x.op,x.sg]) (((s.hlen 16 [x.op,x.sg]:Nat):Int)+1)):=hg.b.put (key25 16 (by simp)) _
    refine Same.trans (s1:=s.setInt (keyL 16 [x.op,x.sg]) (((s.hlen 16 [x.op,x.sg]:Nat):Int)+1)) (hg.b.same (n:=16) (by decide) [x.op,x.sg] _) ?_
    rw [set_put _ (kpos 16 (nn2 g3 (Int.le_trans (by decide) g2)) (by omega)) (ptB_some _ _)]
    exact hb1.same (by decide) _ _
   split
   ·rename_i h0
    split
    ·exact Same.refl _ _
    ·split
     ·have:=hset (s.hlen 16 [x.op,x.sg] - 1)
      rwa [show ((s.hlen 16 [x.op,x.sg] - 1:Nat):Int)=((s.hlen 16 [x.op,x.sg]:Nat):Int) - 1 by omega] at this
     ·split
      ·exact Same.refl _ _
      ·exact hnw _
   ·exact hnw _
  ·exact Same.refl _ _
theorem Same.hlast {T:List Nat} {s s':St} (h:Same T s s') (hT:16∉T) {o t:Int} (ho:0≤o) (ht:0≤t):s'.hlast 16 [o,t]=s.hlast 16 [o,t]:=by
 unfold St.hlast
 rw [h.hlen hT ho ht]
 by_cases h0:s.hlen 16 [o,t]=0
 ·rw [if_pos h0,if_pos h0]
 ·rw [if_neg h0,if_neg h0,show ((s.hlen 16 [o,t]:Nat):Int) - 1=((s.hlen 16 [o,t] - 1:Nat):Int) by omega,h.val (by decide) hT (nn3 ho ht _)]
theorem Same.hat {T:List Nat} {s s':St} (h:Same T s s') (hT:16∉T) {o t:Int} (ho:0≤o) (ht:0≤t) (b:Int):s'.hat 16 [o,t] b=s.hat 16 [o,t] b:=by
 have hp:s'.hpos 16 [o,t] b=s.hpos 16 [o,t] b:=by
  unfold St.hpos
  rw [h.hlen hT ho ht]
  congr 1
  funext i
  rw [h.hpI hT ho ht i]
 unfold St.hat
 rw [hp]
 by_cases h0:s.hpos 16 [o,t] b=0
 ·rw [if_pos h0,if_pos h0]
 ·rw [if_neg h0,if_neg h0,show ((s.hpos 16 [o,t] b:Nat):Int) - 1=((s.hpos 16 [o,t] b - 1:Nat):Int) by omega,h.hpI hT ho ht]
structure CE where
 st:Nat
 wo:W4
 mx:W4
 c:W4
def CE.cw (e:CE):CW:=⟨e.st,uN e.wo,uN e.mx,uN e.c⟩
def CE.ex (e:CE) (i:Nat):Ex:=⟨((1+i / 8:Nat):Int),9,1,(e.st:Int),e.wo,e.mx⟩
def CE.sd (e:CE):Nat:=uN (sdW e.wo e.mx)
structure CE.Ok (e:CE) (b:Nat):Prop where
 wo:e.wo.Ok
 mx:e.mx.Ok
 c:e.c.Ok
 st:e.st≤b
 pos:1≤uN e.c
 le:uN e.c≤uN e.mx
def ceS (f:CE→Nat):List CE→Nat
 | []=>0
 | x :: l=>f x+ceS f l
theorem ceS_append (f:CE→Nat) (l m:List CE):ceS f (l ++ m)=ceS f l+ceS f m:=by
 induction l with
 | nil=>simp [ceS]
 | cons x l ih=>simp only [List.cons_append,ceS,ih]; omega
theorem ceS_congr {f g:CE→Nat} {l:List CE} (h:∀ x∈l,f x=g x):ceS f l=ceS g l:=by
 induction l with
 | nil=>rfl
 | cons x l ih=>simp only [ceS]; rw [h x (by simp),ih fun y hy=>h y (by simp [hy])]
theorem ceS_map (f:CE→Nat) (g:CE→CE) (l:List CE):ceS f (l.map g)=ceS (fun x=>f (g x)) l:=by
 induction l with
 | nil=>rfl
 | cons x l ih=>simp only [List.map_cons,ceS,ih]
theorem ceS_add (f g:CE→Nat) (l:List CE):ceS (fun x=>f x+g x) l=ceS f l+ceS g l:=by
 induction l with
 | nil=>rfl
 | cons x l ih=>simp only [ceS,ih]; omega
structure CvSt (k j:Nat) (s:St) (es:List CE):Prop where
 g:XG k s
 cnt:s.int (keyL 14 [])=es.length
 ex:∀ i e,j≤i→es[i]? = some e→s.exIs ((i+1:Nat):Int)=true∧s.ex ((i+1:Nat):Int)=e.ex i
 non:∀ n:Nat,n < 9223372036854775808→(n≤j∨es.length < n)→getE s.ents (keyL 15 [(n:Int)])=none
 cv:CvInv (uN (s.left 1)) ((es.drop j).map CE.cw)
structure CvM (s:St) (es:List CE) (b d:Nat) (m:W4):Prop where
 ok:∀ e∈es,e.Ok b
 mo:m.Ok
 pos:1≤uN m
 one:uN m≤1000000000000000000
 win:∀ e∈es,b≤e.st+d→e.c=m
 last:uN (s.hlast 16 [9,1])=ceS CE.sd es
 hat:∀ x:Int,uN (s.hat 16 [9,1] x)=ceS (fun e=>if (e.st:Int)≤x then e.sd else 0) es
theorem CvSt.empty:CvSt 0 0 emptySt []:=⟨XG.empty,rfl,(fun i e _ h=>by simp at h),(fun _ _ _=>rfl),CvInv.nil _⟩
theorem CvM.empty (b d:Nat):CvM emptySt [] b d oneW:=⟨(fun e h=>by cases h),⟨by decide,by decide,by decide,by decide⟩,by decide,by decide,(fun e h=>by cases h),rfl,fun x=>by
 have h0:emptySt.hpos 16 [9,1] x=0:=rfl
 unfold St.hat
 rw [if_pos h0]; rfl⟩
theorem i63_lt {n:Nat} (h:n < 9223372036854775808):I63 (n:Int):=by unfold I63; omega
theorem key1_ne {t n n':Nat} (h1:1≤t) (h2:t≤255) (hn:n < 9223372036854775808) (hn':n' < 9223372036854775808) (h:n≠n'):keyL t [(n:Int)]≠keyL t [(n':Int)] :=
 keyI_ne h1 h2 (fun x hx=>by rw [List.mem_singleton] at hx; subst hx; exact ⟨by omega,i63_lt hn⟩) (fun x hx=>by rw [List.mem_singleton] at hx; subst hx; exact ⟨by omega,i63_lt hn'⟩) (fun e=>h (by
  have:=List.head_eq_of_cons_eq e
  omega))
theorem ex_of {s s':St} {n:Int} (h1:getE s'.ents (keyL 15 [n])=getE s.ents (keyL 15 [n])) (h2:getE s'.ents (keyL 17 [n])=getE s.ents (keyL 17 [n])) (h3:getE s'.ents (keyL 18 [n])=getE s.ents (keyL 18 [n])):s'.exIs n=s.exIs n∧s'.ex n=s.ex n:=by
 have v1:s'.val (keyL 15 [n])=s.val (keyL 15 [n]):=by unfold St.val; rw [h1]
 have v2:s'.amt (keyL 17 [n])=s.amt (keyL 17 [n]):=by unfold St.amt St.val; rw [h2]
 have v3:s'.amt (keyL 18 [n])=s.amt (keyL 18 [n]):=by unfold St.amt St.val; rw [h3]
 exact ⟨by unfold St.exIs; rw [v1],by unfold St.ex; rw [v1,v2,v3]⟩
theorem moreW_nat {x y:W4} (h:moreE x y=0):uN (moreW x y)=uN x+uN y:=by
 unfold moreE at h
 by_cases h1:uN x+uN y < M128
 ·unfold moreW
  rw [if_pos h1,uN_of (by unfold M128 at h1; omega)]
 ·rw [if_neg h1] at h; cases h
theorem CvSt.add {h:Hand} (hon:h.on=true) {k:Nat} {s:St} {es:List CE} {b d:Nat} {m a:W4} (H:CvSt k 0 s es) (M:CvM s es b d m) (hk:k < 1000) (hes:es.length≤1000) (hb:b≤1000) (ha:a.Ok)
  (hE:xadE s (CE.ex ⟨b,a,m,m⟩ es.length)=0):h.xadN s (CE.ex ⟨b,a,m,m⟩ es.length)=((es.length+1:Nat):Int)∧CvSt (k+2) 0 (h.xadSt s (CE.ex ⟨b,a,m,m⟩ es.length)) (es ++ [⟨b,a,m,m⟩])∧CvM (h.xadSt s (CE.ex ⟨b,a,m,m⟩ es.length)) (es ++ [⟨b,a,m,m⟩]) b d m:=by
 generalize hx:CE.ex ⟨b,a,m,m⟩ es.length=x at *
 have e1:x.st=((1+es.length / 8:Nat):Int):=by rw [← hx]; rfl
 have e2:x.op=9:=by rw [← hx]; rfl
 have e3:x.sg=1:=by rw [← hx]; rfl
 have e4:x.bl=(b:Int):=by rw [← hx]; rfl
 have e5:x.wo=a:=by rw [← hx]; rfl
 have e6:x.mx=m:=by rw [← hx]; rfl
 have hxo:x.Ok:=by
  refine ⟨?_,?_,?_,?_,?_,?_⟩
  ·rw [e1]; exact i63_lt (by omega)
  ·rw [e2]; unfold I63; omega
  ·rw [e3]; unfold I63; omega
  ·rw [e4]; exact i63_lt (by omega)
  ·rw [e5]; exact ha
  ·rw [e6]; exact M.mo
 have hgd:x.good=true:=by
  cases hg0:x.good with
  | true=>rfl
  | false=>rw [(xad_bad (h:=h) (s:=s) hg0).1] at hE; cases hE
 have hn16:¬ 16≤s.int (keyL 20 [x.st]):=fun hn=>by rw [(xad_full (h:=h) (s:=s) hgd hn).1] at hE; cases hE
 have hnE:noteE s x=0:=Classical.byContradiction fun hn=>by
  rw [(xad_note (h:=h) (s:=s) hgd hn16 hn).1] at hE; exact hn hE
 have hmE:moreE ((noteSt s x).amt (keyL 19 [x.sg])) x.wo=0:=Classical.byContradiction fun hn=>by
  rw [(xad_more (h:=h) (s:=s) hgd hn16 hnE rfl hn).1] at hE; exact hn hE
 obtain ⟨_,hN,hS⟩:=xad_ok (h:=h) hgd hn16 hnE hmE
 have hg7:=H.g.add (h:=h) (by omega) hxo
 rw [hS] at hg7
 rw [hN,hS]
 have hop:x.op≠0:=by rw [e2]; decide
 have hc0:uAddC (s.hlast 16 [9,1]) (sdW a m)=0:=Classical.byContradiction fun hn=>by
  unfold noteE at hnE
  rw [if_neg hop,e2,e3,e5,e6,if_neg hn] at hnE; cases hnE
 have hp0:hpuE s 16 [9,1] b=0:=by
  unfold noteE at hnE
  rw [if_neg hop,e2,e3,e4,e5,e6,if_pos hc0] at hnE; exact hnE
 have hs1:noteSt s x=hpuSt s 16 [9,1] b (uAddS (s.hlast 16 [9,1]) (sdW a m)):=by
  unfold noteSt
  rw [if_neg hop,e2,e3,e4,e5,e6,if_pos hc0]; rfl
 obtain ⟨p1,p2⟩:=push_hat H.g (by omega) (o:=9) (t:=1) (by decide) (by decide) (by unfold I63; omega) (by unfold I63; omega) (b:=b) (by omega) (uAdd_ok (s.hlast 16 [9,1]) (sdW a m)) hp0
 rw [← hs1] at p1 p2
 have b1:=(H.g.note (by omega) hxo hgd).b
 have t1:=xnote_same H.g hgd
 have E2:h.ad2 s x=(noteSt s x).setAmt (keyL 19 [1]) (moreW ((noteSt s x).amt (keyL 19 [1])) a):=by
  unfold Hand.ad2 Hand.addSt Hand.st
  rw [if_pos hmE,hon,if_pos rfl,e3,e5]
 have t2:Same [19] (noteSt s x) (h.ad2 s x):=by rw [E2]; exact b1.same (by decide) _ _
 have b2:XB (h.ad2 s x):=by rw [E2]; exact b1.put (key25 19 (by simp)) _
 have hNv:h.adN s x=((es.length+1:Nat):Int):=by
  unfold Hand.adN
  rw [t2.int (by decide) (by simp) (by simp),t1.int (by decide) (by simp) (by simp),H.cnt]; rfl
 have E3:h.ad3 s x=(h.ad2 s x).setInt (keyL 14 []) (h.adN s x):=rfl
 have E4:h.ad4 s x=(h.ad3 s x).put (keyL 15 [h.adN s x]) (rowB [x.st,x.op,x.sg,x.bl]):=rfl
 have E5:h.ad5 s x=(h.ad4 s x).setAmt (keyL 17 [h.adN s x]) x.wo:=rfl
 have E6:h.ad6 s x=(h.ad5 s x).setAmt (keyL 18 [h.adN s x]) x.mx:=rfl
 have E7:h.ad7 s x=(h.ad6 s x).setInt (keyL 20 [x.st]) ((((h.ad6 s x).int (keyL 20 [x.st]):Nat):Int)+1):=rfl
 rw [hNv] at E3 E4 E5 E6 ⊢
 rw [e5] at E5
 rw [e6] at E6
 rw [e1,e2,e3,e4] at E4
 have t3:Same [14] (h.ad2 s x) (h.ad3 s x):=by rw [E3]; exact b2.same (by decide) _ _
 have b3:XB (h.ad3 s x):=by rw [E3]; exact b2.put (key25 14 (by simp)) _
 have t4:Same [15] (h.ad3 s x) (h.ad4 s x):=by rw [E4]; exact b3.same (by decide) _ _
 have b4:XB (h.ad4 s x):=by rw [E4]; exact b3.put (key25 15 (by simp)) _
 have t5:Same [17] (h.ad4 s x) (h.ad5 s x):=by rw [E5]; exact b4.same (by decide) _ _
 have b5:XB (h.ad5 s x):=by rw [E5]; exact b4.put (key25 17 (by simp)) _
 have t6:Same [18] (h.ad5 s x) (h.ad6 s x):=by rw [E6]; exact b5.same (by decide) _ _
 have b6:XB (h.ad6 s x):=by rw [E6]; exact b5.put (key25 18 (by simp)) _
 have t7:Same [20] (h.ad6 s x) (h.ad7 s x):=by rw [E7]; exact b6.same (by decide) _ _
 have hmo:uN (moreW ((noteSt s x).amt (keyL 19 [1])) a)=uN ((noteSt s x).amt (keyL 19 [1]))+uN a:=moreW_nat (by rw [e3,e5] at hmE; exact hmE)
 clear E7 hS hN hmE hnE hs1
 generalize h.ad7 s x=s7 at *
 generalize h.ad6 s x=s6 at *
 generalize h.ad5 s x=s5 at *
 generalize h.ad4 s x=s4 at *
 generalize h.ad3 s x=s3 at *
 generalize h.ad2 s x=s2 at *
 generalize noteSt s x=s1 at *
 have hM:=M.mo
 have hold:∀ n:Nat,n < 9223372036854775808→n≠es.length+1→getE s7.ents (keyL 15 [(n:Int)])=getE s.ents (keyL 15 [(n:Int)])∧getE s7.ents (keyL 17 [(n:Int)])=getE s.ents (keyL 17 [(n:Int)])∧getE s7.ents (keyL 18 [(n:Int)])=getE s.ents (keyL 18 [(n:Int)]):=fun n hn hne=>by
  have nn:∀ y∈[(n:Int)],0≤y:=nn1 (by omega)
  have hk:∀ t,1≤t→t≤255→¬ keyL t [((es.length+1:Nat):Int)]=keyL t [(n:Int)]:=fun t h1 h2=>key1_ne h1 h2 (by omega) hn (Ne.symm hne)
  refine ⟨?_,?_,?_⟩
  ·rw [t7 _ _ (by decide) (by simp) nn,t6 _ _ (by decide) (by simp) nn,t5 _ _ (by decide) (by simp) nn,E4,getE_put b3.srt,if_neg (hk 15 (by decide) (by decide)),t3 _ _ (by decide) (by simp) nn,t2 _ _ (by decide) (by simp) nn,t1 _ _ (by decide) (by simp) nn]
  ·rw [t7 _ _ (by decide) (by simp) nn,t6 _ _ (by decide) (by simp) nn,E5]
   unfold St.setAmt
   rw [getE_put b4.srt,if_neg (hk 17 (by decide) (by decide)),t4 _ _ (by decide) (by simp) nn,t3 _ _ (by decide) (by simp) nn,t2 _ _ (by decide) (by simp) nn,t1 _ _ (by decide) (by simp) nn]
  ·rw [t7 _ _ (by decide) (by simp) nn,E6]
   unfold St.setAmt
   rw [getE_put b5.srt,if_neg (hk 18 (by decide) (by decide)),t5 _ _ (by decide) (by simp) nn,t4 _ _ (by decide) (by simp) nn,t3 _ _ (by decide) (by simp) nn,t2 _ _ (by decide) (by simp) nn,t1 _ _ (by decide) (by simp) nn]
 have nnN:∀ y∈[((es.length+1:Nat):Int)],0≤y:=nn1 (by omega)
 have v1:s7.val (keyL 15 [((es.length+1:Nat):Int)])=rowB [((1+es.length / 8:Nat):Int),9,1,(b:Int)]:=by
  rw [t7.val (by decide) (by simp) nnN,t6.val (by decide) (by simp) nnN,t5.val (by decide) (by simp) nnN,E4,val_put _ b3.srt _ _ _ (keyL_some 15 nnN),if_pos rfl]
 have v2:s7.amt (keyL 17 [((es.length+1:Nat):Int)])=a:=by
  rw [t7.amt (by decide) (by simp) nnN,t6.amt (by decide) (by simp) nnN,E5,amt_own b4.srt (keyL_some 17 nnN) ha]
 have v3:s7.amt (keyL 18 [((es.length+1:Nat):Int)])=m:=by
  rw [t7.amt (by decide) (by simp) nnN,E6,amt_own b5.srt (keyL_some 18 nnN) hM]
 have vr:=rowOf_row [((1+es.length / 8:Nat):Int),9,1,(b:Int)] (fun n hn=>by
  simp only [List.mem_cons,List.not_mem_nil,or_false] at hn
  rcases hn with rfl | rfl | rfl | rfl <;> omega)
 have hleft:uN (s7.left 1)=uN (s.left 1)+uN a:=by
  have nn:∀ y∈[(1:Int)],0≤y:=nn1 (by decide)
  unfold St.left
  rw [t7.amt (by decide) (by simp) nn,t6.amt (by decide) (by simp) nn,t5.amt (by decide) (by simp) nn,t4.amt (by decide) (by simp) nn,t3.amt (by decide) (by simp) nn,E2,amt_own b1.srt (keyL_some 19 nn) (moreW_ok _ _)]
  rw [hmo,t1.amt (by decide) (by simp) nn]
 have hlast7:s7.hlast 16 [9,1]=uAddS (s.hlast 16 [9,1]) (sdW a m):=by
  rw [t7.hlast (by simp) (by decide) (by decide),t6.hlast (by simp) (by decide) (by decide),t5.hlast (by simp) (by decide) (by decide),t4.hlast (by simp) (by decide) (by decide),t3.hlast (by simp) (by decide) (by decide),t2.hlast (by simp) (by decide) (by decide),p1]
 have hat7:∀ x:Int,s7.hat 16 [9,1] x=if (b:Int)≤x then uAddS (s.hlast 16 [9,1]) (sdW a m) else s.hat 16 [9,1] x:=fun x=>by
  rw [t7.hat (by simp) (by decide) (by decide),t6.hat (by simp) (by decide) (by decide),t5.hat (by simp) (by decide) (by decide),t4.hat (by simp) (by decide) (by decide),t3.hat (by simp) (by decide) (by decide),t2.hat (by simp) (by decide) (by decide),p2]
 have hsum:=add_nat hc0
 rw [M.last] at hsum
 refine ⟨rfl,⟨hg7,?_,fun i e _ he => ?_,fun n hn h1 => ?_,?_⟩,⟨fun e he => ?_,hM,M.pos,M.one,fun e he hw => ?_,?_,fun y => ?_⟩⟩
 ·rw [t7.int (by decide) (by simp) (by simp),t6.int (by decide) (by simp) (by simp),t5.int (by decide) (by simp) (by simp),t4.int (by decide) (by simp) (by simp),E3,int_setInt _ b2.srt _ _ (keyL_some 14 (by simp)) _ (by omega),if_pos rfl,List.length_append]; rfl
 ·by_cases hi:i=es.length
  ·subst hi
   rw [List.getElem?_append_right (Nat.le_refl _),Nat.sub_self] at he
   cases he
   refine ⟨?_,?_⟩
   ·unfold St.exIs
    rw [v1,vr]; rfl
   ·unfold St.ex
    rw [v1,vr,v2,v3]; rfl
  ·have hlt:i < es.length:=by
    have:=(List.getElem?_eq_some_iff.1 he).1
    rw [List.length_append] at this
    change i < es.length+1 at this
    omega
   rw [List.getElem?_append_left hlt] at he
   obtain ⟨h1,h2,h3⟩:=hold (i+1) (by omega) (by omega)
   obtain ⟨h4,h5⟩:=ex_of h1 h2 h3
   rw [h4,h5]
   exact H.ex i e (Nat.zero_le _) he
 ·have hlen:(es ++ [(⟨b,a,m,m⟩:CE)]).length=es.length+1:=by rw [List.length_append]; rfl
  rw [hlen] at h1
  rw [(hold n hn (by omega)).1]
  exact H.non n hn (by omega)
 ·have:=CvInv.add H.cv b (uN a) (uN m) M.pos
  rw [List.drop_zero] at this
  rw [List.drop_zero,List.map_append,hleft]
  exact this
 ·rcases List.mem_append.1 he with h | h
  ·exact M.ok e h
  ·rw [List.mem_singleton] at h; subst h
   exact ⟨ha,hM,hM,Nat.le_refl _,M.pos,Nat.le_refl _⟩
 ·rcases List.mem_append.1 he with h | h
  ·exact M.win e h hw
  ·rw [List.mem_singleton] at h; subst h; rfl
 ·rw [hlast7,hsum,ceS_append]; rfl
 ·rw [hat7,ceS_append]
  show _=_+((if (b:Int)≤y then uN (sdW a m) else 0)+0)
  by_cases hy:(b:Int)≤y
  ·rw [if_pos hy,if_pos hy,hsum,ceS_congr (f:=fun e=>if (e.st:Int)≤y then e.sd else 0) (g:=CE.sd) fun e he=>if_pos (by have:=(M.ok e he).st; omega)]
   rfl
  ·rw [if_neg hy,if_neg hy]
   exact M.hat y
def cCut (b d:Nat) (t:W4) (e:CE):CE:=if b≤e.st+d then { e with c:=t } else e
theorem cCut_at (b d:Nat) (t:W4) (e:CE):(cCut b d t e).st=e.st∧(cCut b d t e).wo=e.wo∧(cCut b d t e).mx=e.mx∧(cCut b d t e).cw=cvCut b d (uN t) e.cw∧(∀ i,(cCut b d t e).ex i=e.ex i):=by
 unfold cCut
 by_cases h:b≤e.st+d
 ·rw [if_pos h]
  refine ⟨rfl,rfl,rfl,?_,fun i=>rfl⟩
  unfold cvCut
  rw [if_pos (show b≤e.cw.st+d from h)]; rfl
 ·rw [if_neg h]
  refine ⟨rfl,rfl,rfl,?_,fun i=>rfl⟩
  unfold cvCut
  rw [if_neg (show ¬ b≤e.cw.st+d from h)]
theorem CvM.id {s:St} {es:List CE} {b d:Nat} {m:W4} (M:CvM s es b d m):es.map (cCut b d m)=es:=by
 have:∀ e∈es,cCut b d m e=e:=fun e he=>by
  unfold cCut
  split
  ·rename_i h
   rw [← M.win e he h]
  ·rfl
 exact (List.map_congr_left this).trans (List.map_id' es)
theorem CvM.later {s:St} {es:List CE} {b b' d:Nat} {m:W4} (M:CvM s es b d m) (hb:b≤b'):CvM s es b' d m :=
 ⟨fun e he=>⟨(M.ok e he).wo,(M.ok e he).mx,(M.ok e he).c,Nat.le_trans (M.ok e he).st hb,(M.ok e he).pos,(M.ok e he).le⟩,M.mo,M.pos,M.one,fun e he h=>M.win e he (by omega),M.last,M.hat⟩
def scN (x:CW):Nat:=uN (sdW (uOf x.W) (uOf x.M))
theorem scN_cw {e:CE} {b:Nat} (h:e.Ok b):scN e.cw=e.sd:=by
 unfold scN CE.sd CE.cw
 rw [uOf_uN h.wo,uOf_uN h.mx]
theorem cvSc_ce (b d:Nat):∀ {es:List CE},(∀ e∈es,scN e.cw=e.sd)→cvSc b d scN (es.map CE.cw)=ceS (fun e=>if b≤e.st+d then e.sd else 0) es
 | [],_=>rfl
 | e :: es,h=>by
  have ih:=cvSc_ce b d (es:=es) fun x hx=>h x (by simp [hx])
  have h0:=h e (by simp)
  show (if b≤e.st+d then scN e.cw else 0)+cvSc b d scN (es.map CE.cw)=(if b≤e.st+d then e.sd else 0)+_
  rw [ih,h0]
theorem slash_sum {s:St} {es:List CE} {b d:Nat} {m:W4} (M:CvM s es b d m):uN (s.slash 9 1 b d)=cvSc b d scN (es.map CE.cw):=by
 rw [cvSc_ce b d fun e he=>scN_cw (M.ok e he)]
 unfold St.slash
 by_cases h:(d:Int) < 0∨(b:Int)≤d
 ·rw [if_pos h,M.last]
  exact ceS_congr fun e _=>(if_pos (by omega)).symm
 ·rw [if_neg h]
  have hs:ceS CE.sd es=ceS (fun e=>if (e.st:Int)≤(b:Int) - d - 1 then e.sd else 0) es+ceS (fun e=>if b≤e.st+d then e.sd else 0) es:=by
   rw [← ceS_add]
   refine ceS_congr fun e _ => ?_
   by_cases h1:b≤e.st+d
   ·rw [if_pos h1,if_neg (by omega)]; omega
   ·rw [if_neg h1,if_pos (by omega)]; omega
  rw [gap_nat (hlast_ok _ _ _) (hat_ok _ _ _ _) (by rw [M.last,M.hat]; omega),M.last,M.hat]
  omega
theorem sub_own {x y:W4} (hx:x.Ok) (h:uN y≤uN x):uN (subW x y)=uN x - uN y:=by
 unfold subW
 rw [if_pos h,uN_of (by have:=uN_lt hx; omega)]
theorem CvSt.cut {h:Hand} (hon:h.on=true) {k:Nat} {s:St} {es:List CE} {b d:Nat} {m tq:W4} (H:CvSt k 0 s es) (M:CvM s es b d m) (hto:tq.Ok) (hle:uN tq≤uN m) (hpos:1≤uN tq) :
  xcutE 9 b d tq m=0∧CvSt k 0 (h.cutX s (s.slash 9 1 b d) 9 1 b d tq m) (es.map (cCut b d tq))∧CvM (h.cutX s (s.slash 9 1 b d) 9 1 b d tq m) (es.map (cCut b d tq)) b d tq:=by
 have hC:xcutC m tq 9 b d=false:=by
  have h1:uSubC m tq=0:=(uSubC_iff M.mo hto).2 hle
  have h2:uCmp m oneW≤0:=uCmp_le0.2 (by rw [one_nat]; exact M.one)
  unfold xcutC
  rw [h1,decide_eq_true h2,decide_eq_false (by omega:¬ (b:Int) < 0),decide_eq_false (by omega:¬ (d:Int) < 0)]
  rfl
 have hg:=H.g.cut (h:=h) (s.slash 9 1 b d) 9 1 b d tq m
 obtain ⟨c1,c2⟩:=cutW_nat s (s.slash 9 1 b d) 1 m tq
 have hsl:=slash_sum M
 rw [gap_nat M.mo hto hle,hsl] at c1
 have hS:h.cutX s (s.slash 9 1 b d) 9 1 b d tq m=s.setAmt (keyL 19 [1]) (subW (s.left 1) (xcutW s (s.slash 9 1 b d) 1 m tq)):=by
  unfold Hand.cutX Hand.subSt Hand.st
  rw [hC,if_neg (by decide),hon,if_pos rfl]
  rw [if_pos (by unfold lessE'; exact if_pos c2)]; rfl
 rw [hS] at hg ⊢
 generalize xcutW s (s.slash 9 1 b d) 1 m tq=cw at *
 have t:Same [19] s (s.setAmt (keyL 19 [1]) (subW (s.left 1) cw)):=H.g.b.same (by decide) _ _
 have nn:∀ y∈[(1:Int)],0≤y:=nn1 (by decide)
 have hl:uN ((s.setAmt (keyL 19 [1]) (subW (s.left 1) cw)).left 1)=uN (s.left 1) - uN cw:=by
  unfold St.left
  rw [amt_own H.g.b.srt (keyL_some 19 nn) (subW_ok _ _)]
  exact sub_own (amt_ok _ _) c2
 generalize s.setAmt (keyL 19 [1]) (subW (s.left 1) cw)=s' at *
 refine ⟨by unfold xcutE; rw [hC]; rfl,⟨hg,?_,fun i e _ he => ?_,fun n hn h1 => ?_,?_⟩,⟨fun e he => ?_,hto,hpos,Nat.le_trans hle M.one,fun e he hw => ?_,?_,fun y => ?_⟩⟩
 ·rw [t.int (by decide) (by simp) (by simp),List.length_map]; exact H.cnt
 ·rw [List.getElem?_map] at he
  cases he0:es[i]? with
  | none=>rw [he0] at he; cases he
  | some e0 =>
   rw [he0] at he; cases he
   have nnN:∀ y∈[((i+1:Nat):Int)],0≤y:=nn1 (by omega)
   obtain ⟨h4,h5⟩:=ex_of (t _ _ (by decide) (by simp) nnN) (t _ _ (by decide) (by simp) nnN) (t _ _ (by decide) (by simp) nnN)
   rw [h4,h5,(cCut_at b d tq e0).2.2.2.2 i]
   exact H.ex i e0 (Nat.zero_le _) he0
 ·rw [List.length_map] at h1
  rw [t _ _ (by decide) (by simp) (nn1 (by omega))]
  exact H.non n hn h1
 ·have hmm:es.map (CE.cw ∘ cCut b d tq)=es.map (cvCut b d (uN tq) ∘ CE.cw):=List.map_congr_left fun e _=>(cCut_at b d tq e).2.2.2.1
  rw [List.drop_zero,hl,List.map_map,hmm]
  have hcv:=H.cv
  rw [List.drop_zero] at hcv
  have:=CvInv.cut (a:=uN cw) (b:=b) (d:=d) (m:=uN m) (t:=uN tq) (D:=1000000000000000000000000000000000000) (sc:=scN) hcv hle (by decide) (fun x hx hw=>by
   obtain ⟨e,he,rfl⟩:=List.mem_map.1 hx
   exact congrArg uN (M.win e he hw)) (fun x hx=>by
   obtain ⟨e,he,rfl⟩:=List.mem_map.1 hx
   rw [scN_cw (M.ok e he)]
   exact sd_nat e.wo e.mx) c1
  rw [List.map_map] at this
  exact this
 ·obtain ⟨e0,he0,rfl⟩:=List.mem_map.1 he
  have ok:=M.ok e0 he0
  unfold cCut
  split
  ·rename_i hw
   have hc:=M.win e0 he0 hw
   have:=ok.le
   rw [hc] at this
   exact ⟨ok.wo,ok.mx,hto,ok.st,hpos,Nat.le_trans hle this⟩
  ·exact ok
 ·obtain ⟨e0,he0,rfl⟩:=List.mem_map.1 he
  rw [(cCut_at b d tq e0).1] at hw
  unfold cCut
  rw [if_pos hw]
 ·rw [t.hlast (by simp) (by decide) (by decide),M.last,ceS_map]
  refine ceS_congr fun e _ => ?_
  obtain ⟨_,a2,a3,_⟩:=cCut_at b d tq e
  unfold CE.sd; rw [a2,a3]
 ·rw [t.hat (by simp) (by decide) (by decide),M.hat,ceS_map]
  refine ceS_congr fun e _ => ?_
  obtain ⟨a1,a2,a3,_⟩:=cCut_at b d tq e
  unfold CE.sd; rw [a1,a2,a3]
theorem CvInv.tail {L:Nat} {x:CW} {l:List CW} (h:CvInv L (x :: l)):CvInv (L - x.W*x.c / x.M) l:=by
 obtain ⟨ql,hl,P,hP,hq,hs⟩:=h
 match ql,hl with
 | [],hl=>cases hl
 | y :: ql,hl =>
  rw [List.map_cons,List.cons.injEq] at hl
  obtain ⟨rfl,rfl⟩:=hl
  refine ⟨ql,rfl,P,hP,fun z hz=>hq z (by simp [hz]),?_⟩
  have h1:y.1.W*y.1.c / y.1.M*P≤y.1.W*y.1.c*y.2:=by
   rw [← hq y (by simp)]
   have h2:=Nat.mul_le_mul_right y.2 (Nat.div_mul_le_self (y.1.W*y.1.c) y.1.M)
   calc y.1.W*y.1.c / y.1.M*(y.2*y.1.M)=y.1.W*y.1.c / y.1.M*y.1.M*y.2:=by rw [Nat.mul_assoc,Nat.mul_comm y.2]
    _≤_:=h2
  simp only [cvS] at hs
  rw [Nat.sub_mul]
  omega
theorem del_put (s:St) (k:ByteArray):s.del k=s.put k emptyB:=by unfold St.put; rw [if_pos rfl]
theorem CvSt.none {k:Nat} {s:St} {es:List CE} (H:CvSt k es.length s es) (P:List Nat→Bool):s.ids P = [] :=
 ids_nil (fun n hn=>H.non n hn (by omega)) P
end Go.Proofs.YtnkilceibkkjlaaGreat
