/- What is proved here: ExitCovers' store behind Done. Conditions: ints below 2^63. a store, three slices of one's own and rows beside it, while a call reads, writes and appends. Condition: the slices' blocks differ. a store of the program and one of the reference side by side, among rows. Conditions: none. one thing done of the exit laws, on both stores: they tell the same. Conditions: ints below 2^63, words below 2^64, -/
import Derived.Test.YtnkilceibkkjlaaGreatHExCz
import Derived.Test.YtnkilceibkkjlaaGreatHHoldB
import Derived.Test.YtnkilceibkkjlaaGreatHExA
import Derived.Test.YtnkilceibkkjlaaGreatHExEqB
set_option maxRecDepth 100000
set_option maxHeartbeats 16000000
namespace Go.Proofs.YtnkilceibkkjlaaGreat
open Go.RowKit
theorem CvSt.done {h:Hand} (hon:h.on=true) {k j:Nat} {s:St} {es:List CE} {b:Nat} {e:CE} (H:CvSt k j s es) (hes:es.length≤1000) (he:es[j]? = some e) (ok:e.Ok b) :
  xdnE s ((j+1:Nat):Int) e.c=0∧CvSt k (j+1) (h.dnSt s ((j+1:Nat):Int) e.c) es:=by
 have hj:=(List.getElem?_eq_some_iff.1 he).1
 obtain ⟨x1,x2⟩:=H.ex j e (Nat.le_refl _) he
 have hdrop:(es.drop j).map CE.cw=e.cw :: (es.drop (j+1)).map CE.cw:=by
  rw [List.drop_eq_getElem_cons hj,(List.getElem?_eq_some_iff.1 he).2]; rfl
 have hcv:=H.cv
 rw [hdrop] at hcv
 have hpay:uN (paysW (e.ex j) e.c)=uN e.wo*uN e.c / uN e.mx:=by
  have h0:=ok.le; have h1:=ok.pos
  exact pays_nat (x:=e.ex j) ok.wo (show (9:Int)≠0 by decide) (by show uN e.mx≠0; omega) ok.le
 have hle:uN (paysW (e.ex j) e.c)≤uN (s.left 1):=by
  have:=CvInv.pays hcv
  rw [hpay]
  change uN e.wo*uN e.c / uN e.mx+_≤_ at this
  omega
 have hA:xdnA s ((j+1:Nat):Int) e.c=paysW (e.ex j) e.c:=by unfold xdnA; rw [x2]
 have hE:xdnE s ((j+1:Nat):Int) e.c=0:=by
  unfold xdnE
  rw [if_pos x1,hA,x2]
  unfold lessE'
  exact if_pos hle
 have hg:=H.g.done (h:=h) ((j+1:Nat):Int) e.c
 refine ⟨hE,?_⟩
 have hS:h.dnSt s ((j+1:Nat):Int) e.c=h.dn5 s ((j+1:Nat):Int) e.c:=if_pos hE
 rw [hS] at hg ⊢
 have E1:h.dn1 s ((j+1:Nat):Int) e.c=s.setAmt (keyL 19 [1]) (subW (s.left 1) (paysW (e.ex j) e.c)):=by
  unfold Hand.dn1 Hand.subSt Hand.st
  rw [hA,x2,hon,if_pos rfl,if_pos (by unfold lessE'; exact if_pos hle)]; rfl
 have E2:h.dnS s ((j+1:Nat):Int) e.c 1=(h.dn1 s ((j+1:Nat):Int) e.c).put (keyL 15 [((j+1:Nat):Int)]) emptyB:=del_put _ _
 have E3:h.dnS s ((j+1:Nat):Int) e.c 2=(h.dnS s ((j+1:Nat):Int) e.c 1).put (keyL 17 [((j+1:Nat):Int)]) emptyB:=del_put _ _
 have E4:h.dnS s ((j+1:Nat):Int) e.c 3=(h.dnS s ((j+1:Nat):Int) e.c 2).put (keyL 18 [((j+1:Nat):Int)]) emptyB:=del_put _ _
 have b1:XB (h.dn1 s ((j+1:Nat):Int) e.c):=by rw [E1]; exact H.g.b.put (key25 19 (by simp)) _
 have b2:XB (h.dnS s ((j+1:Nat):Int) e.c 1):=by rw [E2]; exact b1.put (key25 15 (by simp)) _
 have b3:XB (h.dnS s ((j+1:Nat):Int) e.c 2):=by rw [E3]; exact b2.put (key25 17 (by simp)) _
 have b4:XB (h.dnS s ((j+1:Nat):Int) e.c 3):=by rw [E4]; exact b3.put (key25 18 (by simp)) _
 have t1:Same [19] s (h.dn1 s ((j+1:Nat):Int) e.c):=by rw [E1]; exact H.g.b.same (by decide) _ _
 have t2:Same [15] (h.dn1 s ((j+1:Nat):Int) e.c) (h.dnS s ((j+1:Nat):Int) e.c 1):=by rw [E2]; exact b1.same (by decide) _ _
 have t3:Same [17] (h.dnS s ((j+1:Nat):Int) e.c 1) (h.dnS s ((j+1:Nat):Int) e.c 2):=by rw [E3]; exact b2.same (by decide) _ _
 have t4:Same [18] (h.dnS s ((j+1:Nat):Int) e.c 2) (h.dnS s ((j+1:Nat):Int) e.c 3):=by rw [E4]; exact b3.same (by decide) _ _
 have E5:∃ v,h.dn5 s ((j+1:Nat):Int) e.c=(h.dnS s ((j+1:Nat):Int) e.c 3).setInt (keyL 20 [(s.ex ((j+1:Nat):Int)).st]) v:=by
  unfold Hand.dn5
  exact ⟨_,rfl⟩
 obtain ⟨v5,E5⟩:=E5
 have t5:Same [20] (h.dnS s ((j+1:Nat):Int) e.c 3) (h.dn5 s ((j+1:Nat):Int) e.c):=by
  rw [E5]
  generalize h.dnS s ((j+1:Nat):Int) e.c 3=s4 at *
  exact b4.same (by decide) _ _
 clear E5
 clear hS
 generalize h.dn5 s ((j+1:Nat):Int) e.c=s5 at *
 generalize h.dnS s ((j+1:Nat):Int) e.c 3=s4 at *
 generalize h.dnS s ((j+1:Nat):Int) e.c 2=s3 at *
 generalize h.dnS s ((j+1:Nat):Int) e.c 1=s2 at *
 generalize h.dn1 s ((j+1:Nat):Int) e.c=s1 at *
 have nn:∀ y∈[(1:Int)],0≤y:=nn1 (by decide)
 have hk:∀ t,1≤t→t≤255→∀ n:Nat,n < 9223372036854775808→n≠j+1→¬ keyL t [((j+1:Nat):Int)]=keyL t [(n:Int)]:=fun t h1 h2 n hn hne=>key1_ne h1 h2 (by omega) hn (Ne.symm hne)
 have h15:∀ n:Nat,n < 9223372036854775808→n≠j+1→getE s5.ents (keyL 15 [(n:Int)])=getE s.ents (keyL 15 [(n:Int)]):=fun n hn hne=>by
  have nn:∀ y∈[(n:Int)],0≤y:=nn1 (by omega)
  rw [t5 _ _ (by decide) (by simp) nn,t4 _ _ (by decide) (by simp) nn,t3 _ _ (by decide) (by simp) nn,E2,getE_put b1.srt,if_neg (hk 15 (by decide) (by decide) n hn hne),t1 _ _ (by decide) (by simp) nn]
 refine ⟨hg,?_,fun i e' hi he' => ?_,fun n hn h1 => ?_,?_⟩
 ·rw [t5.int (by decide) (by simp) (by simp),t4.int (by decide) (by simp) (by simp),t3.int (by decide) (by simp) (by simp),t2.int (by decide) (by simp) (by simp),t1.int (by decide) (by simp) (by simp)]; exact H.cnt
 ·have hi':=(List.getElem?_eq_some_iff.1 he').1
  have nn:∀ y∈[((i+1:Nat):Int)],0≤y:=nn1 (by omega)
  have h17:getE s5.ents (keyL 17 [((i+1:Nat):Int)])=getE s.ents (keyL 17 [((i+1:Nat):Int)]):=by
   rw [t5 _ _ (by decide) (by simp) nn,t4 _ _ (by decide) (by simp) nn,E3,getE_put b2.srt,if_neg (hk 17 (by decide) (by decide) (i+1) (by omega) (by omega)),t2 _ _ (by decide) (by simp) nn,t1 _ _ (by decide) (by simp) nn]
  have h18:getE s5.ents (keyL 18 [((i+1:Nat):Int)])=getE s.ents (keyL 18 [((i+1:Nat):Int)]):=by
   rw [t5 _ _ (by decide) (by simp) nn,E4,getE_put b3.srt,if_neg (hk 18 (by decide) (by decide) (i+1) (by omega) (by omega)),t3 _ _ (by decide) (by simp) nn,t2 _ _ (by decide) (by simp) nn,t1 _ _ (by decide) (by simp) nn]
  obtain ⟨h4,h5⟩:=ex_of (h15 (i+1) (by omega) (by omega)) h17 h18
  rw [h4,h5]
  exact H.ex i e' (by omega) he'
 ·by_cases e1:n=j+1
  ·subst e1
   have nn:∀ y∈[((j+1:Nat):Int)],0≤y:=nn1 (by omega)
   rw [t5 _ _ (by decide) (by simp) nn,t4 _ _ (by decide) (by simp) nn,t3 _ _ (by decide) (by simp) nn,E2,getE_put b1.srt,if_pos rfl,if_pos rfl]
  ·rw [h15 n hn e1]
   exact H.non n hn (by omega)
 ·have hl:uN (s5.left 1)=uN (s.left 1) - uN e.wo*uN e.c / uN e.mx:=by
   unfold St.left
   rw [t5.amt (by decide) (by simp) nn,t4.amt (by decide) (by simp) nn,t3.amt (by decide) (by simp) nn,t2.amt (by decide) (by simp) nn,E1,amt_own H.g.b.srt (keyL_some 19 nn) (subW_ok _ _),← hpay]
   exact sub_own (amt_ok _ _) hle
  rw [hl]
  exact CvInv.tail hcv
theorem QV.grown {R:World→List Nat→St→Prop} {w W W':World} {L:List Nat} {s:St} {rs:List (Nat × Obj)} (h:QV R w L s rs W) {row:Option Nat} (hg:W.grownBy W' row) (hr:∀ b,row=some b→∃ o,(b,o)∈rs)
  (qs ns:List (Nat × Obj)) (hqs:∀ x∈qs,x∈rs∧row≠some x.1) (hns:∀ g o,(g,o)∈ns→W'.heap[g]? = some o∧(row=some g∨W.heap.size≤g)):QV R w L s (ns ++ qs) W':=by
 obtain ⟨L',h1,h2,h3⟩:=h.on
 have hnr:∀ k∈L',row≠some k:=fun k hk e=>by
  obtain ⟨o,ho⟩:=hr k e
  exact h3 k o ho hk
 have hge:∀ b,row=some b→w.heap.size≤b:=fun b e=>by
  obtain ⟨o,ho⟩:=hr b e
  exact h.le ho
 have hold:∀ x∈qs,W'.heap[x.1]? = some x.2:=fun x hx=>by
  obtain ⟨a1,a2⟩:=hqs x hx
  have:=h.row (g:=x.1) (o:=x.2) a1
  rw [hg.block x.1 (lt_of_at this) (fun e=>a2 e.symm)]; exact this
 refine ⟨h.ok,⟨L',h.ok.frame _ _ _ _ h1 hg.size fun k hk=>hg.block k (h.ok.lt _ _ _ h1 k hk) (fun e=>hnr k hk e.symm),⟨⟨hg.os.trans h2.fr.os,hg.tape.trans h2.fr.tape,hg.output.trans h2.fr.output,Nat.le_trans h2.fr.size hg.size,fun k hk hn => ?_⟩,h2.own⟩,fun g o hm => ?_⟩,fun g o hm => ?_⟩
 ·rw [hg.block k (Nat.lt_of_lt_of_le hk h2.fr.size) (fun e=>by have:=hge k e.symm; omega)]
  exact h2.fr.block k hk hn
 ·rcases List.mem_append.1 hm with hm | hm
  ·rcases (hns g o hm).2 with e | e
   ·exact fun hk=>hnr g hk e
   ·exact fun hk=>by have:=h.ok.lt _ _ _ h1 g hk; omega
  ·exact h3 g o (hqs _ hm).1
 ·rcases List.mem_append.1 hm with hm | hm
  ·refine ⟨?_,(hns g o hm).1⟩
   rcases (hns g o hm).2 with e | e
   ·exact hge g e
   ·exact Nat.le_trans h.size e
  ·exact ⟨h.le (hqs _ hm).1,hold _ hm⟩
structure Slot where
 t:TypeId
 sz:Nat
 v:Value
 n:Nat
 xs:List Value
def Slot.At (a:Slot) (W:World):Prop:=Own W a.t a.sz a.v a.n a.xs
theorem Slot.At.ns {a:Slot} {W:World} (h:a.At W):∃ ns:List (Nat × Obj),(∀ k,a.v.ownBlock=some k→∃ o,(k,o)∈ns)∧∀ g o,(g,o)∈ns→W.heap[g]? = some o∧a.v.ownBlock=some g:=by
 rcases h.2 with ⟨e,_⟩ | ⟨g,cap,cur,e,hg,_⟩
 ·exact ⟨[],(fun k hk=>by rw [e] at hk; simp [Value.ownBlock] at hk),fun g o hm=>by cases hm⟩
 ·refine ⟨[(g,.cells cur a.t (0,0))],fun k hk => ?_,fun g' o hm => ?_⟩
  ·rw [e] at hk; simp [Value.ownBlock] at hk; subst hk
   exact ⟨_,List.mem_singleton.2 rfl⟩
  ·rw [List.mem_singleton] at hm; cases hm
   exact ⟨hg,by rw [e]; rfl⟩
structure EV (wb:World) (q:Option Addr) (L:List Nat) (s:St) (a b c:Slot) (rs:List (Nat × Obj)) (W:World):Prop where
 t:∃ T,HV ⟨q,true,L⟩ wb s (T ++ rs) W∧(∀ k,a.v.ownBlock=some k∨b.v.ownBlock=some k∨c.v.ownBlock=some k→∃ o,(k,o)∈T)∧∀ x∈T,∀ y∈rs,x.1≠y.1
 fa:a.At W
 fb:b.At W
 fc:c.At W
 dab:∀ k,a.v.ownBlock=some k→b.v.ownBlock≠some k
 dac:∀ k,a.v.ownBlock=some k→c.v.ownBlock≠some k
 dbc:∀ k,b.v.ownBlock=some k→c.v.ownBlock≠some k
section
variable {wb W W':World} {q:Option Addr} {L:List Nat} {s s':St} {a b c:Slot} {rs rs':List (Nat × Obj)}
theorem EV.swap (h:EV wb q L s a b c rs W):EV wb q L s b a c rs W:=by
 obtain ⟨T,h1,h2,h3⟩:=h.t
 exact ⟨⟨T,h1,fun k hk=>h2 k (by rcases hk with hk | hk | hk; exact .inr (.inl hk); exact .inl hk; exact .inr (.inr hk)),h3⟩,h.fb,h.fa,h.fc,fun k hk e=>h.dab k e hk,h.dbc,h.dac⟩
theorem EV.rot (h:EV wb q L s a b c rs W):EV wb q L s c a b rs W:=by
 obtain ⟨T,h1,h2,h3⟩:=h.t
 exact ⟨⟨T,h1,fun k hk=>h2 k (by rcases hk with hk | hk | hk; exact .inr (.inr hk); exact .inl hk; exact .inr (.inl hk)),h3⟩,h.fc,h.fa,h.fb,fun k hk e=>h.dac k e hk,fun k hk e=>h.dbc k e hk,h.dab⟩
theorem EV.start (h:HV ⟨q,true,L⟩ wb s rs W) (ta tb tc:TypeId) (za zb zc:Nat):EV wb q L s ⟨ta,za,.slice none 0 0,0,[]⟩ ⟨tb,zb,.slice none 0 0,0,[]⟩ ⟨tc,zc,.slice none 0 0,0,[]⟩ rs W :=
 ⟨⟨[],h,fun k hk=>by simp [Value.ownBlock] at hk,fun x hx=>by cases hx⟩,Own.nil _ _ _,Own.nil _ _ _,Own.nil _ _ _,fun k hk=>by simp [Value.ownBlock] at hk,fun k hk=>by simp [Value.ownBlock] at hk,fun k hk=>by simp [Value.ownBlock] at hk⟩
theorem EV.to (h:EV wb q L s a b c rs W) (hq:∀ T,HV ⟨q,true,L⟩ wb s (T ++ rs) W→(∀ x∈T,∀ y∈rs,x.1≠y.1)→HV ⟨q,true,L⟩ wb s' (T ++ rs') W'∧∀ x∈T,∀ y∈rs',x.1≠y.1):EV wb q L s' a b c rs' W':=by
 obtain ⟨T,h1,h2,h3⟩:=h.t
 obtain ⟨g1,g2⟩:=hq T h1 h3
 have fr:∀ k,a.v.ownBlock=some k∨b.v.ownBlock=some k∨c.v.ownBlock=some k→W'.heap[k]? = W.heap[k]?:=fun k hk=>by
  obtain ⟨o,ho⟩:=h2 k hk
  rw [g1.row (List.mem_append_left _ ho),h1.row (List.mem_append_left _ ho)]
 exact ⟨⟨T,g1,h2,g2⟩,h.fa.frame fun k hk=>fr k (.inl hk),h.fb.frame fun k hk=>fr k (.inr (.inl hk)),h.fc.frame fun k hk=>fr k (.inr (.inr hk)),h.dab,h.dac,h.dbc⟩
theorem EV.below (h:EV wb q L s a b c rs W) (hb:Below W.heap.size W W'):EV wb q L s a b c rs W':=h.to fun _ h1 h3=>⟨h1.below hb,h3⟩
theorem EV.drew (h:EV wb q L s a b c rs W):EV wb q L s a b c rs W.drew:=h.below (bl_drew (Below.refl _ _))
theorem EV.alloc (h:EV wb q L s a b c rs W) (o:Obj):EV wb q L s a b c ((W.heap.size,o) :: rs) (W.alloc o):=h.to fun T h1 h3=>by
 refine ⟨(h1.alloc o).less fun x hx => ?_,fun x hx y hy => ?_⟩
 ·rcases List.mem_append.1 hx with hx | hx
  ·exact List.mem_cons_of_mem _ (List.mem_append_left _ hx)
  ·rcases List.mem_cons.1 hx with rfl | hx
   ·exact List.mem_cons_self
   ·exact List.mem_cons_of_mem _ (List.mem_append_right _ hx)
 ·rcases List.mem_cons.1 hy with rfl | hy
  ·have:=lt_of_at (h1.row (g:=x.1) (o:=x.2) (List.mem_append_left _ hx))
   show x.1≠W.heap.size
   omega
  ·exact h3 x hx y hy
theorem EV.less (h:EV wb q L s a b c rs W) (hs:∀ x,x∈rs'→x∈rs):EV wb q L s a b c rs' W:=h.to fun T h1 h3 =>
 ⟨h1.less fun x hx=>by
  rcases List.mem_append.1 hx with hx | hx
  ·exact List.mem_append_left _ hx
  ·exact List.mem_append_right _ (hs x hx),fun x hx y hy=>h3 x hx y (hs y hy)⟩
theorem EV.row (h:EV wb q L s a b c rs W) {g:Nat} {o:Obj} (hm:(g,o)∈rs):W.heap[g]? = some o:=by
 obtain ⟨T,h1,_⟩:=h.t
 exact h1.row (List.mem_append_right _ hm)
theorem EV.call (h:EV wb q L s a b c rs W) {f:FuncId} {args:Array Value} {v:Value} (hC:∀ L',QSt W ⟨q,true,L'⟩ s→Calls Tryz.prog f args W fun e W'=>e = .returned v∧QOn W ⟨q,true,L'⟩ s' W'):Calls Tryz.prog f args W fun e W'=>e = .returned v∧EV wb q L s' a b c rs W':=by
 obtain ⟨T,h1,h2,h3⟩:=h.t
 refine (QV.call h1 hC).mono fun e W' ⟨he,hq⟩=>⟨he,?_⟩
 have fr:∀ k,a.v.ownBlock=some k∨b.v.ownBlock=some k∨c.v.ownBlock=some k→W'.heap[k]? = W.heap[k]?:=fun k hk=>by
  obtain ⟨o,ho⟩:=h2 k hk
  rw [hq.row (List.mem_append_left _ ho),h1.row (List.mem_append_left _ ho)]
 exact ⟨⟨T,hq,h2,h3⟩,h.fa.frame fun k hk=>fr k (.inl hk),h.fb.frame fun k hk=>fr k (.inr (.inl hk)),h.fc.frame fun k hk=>fr k (.inr (.inr hk)),h.dab,h.dac,h.dbc⟩
theorem EV.st (h:EV wb q L s a b c rs W):∃ L',QSt W ⟨q,true,L'⟩ s:=by
 obtain ⟨T,h1,_⟩:=h.t
 obtain ⟨L',h2,_⟩:=h1.on
 exact ⟨L',h2⟩
theorem EV.reads (h:EV wb q L s a b c rs W) {f:FuncId} {args:Array Value} {v:Value} (hC:∀ L',QSt W ⟨q,true,L'⟩ s→Calls Tryz.prog f args W fun e W'=>e = .returned v∧Below W.heap.size W W'):Calls Tryz.prog f args W fun e W'=>e = .returned v∧EV wb q L s a b c rs W':=by
 obtain ⟨L',h1⟩:=h.st
 exact (hC L' h1).mono fun e W' ⟨he,hb⟩=>⟨he,h.below hb⟩
theorem EV.turn (h:EV wb q L s a b c rs W) {g:Nat} {o o':Obj} (hm:(g,o)∈rs) (hW:W'.heap[g]? = some o') (hs:W'.heap.size=W.heap.size) (ho:∀ k,k≠g→W'.heap[k]? = W.heap[k]?) (hx:W'.os=W.os∧W'.tape=W.tape∧W'.output=W.output)
  (qs:List (Nat × Obj)) (hqs:∀ x,x∈qs→x∈rs∧x.1≠g):EV wb q L s a b c ((g,o') :: qs) W':=h.to fun T h1 h3=>by
 have:=QV.turn h1 (List.mem_append_right _ hm) hW hs ho hx (T ++ qs) fun x hx=>by
  rcases List.mem_append.1 hx with hx | hx
  ·exact ⟨List.mem_append_left _ hx,h3 x hx (g,o) hm⟩
  ·exact ⟨List.mem_append_right _ (hqs x hx).1,(hqs x hx).2⟩
 refine ⟨this.less fun x hx => ?_,fun x hx y hy => ?_⟩
 ·rcases List.mem_append.1 hx with hx | hx
  ·exact List.mem_cons_of_mem _ (List.mem_append_left _ hx)
  ·rcases List.mem_cons.1 hx with rfl | hx
   ·exact List.mem_cons_self
   ·exact List.mem_cons_of_mem _ (List.mem_append_right _ hx)
 ·rcases List.mem_cons.1 hy with rfl | hy
  ·exact h3 x hx (g,o) hm
  ·exact h3 x hx y (hqs y hy).1
theorem EV.setRow (h:EV wb q L s a b c rs W) {g:Nat} {cs cs':Array Value} {t:TypeId} (hm:(g,Obj.cells cs t (0,0))∈rs) (qs:List (Nat × Obj)) (hqs:∀ x,x∈qs→x∈rs∧x.1≠g):EV wb q L s a b c ((g,Obj.cells cs' t (0,0)) :: qs) (W.setRow g cs') :=
 h.turn hm (setRow_heap _ _ _ _ _ _ (h.row hm)) (setRow_size _ _ _) (fun _ hk=>setRow_other _ _ _ _ hk) ⟨rfl,rfl,rfl⟩ qs hqs
theorem EV.put4 (h:EV wb q L s a b c rs W) {g:Nat} {y:W4} (x:W4) (hm:(g,uO y)∈rs) (qs:List (Nat × Obj)) (hqs:∀ x,x∈qs→x∈rs∧x.1≠g) :
  EV wb q L s a b c ((g,uO x) :: qs) ((((W.setCell ⟨g,0,none⟩ (.int .u64 x.1)).setCell ⟨g,1,none⟩ (.int .u64 x.2.1)).setCell ⟨g,2,none⟩ (.int .u64 x.2.2.1)).setCell ⟨g,3,none⟩ (.int .u64 x.2.2.2)) :=
 h.turn hm (Proofs.YtnkilceibkkjlaaGreat.put4 (h.row hm) x) (by simp) (fun _ hk=>by rw [Below.heap_setCell _ _ _ _ hk,Below.heap_setCell _ _ _ _ hk,Below.heap_setCell _ _ _ _ hk,Below.heap_setCell _ _ _ _ hk]) ⟨rfl,rfl,rfl⟩ qs hqs
theorem EV.regrow (h:EV wb q L s a b c rs W) (hg:W.grownBy W' a.v.ownBlock) {v':Value} {n':Nat} {xs':List Value} (ho:Slot.At ⟨a.t,a.sz,v',n',xs'⟩ W') (hb:∀ k,v'.ownBlock=some k→a.v.ownBlock=some k∨W.heap.size≤k):EV wb q L s ⟨a.t,a.sz,v',n',xs'⟩ b c rs W':=by
 obtain ⟨T,h1,h2,h3⟩:=h.t
 obtain ⟨ns,n1,n2⟩:=ho.ns
 have hrs:∀ x∈rs,a.v.ownBlock≠some x.1:=fun x hx e=>by
  obtain ⟨o,ho⟩:=h2 x.1 (.inl e)
  exact h3 _ ho x hx rfl
 have hQ:=QV.grown h1 hg (fun k hk=>by
  obtain ⟨o,ho⟩:=h2 k (.inl hk)
  exact ⟨o,List.mem_append_left _ ho⟩) (T.filter (fun x=>decide (a.v.ownBlock≠some x.1)) ++ rs) ns (fun x hx=>by
  rcases List.mem_append.1 hx with hx | hx
  ·obtain ⟨m1,m2⟩:=List.mem_filter.1 hx
   exact ⟨List.mem_append_left _ m1,of_decide_eq_true m2⟩
  ·exact ⟨List.mem_append_right _ hx,hrs x hx⟩) (fun g o hm=>⟨(n2 g o hm).1,hb g (n2 g o hm).2⟩)
 rw [← List.append_assoc] at hQ
 have hkeep:∀ {y:Slot},y.At W→(∀ k,a.v.ownBlock=some k→y.v.ownBlock≠some k)→y.At W':=fun hy hd=>hy.frame fun k hk=>hg.block k (hy.lt k hk) (fun e=>hd k e.symm hk)
 have hdis:∀ {y:Slot},y.At W→(∀ k,a.v.ownBlock=some k→y.v.ownBlock≠some k)→∀ k,v'.ownBlock=some k→y.v.ownBlock≠some k:=fun hy hd k hk e=>by
  rcases hb k hk with h4 | h4
  ·exact hd k h4 e
  ·have:=hy.lt k e; omega
 have hin:∀ k,b.v.ownBlock=some k∨c.v.ownBlock=some k→∃ o,(k,o)∈T.filter (fun x=>decide (a.v.ownBlock≠some x.1)):=fun k hk=>by
  obtain ⟨o,ho⟩:=h2 k (.inr hk)
  refine ⟨o,List.mem_filter.2 ⟨ho,decide_eq_true fun e => ?_⟩⟩
  rcases hk with hk | hk
  ·exact h.dab k e hk
  ·exact h.dac k e hk
 refine ⟨⟨_,hQ,fun k hk => ?_,fun x hx y hy => ?_⟩,ho,hkeep h.fb h.dab,hkeep h.fc h.dac,hdis h.fb h.dab,hdis h.fc h.dac,h.dbc⟩
 ·rcases hk with hk | hk
  ·obtain ⟨o,ho⟩:=n1 k hk
   exact ⟨o,List.mem_append_left _ ho⟩
  ·obtain ⟨o,ho⟩:=hin k hk
   exact ⟨o,List.mem_append_right _ ho⟩
 ·rcases List.mem_append.1 hx with hx | hx
  ·rcases hb _ (n2 x.1 x.2 hx).2 with e | e
   ·exact fun e2=>hrs y hy (by rw [← e2]; exact e)
   ·have:=lt_of_at (h1.row (g:=y.1) (o:=y.2) (List.mem_append_right _ hy))
    omega
  ·exact h3 x (List.mem_filter.1 hx).1 y hy
theorem EV.app (h:EV wb q L s a b c rs W) {m:Nat} {news:List Value} {v':Value} (hA:Appended W a.t a.sz a.v a.n m a.xs news v' W'):EV wb q L s ⟨a.t,a.sz,v',a.n+m,a.xs ++ news⟩ b c rs W' :=
 h.regrow hA.grown hA.own hA.block
end
theorem Own.setAt {W:World} {e:TypeId} {sz:Nat} {v:Value} {n:Nat} {xs:List Value} (h:Own W e sz v n xs) {g:Nat} (hg:v.ownBlock=some g) (j:Nat) (x:Value):Own (W.setCell ⟨g,j,none⟩ x) e sz v n (xs.set j x)∧W.grownBy (W.setCell ⟨g,j,none⟩ x) (some g):=by
 refine ⟨⟨by rw [List.length_set]; exact h.1,?_⟩,⟨rfl,rfl,rfl,by simp,fun k _ hk=>Below.heap_setCell _ _ _ k (fun e=>hk (by rw [e]))⟩⟩
 rcases h.2 with ⟨rfl,_⟩ | ⟨g',cap,cur,rfl,hgg,h1,h2,h3,h4⟩
 ·simp [Value.ownBlock] at hg
 ·simp [Value.ownBlock] at hg
  subst hg
  refine .inr ⟨g',cap,cur.setIfInBounds j x,rfl,heap_setCell_same _ _ _ _ _ _ hgg,h1,h2,by simpa using h3,?_⟩
  rw [Array.toList_setIfInBounds,← h4,List.take_set]
theorem grown_then {w w1 w2:World} {row:Option Nat} (h:w.grownBy w1 row) (h2:w1.grownBy w2 row):w.grownBy w2 row :=
 ⟨h2.os.trans h.os,h2.tape.trans h.tape,h2.output.trans h.output,Nat.le_trans h.size h2.size,fun k hk hr=>(h2.block k (Nat.lt_of_lt_of_le hk h.size) hr).trans (h.block k hk hr)⟩
theorem EV.set4 {wb W:World} {q:Option Addr} {L:List Nat} {s:St} {a b c:Slot} {rs:List (Nat × Obj)} (h:EV wb q L s a b c rs W) {g:Nat} (hg:a.v.ownBlock=some g) (j:Nat) (x0 x1 x2 x3:Value) :
  EV wb q L s ⟨a.t,a.sz,a.v,a.n,(((a.xs.set j x0).set (j+1) x1).set (j+2) x2).set (j+3) x3⟩ b c rs ((((W.setCell ⟨g,j,none⟩ x0).setCell ⟨g,j+1,none⟩ x1).setCell ⟨g,j+2,none⟩ x2).setCell ⟨g,j+3,none⟩ x3):=by
 obtain ⟨o1,g1⟩:=Own.setAt h.fa hg j x0
 obtain ⟨o2,g2⟩:=Own.setAt o1 hg (j+1) x1
 obtain ⟨o3,g3⟩:=Own.setAt o2 hg (j+2) x2
 obtain ⟨o4,g4⟩:=Own.setAt o3 hg (j+3) x3
 refine h.regrow (by rw [hg]; exact grown_then (grown_then (grown_then g1 g2) g3) g4) o4 (fun k hk => .inl hk)
def PairRep (q:Option Addr) (on:Bool) (b:Nat) (m:St):World→List Nat→St→Prop:=fun W K s=>∃ L M,K=L ++ M∧(∀ k∈L,k∉M)∧QSt W ⟨q,on,L⟩ s∧RRep W b m M
abbrev PV (h:Hand) (b:Nat) (m:St) (w:World) (K:List Nat) (s:St) (rs:List (Nat × Obj)) (W:World):Prop:=QV (PairRep h.ptr h.on b m) w K s rs W
def POn (h:Hand) (b:Nat) (w:World) (K:List Nat) (s m:St) (W:World):Prop:=∃ K',PairRep h.ptr h.on b m W K' s∧Step w K W K'
theorem PV.done {h:Hand} {b:Nat} {m:St} {w W:World} {K:List Nat} {s:St} {rs:List (Nat × Obj)} (hP:PV h b m w K s rs W):POn h b w K s m W:=QV.done hP
theorem XG.congr {k:Nat} {s m:St} (hg:XG k s) (he:s.ents=m.ents):XG k m:=by
 obtain ⟨e,p⟩:=s
 obtain ⟨e',p'⟩:=m
 change e=e' at he
 subst he
 exact ⟨⟨hg.b.srt,hg.b.keys,hg.b.noE⟩,hg.rows,hg.mono,hg.hlen,hg.cnt,hg.op⟩
theorem XG.ad26 {k:Nat} {h:Hand} {s:St} (hg:XG k s) (hk:k < 1000000000) {x:Ex} (hx:x.Ok) (hgd:x.good=true):XG (k+1) (h.ad2 s x)∧XG (k+2) (h.ad6 s x):=by
 have h1:=hg.note (by omega) hx hgd
 have h2:XG (k+1) (h.ad2 s x):=by
  unfold Hand.ad2 Hand.addSt
  split
  ·exact h1.st (h1.put (.inr (.inr rfl)) (by simp) _)
  ·exact h1
 have h3:XG (k+2) (h.ad3 s x):=h2.setInt14 (by omega)
 obtain ⟨g1,g2,g3,g4,g5,_⟩:=Ex.good_at hgd
 have h4:XG (k+2) (h.ad4 s x):=h3.put15 _ (by unfold Hand.adN; omega) (by
  rw [rowOf_row _ (fun n hn=>by
   simp only [List.mem_cons,List.not_mem_nil,or_false] at hn
   have:=hx.st; have:=hx.op; have:=hx.sg; have:=hx.bl
   unfold I63 at *
   rcases hn with rfl | rfl | rfl | rfl <;> omega)]
  simp)
 have h5:XG (k+2) (h.ad5 s x):=h4.put (.inl rfl) (by simp) _
 exact ⟨h2,h5.put (.inr (.inl rfl)) (by simp) _⟩
end Go.Proofs.YtnkilceibkkjlaaGreat
