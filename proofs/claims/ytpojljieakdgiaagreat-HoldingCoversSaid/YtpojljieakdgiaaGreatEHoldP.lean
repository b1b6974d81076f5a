/- What is proved here: holding.undo of the program as a deferred call. Its conditions: sizes, keys in order. holdings of the program: Put. Its conditions: sizes. holdings of the program: Put, whole. Its conditions: sizes. -/
import Derived.Test.YtpojljieakdgiaaGreatEUndG
import Derived.Test.YtpojljieakdgiaaGreatEHoldD
set_option maxRecDepth 100000
set_option maxHeartbeats 16000000
namespace Go.Proofs.YtpojljieakdgiaaGreat
open Go.RowKit
abbrev eO (e:Int):Obj:=.cells #[.int .i64 e] 33
theorem QV.callD {R:World→List Nat→St→Prop} {w W:World} {L:List Nat} {s s':St} {rs:List (Nat × Obj)} (h:QV R w L s rs W) {f:FuncId} {args:Array Value} {u:FrameMode} {v:Value} (hC:∀ L',R W L' s→CallsD Tryz.prog f args u W fun e u' W'=>u'=u∧(e = .returned v∧∃ L'',R W' L'' s'∧Step W L' W' L'')) :
  CallsD Tryz.prog f args u W fun e u' W'=>u'=u∧(e = .returned v∧QV R w L s' rs W'):=by
 obtain ⟨L',h1,h2,h3⟩:=h.on
 refine (hC L' h1).mono fun e u' W' ⟨hu,he,L2,hR2,st⟩=>⟨hu,he,h.ok,⟨L2,hR2,h2.trans st,fun g o hm hk => ?_⟩,fun g o hm=>⟨h.le hm,(st.fr.block g (lt_of_at (h.row hm)) (h3 g o hm)).trans (h.row hm)⟩⟩
 rcases st.own g hk with h4 | h4
 ·exact h3 g o hm h4
 ·exact absurd (lt_of_at (h.row hm)) (Nat.not_lt.2 h4)
theorem undo_d (w:World) (h:Hand) (s:St) (m g:Nat) (e:Int) (u:FrameMode) (hq:QSt w h s) (hg:w.heap[g]? = some (eO e)) (hm:m≤s.past.length) (hz:s.size < 1000000000000) :
  CallsD Tryz.prog 56 #[.pointer h.ptr,.int .i64 m,.pointer (some ⟨g,0,none⟩)] u w fun en u' w'=>u'=u∧(en = .returned (.tuple #[])∧QOn w h (if e=0 then s else h.st s (s.undo m)) w'):=by
 have HU:=Lib.hid (undo_q w h s m hq hm hz)
 have HQ:=Lib.hid (QOn.start hq)
 have hc:w.cell? ⟨g,0,none⟩=some (.int .i64 e):=by rw [cell_of_row _ _ _ _ _ _ hg]; rfl
 generalize h.st s (s.undo m)=s1 at *
 clear hq hg hm hz
 by_cases he:e=0
 ·subst he
  rw [if_pos rfl]
  go_enter_d Tryz.func56,Tryz.ntmps56
  go_wp2_with fail
  go_end0
  exact ⟨rfl,HQ.out⟩
 ·rw [if_neg he]
  go_enter_d Tryz.func56,Tryz.ntmps56
  go_wp2_with fail
  refine Calls.mono HU.out ?_
  rintro e w2 ⟨⟨b,rfl⟩,hO⟩
  go_wp2_with fail
  go_end0
  exact ⟨rfl,hO⟩
def putC (a o t:Int) (x:W4):Prop:=x=(0,0,0,0)∨¬ uN x < M128∨a < 1∨t < 1∨o < 0
instance (a o t:Int) (x:W4):Decidable (putC a o t x):=by unfold putC; infer_instance
def Hand.putS1 (h:Hand) (s:St) (a t:Int) (m x:W4):St:=h.wr s a t (sumW (s.dep a t) x) (growW (s.dep a t) (s.fct a t) m x)
def Hand.putE (h:Hand) (s:St) (a o t:Int) (m x:W4):Int:=if putC a o t x then 2 else if m=(0,0,0,0) then 14 else if growB (s.dep a t) (s.fct a t) m x then moreE ((h.putS1 s a t m x).amt (keyL 12 [o,t])) x else 6
def Hand.putSt (h:Hand) (s:St) (a o t:Int) (m x:W4):St:=if h.putE s a o t m x=0 then h.addSt (h.putS1 s a t m x) (keyL 12 [o,t]) x else s
theorem putSt_no {h:Hand} {s:St} {a o t:Int} {m x:W4} {n:Int} (he:h.putE s a o t m x=n) (hn:n≠0):h.putSt s a o t m x=s:=by
 unfold Hand.putSt; rw [he,if_neg hn]
theorem put_c {h:Hand} {s:St} {a o t:Int} {m x:W4} (hc:putC a o t x):h.putE s a o t m x=2∧h.putSt s a o t m x=s:=by
 have he:h.putE s a o t m x=2:=by unfold Hand.putE; rw [if_pos hc]
 exact ⟨he,putSt_no he (by decide)⟩
theorem put_m {h:Hand} {s:St} {a o t:Int} {m x:W4} (hc:¬ putC a o t x) (hm:m=(0,0,0,0)):h.putE s a o t m x=14∧h.putSt s a o t m x=s:=by
 have he:h.putE s a o t m x=14:=by unfold Hand.putE; rw [if_neg hc,if_pos hm]
 exact ⟨he,putSt_no he (by decide)⟩
theorem put_g {h:Hand} {s:St} {a o t:Int} {m x:W4} (hc:¬ putC a o t x) (hm:m≠(0,0,0,0)) (hg:growB (s.dep a t) (s.fct a t) m x=false):h.putE s a o t m x=6∧h.putSt s a o t m x=s:=by
 have he:h.putE s a o t m x=6:=by unfold Hand.putE; rw [if_neg hc,if_neg hm,hg]; rfl
 exact ⟨he,putSt_no he (by decide)⟩
theorem st_undo_self (h:Hand) (s:St):h.st s (s.undo s.past.length)=s:=by
 have h1:=(Und.refl s).2
 unfold Hand.st; split
 ·exact h1
 ·rfl
theorem wr_srt (h:Hand) {s:St} (hs:Sorted s.ents) (a t:Int) (d f:W4):Sorted (h.wr s a t d f).ents:=by
 unfold Hand.wr Hand.wrD Hand.st
 cases h.on with
 | true=>exact put_srt (put_srt hs _ _) _ _
 | false=>exact hs
theorem put_s {h:Hand} {s:St} (hs:Sorted s.ents) {a o t:Int} {m x:W4} (hc:¬ putC a o t x) (hm:m≠(0,0,0,0)) (hg:growB (s.dep a t) (s.fct a t) m x=true) {n:Int} (hn:n=moreE ((h.putS1 s a t m x).amt (keyL 12 [o,t])) x) :
  h.putE s a o t m x=n∧(if n=0 then h.addSt (h.putS1 s a t m x) (keyL 12 [o,t]) x else h.st (h.addSt (h.putS1 s a t m x) (keyL 12 [o,t]) x) ((h.addSt (h.putS1 s a t m x) (keyL 12 [o,t]) x).undo s.past.length))=h.putSt s a o t m x∧s.past.length≤(h.addSt (h.putS1 s a t m x) (keyL 12 [o,t]) x).past.length:=by
 have he:h.putE s a o t m x=n:=by unfold Hand.putE; rw [if_neg hc,if_neg hm,if_pos hg,hn]
 have hU:Und s (h.putS1 s a t m x):=und_wr h s hs a t _ _
 refine ⟨he,?_,?_⟩
 ·unfold Hand.putSt
  rw [he]
  by_cases h0:n=0
  ·rw [if_pos h0,if_pos h0]
  ·rw [if_neg h0,if_neg h0]
   unfold Hand.addSt
   rw [← hn,if_neg h0]
   rw [hU.2]
   unfold Hand.putS1 Hand.wr Hand.wrD Hand.st
   split <;> rfl
 ·have h1:=hU.1
  unfold Hand.addSt Hand.st
  split
  ·split
   ·have h2:=hU.setAmt (k:=keyL 12 [o,t]) (x:=moreW ((h.putS1 s a t m x).amt (keyL 12 [o,t])) x) (wr_srt h hs a t _ _)
    exact h2.1
   ·exact h1
  ·exact h1
theorem results_cell_int {P:Program} {fn:Func} {p:Tmp} {ty:TypeId} (h:fn.results = #[.cell p ty]) (tmps:Array Value) (w:World) (g:Nat) (v:Value)
  (hp:tmps.getD p undef = .pointer (some ⟨g,0,none⟩)) (hr:(loadVar ty ⟨g,0,none⟩).run P w = .ok v w):(results fn tmps).run P w = .ok v w:=by
 have hp':tmps[p]?.getD undef = .pointer (some ⟨g,0,none⟩):=by simpa using hp
 simp [results,h,hp',asAddr,hr]
theorem results_err {fn:Func} {p:Tmp} (h:fn.results = #[.cell p 33]) (tmps:Array Value) (w:World) (g:Nat) (e:Int)
  (hp:tmps.getD p undef = .pointer (some ⟨g,0,none⟩)) (hg:w.heap[g]? = some (eO e)):(results fn tmps).run Tryz.prog w = .ok (.int .i64 e) w:=by
 have hc:w.cell? ⟨g,0,none⟩=some (.int .i64 e):=by rw [cell_of_row _ _ _ _ _ _ hg]; rfl
 refine results_cell_int h tmps w g _ hp ?_
 simp [loadVar,go_sem,hc]
theorem row1 {w:World} {g:Nat} {e:Int} (h:w.heap[g]? = some (eO e)):w.cell? ⟨g,0,none⟩=some (.int .i64 e)∧w.frozen? ⟨g,0,none⟩=false:=by
 refine ⟨by rw [cell_of_row _ _ _ _ _ _ h]; rfl,frozen_of_row _ _ _ _ _ h⟩
theorem put1 {w:World} {g:Nat} {e:Int} (h:w.heap[g]? = some (eO e)) (n:Int):(w.setCell ⟨g,0,none⟩ (.int .i64 n)).heap[g]? = some (eO n):=setCell_row _ h
theorem QV.put1 {R:World→List Nat→St→Prop} {w W:World} {L:List Nat} {s:St} {rs:List (Nat × Obj)} (h:QV R w L s rs W) {g:Nat} {e:Int} (n:Int) (hm:(g,eO e)∈rs) (qs:List (Nat × Obj)) (hqs:∀ x,x∈qs→x∈rs∧x.1≠g):QV R w L s ((g,eO n) :: qs) (W.setCell ⟨g,0,none⟩ (.int .i64 n)) :=
 h.turn hm (Proofs.YtpojljieakdgiaaGreat.put1 (h.row hm) n) (by simp) (fun _ hk=>Below.heap_setCell _ _ _ _ hk) ⟨rfl,rfl,rfl⟩ qs hqs
theorem QSt.srt {w:World} {h:Hand} {s:St} (hq:QSt w h s):Sorted s.ents:=by
 rcases hq with ⟨_,b,_,mb,es,clk,bv,pv,bs,hS,_⟩ | ⟨_,_,hs,_⟩
 ·exact hS.srt
 ·rw [hs]; exact List.Pairwise.nil
theorem put_cases {a o t:Int} {x:W4} (h:putC a o t x):x=(0,0,0,0)∨(x≠(0,0,0,0)∧decide (uN x < M128)=false)∨(x≠(0,0,0,0)∧decide (uN x < M128)=true∧(a < 1∨¬ a < 1∧(t < 1∨¬ t < 1∧o < 0))):=by
 by_cases h0:x=(0,0,0,0)
 ·exact .inl h0
 ·by_cases h1:uN x < M128
  ·refine .inr (.inr ⟨h0,decide_eq_true h1,?_⟩)
   rcases h with h | h | h | h | h
   ·exact absurd h h0
   ·exact absurd h1 h
   ·exact .inl h
   ·by_cases ha:a < 1
    ·exact .inl ha
    ·exact .inr ⟨ha,.inl h⟩
   ·by_cases ha:a < 1
    ·exact .inl ha
    ·by_cases ht:t < 1
     ·exact .inr ⟨ha,.inl ht⟩
     ·exact .inr ⟨ha,.inr ⟨ht,h⟩⟩
  ·exact .inr (.inl ⟨h0,decide_eq_false h1⟩)
theorem hPut_c (w:World) (h:Hand) (s:St) (a o t:Int) (m x:W4) (hxo:x.Ok) (hq:QSt w h s) (hc:putC a o t x) :
  Calls Tryz.prog 14 #[.pointer h.ptr,.int .i64 a,.int .i64 o,.int .i64 t,uV m,uV x] w fun e w'=>e = .returned (.int .i64 2)∧QOn w h s w':=by
 have hB:=(((HV.start hq).alloc (uO m)).alloc (uO x)).alloc (eO 0)
 rw [World.size_alloc,World.size_alloc] at hB
 have HA:Hid (∀ rs W,HV h w s rs W→Calls Tryz.prog 25 #[uV x] W fun e w'=>e = .returned (.bool (decide (uN x < M128)))∧HV h w s rs w'):=fun rs W hW=>hW.reads fun _ _=>wamount_any x hxo W
 have HB:=Lib.hid hB
 have HC:=Lib.hid (put_cases hc)
 clear hc
 by_cases hx0:x=(0,0,0,0)
 ·subst hx0
  have hE:∀ w,(Op.equalIn 10000 28 (.agg #[.int .u64 0,.int .u64 0,.int .u64 0,.int .u64 0]) (.agg #[.int .u64 0,.int .u64 0,.int .u64 0,.int .u64 0])).run Tryz.prog w = .ok true w:=fun w=>eqU (0,0,0,0) (0,0,0,0) w
  have hB2:=(((HV.start hq).alloc (uO m)).alloc (uO (0,0,0,0))).alloc (eO 2)
  rw [World.size_alloc,World.size_alloc] at hB2
  have HZ:=Lib.hid (hB2.row (g:=w.heap.size+2) (o:=eO 2) (by simp))
  have HD:=Lib.hid (QV.done hB2)
  clear hB hB2 hq HA HB HC
  go_enter_defers Tryz.func14,Tryz.ntmps14
  go_wp2_with fail
  exact ⟨_,results_err rfl _ _ (w.heap.size+2) 2 rfl HZ.out,rfl,HD.out⟩
 ·have HX0:=Lib.hid hx0
  have hE:∀ w,(Op.equalIn 10000 28 (uV x) (.agg #[.int .u64 0,.int .u64 0,.int .u64 0,.int .u64 0])).run Tryz.prog w = .ok false w:=fun w=>by
   have:=eqU x (0,0,0,0) w
   rwa [decide_eq_false hx0] at this
  clear hB hx0 hq
  generalize decide (uN x < M128)=bx at *
  go_enter_defers Tryz.func14,Tryz.ntmps14
  go_wp2_with fail
  refine Calls.mono (HA.out _ _ HB.out) ?_
  rintro e w3 ⟨rfl,hB3⟩
  have hz:=hB3.row (g:=w.heap.size+2) (o:=eO 0) (by simp)
  have HZ:=Lib.hid (put1 hz 2)
  have HD:=Lib.hid (QV.done (hB3.put1 (g:=w.heap.size+2) (e:=0) 2 (by simp) [] (fun _ hx=>by cases hx)))
  obtain ⟨c1,f1⟩:=row1 hz
  clear hB3 HB HA hE hz
  rcases HC.out with h1 | ⟨_,h1⟩ | ⟨_,h1,h2⟩
  ·exact absurd h1 HX0.out
  ·subst h1
   clear HC HX0
   go_wp2_with fail
   exact ⟨_,results_err rfl _ _ (w.heap.size+2) 2 rfl HZ.out,rfl,HD.out⟩
  ·subst h1
   clear HC HX0
   rcases h2 with h2 | ⟨h2,h3 | ⟨h3,h4⟩⟩
   ·have d1:decide (a < 1)=true:=decide_eq_true h2
    go_wp2_with fail
    exact ⟨_,results_err rfl _ _ (w.heap.size+2) 2 rfl HZ.out,rfl,HD.out⟩
   ·have d1:decide (a < 1)=false:=decide_eq_false (Int.not_lt.2 h2)
    have d2:decide (t < 1)=true:=decide_eq_true h3
    go_wp2_with fail
    exact ⟨_,results_err rfl _ _ (w.heap.size+2) 2 rfl HZ.out,rfl,HD.out⟩
   ·have d1:decide (a < 1)=false:=decide_eq_false (Int.not_lt.2 h2)
    have d2:decide (t < 1)=false:=decide_eq_false (Int.not_lt.2 h3)
    have d3:decide (o < 0)=true:=decide_eq_true h4
    go_wp2_with fail
    exact ⟨_,results_err rfl _ _ (w.heap.size+2) 2 rfl HZ.out,rfl,HD.out⟩
theorem undo_v {h:Hand} {w W:World} {s:St} {rs:List (Nat × Obj)} {g:Nat} {e:Int} {mk:Nat} (hW:HV h w s rs W) (hm:(g,eO e)∈rs) (hmk:mk≤s.past.length) (hz:s.size < 1000000000000) :
  CallsD Tryz.prog 56 #[.pointer h.ptr,.int .i64 mk,.pointer (some ⟨g,0,none⟩)] .returning W fun en u' W'=>u' = .returning∧(en = .returned (.tuple #[])∧HV h w (if e=0 then s else h.st s (s.undo mk)) rs W') :=
 hW.callD fun L' h1=>undo_d W ⟨h.ptr,h.on,L'⟩ s mk g e .returning h1 (hW.row hm) hmk hz
theorem putC_not {a o t:Int} {x:W4} (h:¬ putC a o t x):x≠(0,0,0,0)∧decide (uN x < M128)=true∧decide (a < 1)=false∧decide (t < 1)=false∧decide (o < 0)=false:=by
 unfold putC at h
 simp only [not_or,Classical.not_not] at h
 exact ⟨h.1,decide_eq_true h.2.1,decide_eq_false h.2.2.1,decide_eq_false h.2.2.2.1,decide_eq_false h.2.2.2.2⟩
theorem hPut_n (w:World) (h:Hand) (s:St) (f0:Nat) (a o t:Int) (m x:W4) (ha:I63 a) (ho:I63 o) (ht:I63 t) (hmo:m.Ok) (hxo:x.Ok) (hq:QSt w h s) (hf:s.Fit f0) (hm:f0 < 1000000000) (hc:¬ putC a o t x) :
  Calls Tryz.prog 14 #[.pointer h.ptr,.int .i64 a,.int .i64 o,.int .i64 t,uV m,uV x] w fun e w'=>e = .returned (.int .i64 (h.putE s a o t m x))∧QOn w h (h.putSt s a o t m x) w':=by
 have hB:=(((HV.start hq).alloc (uO m)).alloc (uO x)).alloc (eO 0)
 rw [World.size_alloc,World.size_alloc] at hB
 have HA:Hid (∀ rs W,HV h w s rs W→Calls Tryz.prog 25 #[uV x] W fun e w'=>e = .returned (.bool (decide (uN x < M128)))∧HV h w s rs w'):=fun rs W hW=>hW.reads fun _ _=>wamount_any x hxo W
 have HMk:Hid (∀ rs W,HV h w s rs W→Calls Tryz.prog 57 #[.pointer h.ptr] W fun e w'=>e = .returned (.int .i64 s.past.length)∧HV h w s rs w'):=fun rs W hW=>hW.reads fun L' h1=>(mark_q W ⟨h.ptr,h.on,L'⟩ s h1).mono fun e w' ⟨he,hw⟩=>⟨he,hw ▸ Below.refl _ _⟩
 have HR:Hid (∀ rs W,HV h w s rs W→Calls Tryz.prog 58 #[.pointer h.ptr,.int .i64 a,.int .i64 t] W fun e w'=>e = .returned (hV (s.dep a t) (s.fct a t))∧HV h w s rs w'):=fun rs W hW=>hW.reads fun L' h1=>hread_q W ⟨h.ptr,h.on,L'⟩ s f0 a t ha ht h1 hf (by omega)
 have HG:Hid (∀ rs W,HV h w s rs W→Calls Tryz.prog 59 #[uV (s.dep a t),uV (s.fct a t),uV m,uV x] W fun e w'=>e = .returned (.tuple #[uV (growW (s.dep a t) (s.fct a t) m x),.bool (growB (s.dep a t) (s.fct a t) m x)])∧HV h w s rs w'):=fun rs W hW=>hW.reads fun _ _=>fgrow_any _ _ m x (amt_ok _ _) (fct_ok _ _ _) hmo hxo W
 have HD:Hid (∀ rs W,HV h w s rs W→Calls Tryz.prog 60 #[uV (s.dep a t),uV x] W fun e w'=>e = .returned (.tuple #[uV (sumW (s.dep a t) x),.bool (sumB (s.dep a t) x)])∧HV h w s rs w'):=fun rs W hW=>hW.reads fun _ _=>uadd_is _ _ (amt_ok _ _) hxo W
 have HP:Hid (∀ W,Calls Tryz.prog 63 #[.int .i64 o,.int .i64 t] W fun e w'=>e = .returned (.string (keyL 12 [o,t]))∧Below W.heap.size W w'):=hpart_any o t ho ht
 have hf1:(h.putS1 s a t m x).Fit (f0+4):=Hand.wr_fit hf a t _ _
 have hf2:(h.addSt (h.putS1 s a t m x) (keyL 12 [o,t]) x).Fit (f0+6):=by
  unfold Hand.addSt; split
  ·exact Hand.st_fit (hf1.mono (by omega)) (hf1.setAmt _ _)
  ·exact hf1.mono (by omega)
 have HWR:Hid (∀ rs W,HV h w s rs W→Calls Tryz.prog 61 #[hV (sumW (s.dep a t) x) (growW (s.dep a t) (s.fct a t) m x),.pointer h.ptr,.int .i64 a,.int .i64 t] W fun e W'=>e = .returned (.tuple #[])∧HV h w (h.putS1 s a t m x) rs W'):=fun rs W hW=>QV.call hW fun L' h1=>hwrite_q W ⟨h.ptr,h.on,L'⟩ s f0 a t _ _ ha ht h1 hf (by omega)
 have HS:Hid (∀ rs W,HV h w (h.putS1 s a t m x) rs W→Calls Tryz.prog 62 #[.pointer h.ptr,.string (keyL 12 [o,t]),uV x] W fun e W'=>e = .returned (.int .i64 (moreE ((h.putS1 s a t m x).amt (keyL 12 [o,t])) x))∧HV h w (h.addSt (h.putS1 s a t m x) (keyL 12 [o,t]) x) rs W'):=fun rs W hW=>QV.call hW fun L' h1=>cAdd_q W ⟨h.ptr,h.on,L'⟩ _ (f0+4) _ x hxo h1 hf1 (by omega)
 have HM0:=Lib.hid (fun h1=>put_m (h:=h) (s:=s) (m:=m) hc h1)
 have HG0:=Lib.hid (fun h1 h2=>put_g (h:=h) (s:=s) (m:=m) hc h1 h2)
 have HS0:=Lib.hid (fun h1 h2=>put_s (h:=h) (s:=s) (m:=m) hq.srt hc h1 h2 rfl)
 have HU1:Hid (∀ rs W,HV h w s rs W→(w.heap.size+2,eO 6)∈rs→CallsD Tryz.prog 56 #[.pointer h.ptr,.int .i64 s.past.length,.pointer (some ⟨w.heap.size+2,0,none⟩)] .returning W fun en u' W'=>u' = .returning∧(en = .returned (.tuple #[])∧HV h w s rs W')):=fun rs W hW h1=>by
  have h2:=undo_v hW h1 (Nat.le_refl _) (Nat.lt_of_le_of_lt hf.size (by omega))
  rwa [if_neg (show ¬ (6:Int)=0 by decide),st_undo_self] at h2
 have HU2:Hid (∀ rs W (e:Int),HV h w (h.addSt (h.putS1 s a t m x) (keyL 12 [o,t]) x) rs W→(w.heap.size+2,eO e)∈rs→s.past.length≤(h.addSt (h.putS1 s a t m x) (keyL 12 [o,t]) x).past.length→CallsD Tryz.prog 56 #[.pointer h.ptr,.int .i64 s.past.length,.pointer (some ⟨w.heap.size+2,0,none⟩)] .returning W fun en u' W'=>u' = .returning∧(en = .returned (.tuple #[])∧HV h w (if e=0 then h.addSt (h.putS1 s a t m x) (keyL 12 [o,t]) x else h.st (h.addSt (h.putS1 s a t m x) (keyL 12 [o,t]) x) ((h.addSt (h.putS1 s a t m x) (keyL 12 [o,t]) x).undo s.past.length)) rs W')):=fun rs W e hW h1 h2 =>
  undo_v hW h1 h2 (Nat.lt_of_le_of_lt hf2.size (by omega))
 have HN:=putC_not hc
 have HB:=Lib.hid hB
 obtain ⟨hx0,hb1,hb2,hb3,hb4⟩:=HN
 rw [hb1] at HA
 have hE:∀ w,(Op.equalIn 10000 28 (uV x) (.agg #[.int .u64 0,.int .u64 0,.int .u64 0,.int .u64 0])).run Tryz.prog w = .ok false w:=fun w=>by
  have:=eqU x (0,0,0,0) w
  rwa [decide_eq_false hx0] at this
 generalize h.putSt s a o t m x=sx at *
 generalize h.putE s a o t m x=pe at *
 generalize moreE ((h.putS1 s a t m x).amt (keyL 12 [o,t])) x=le at *
 generalize h.addSt (h.putS1 s a t m x) (keyL 12 [o,t]) x=s2 at *
 generalize h.putS1 s a t m x=s1 at *
 generalize growB (s.dep a t) (s.fct a t) m x=gb at *
 generalize growW (s.dep a t) (s.fct a t) m x=gw at *
 generalize sumB (s.dep a t) x=sb at *
 generalize sumW (s.dep a t) x=sw at *
 generalize s.dep a t=d at *
 generalize s.fct a t=fc at *
 generalize keyL 12 [o,t]=kk at *
 generalize s.past.length=mk at *
 clear hB hq hf hf1 hf2 hc hx0 hb1
 go_enter_defers Tryz.func14,Tryz.ntmps14
 go_wp2_with fail
 refine Calls.mono (HA.out _ _ HB.out) ?_
 rintro e w3 ⟨rfl,hB3⟩
 clear HA HB
 obtain ⟨m0,m1,m2,m3,_⟩:=row4 (hB3.u4 (g:=w.heap.size) (x:=m) (by simp))
 have HB3:=Lib.hid hB3
 by_cases hm0:m=(0,0,0,0)
 ·obtain ⟨h1,h2⟩:=HM0.out hm0
  subst h1 h2
  have hE2:∀ w,(Op.equalIn 10000 28 (uV m) (.agg #[.int .u64 0,.int .u64 0,.int .u64 0,.int .u64 0])).run Tryz.prog w = .ok true w:=fun w=>by
   have:=eqU m (0,0,0,0) w
   rwa [decide_eq_true hm0] at this
  have hz:=hB3.row (g:=w.heap.size+2) (o:=eO 0) (by simp)
  have HZ:=Lib.hid (put1 hz 14)
  have HD2:=Lib.hid (QV.done (hB3.put1 (g:=w.heap.size+2) (e:=0) 14 (by simp) [] (fun _ hx=>by cases hx)))
  obtain ⟨c1,f1⟩:=row1 hz
  clear hB3 hz hm0 HMk HR HG HD HP HWR HS HM0 HG0 HS0 HU1 HU2 HB3
  go_wp2_with fail
  exact ⟨_,results_err rfl _ _ (w.heap.size+2) 14 rfl HZ.out,rfl,HD2.out⟩
 ·have HMm:=Lib.hid hm0
  have hE2:∀ w,(Op.equalIn 10000 28 (uV m) (.agg #[.int .u64 0,.int .u64 0,.int .u64 0,.int .u64 0])).run Tryz.prog w = .ok false w:=fun w=>by
   have:=eqU m (0,0,0,0) w
   rwa [decide_eq_false hm0] at this
  clear hB3 hm0 HM0
  go_wp2_with fail
  refine Calls.mono (HMk.out _ _ HB3.out) ?_
  rintro e w4 ⟨rfl,hB4⟩
  clear m0 m1 m2 m3 HB3 HMk hE hE2
  have HB4:=Lib.hid hB4
  clear hB4
  go_wp2_with fail
  refine Calls.mono (HR.out _ _ HB4.out) ?_
  rintro e w5 ⟨rfl,hB5⟩
  have hB6:=hB5.alloc (hO d fc)
  clear hB5 HB4 HR
  go_upto_region 7 with fail
  generalize w5.alloc (hO d fc)=w6 at *
  generalize w5.heap.size=g1 at *
  obtain ⟨⟨d0,d1,d2,d3⟩,⟨d4,d5,d6,d7⟩,fz⟩:=row8 (hB6.h8 (g:=g1) (d:=d) (f:=fc) (by simp))
  obtain ⟨m0,m1,m2,m3,_⟩:=row4 (hB6.u4 (g:=w.heap.size) (x:=m) (by simp))
  obtain ⟨x0,x1,x2,x3,_⟩:=row4 (hB6.u4 (g:=w.heap.size+1) (x:=x) (by simp))
  have HB6:=Lib.hid hB6
  clear hB6
  go_wp2_with fail
  refine Calls.mono (HG.out _ _ HB6.out) ?_
  rintro e w7 ⟨rfl,hB7⟩
  have hB8:=hB7.alloc (uO gw)
  clear d0 d1 d2 d3 d4 d5 d6 d7 fz m0 m1 m2 m3 x0 x1 x2 x3 hB7 HB6 HG
  go_upto_region 8 with fail
  generalize w7.alloc (uO gw)=w8 at *
  generalize w7.heap.size=g2 at *
  cases gb with
  | false =>
   obtain ⟨h1,h2⟩:=HG0.out HMm.out (by trivial)
   subst h1 h2
   have hz:=hB8.row (g:=w.heap.size+2) (o:=eO 0) (by simp)
   have HB9:=Lib.hid (hB8.put1 (g:=w.heap.size+2) (e:=0) 6 (by simp) [] (fun _ hx=>by cases hx))
   obtain ⟨c1,f1⟩:=row1 hz
   clear hz hB8 HG0 HS0 HU2 HD HP HWR HS
   go_wp2_with fail
   refine leaves_cons (f:=56) (args:=#[.pointer h.ptr,.int .i64 mk,.pointer (some ⟨w.heap.size+2,0,none⟩)]) (by simp) (by simp [go_sem]) ?_
   refine CallsD.mono (HU1.out _ _ HB9.out (by simp)) ?_
   rintro e u' w10 ⟨rfl,rfl,hQ⟩
   exact ⟨_,results_err rfl _ _ (w.heap.size+2) 6 rfl (hQ.row (by simp)),rfl,QV.done hQ⟩
  | true =>
   clear HG0 HU1
   obtain ⟨⟨d0,d1,d2,d3⟩,⟨d4,d5,d6,d7⟩,fz⟩:=row8 (hB8.h8 (g:=g1) (d:=d) (f:=fc) (by simp))
   obtain ⟨x0,x1,x2,x3,_⟩:=row4 (hB8.u4 (g:=w.heap.size+1) (x:=x) (by simp))
   have HB8:=Lib.hid hB8
   clear hB8
   go_wp2_with fail
   refine Calls.mono (HD.out _ _ HB8.out) ?_
   rintro e w9 ⟨rfl,hB9⟩
   have hB10:=hB9.alloc (uO sw)
   clear d0 d1 d2 d3 d4 d5 d6 d7 fz x0 x1 x2 x3 hB9 HB8 HD
   go_upto_region 11 with fail
   generalize w9.alloc (uO sw)=w10 at *
   generalize w9.heap.size=g3 at *
   obtain ⟨d0,d1,d2,d3,_⟩:=row4 (hB10.u4 (g:=g2) (x:=gw) (by simp))
   obtain ⟨s0,s1',s2',s3,_⟩:=row4 (hB10.u4 (g:=g3) (x:=sw) (by simp))
   have HB10:=Lib.hid hB10
   clear hB10
   go_wp2_with fail
   refine Calls.mono (HWR.out _ _ HB10.out) ?_
   rintro e w11 ⟨rfl,hB11⟩
   have HQ:=Lib.hid hB11
   have HB0:=Lib.hid (bl_drew (Below.refl w11.heap.size w11))
   clear d0 d1 d2 d3 s0 s1' s2' s3 hB11 HB10 HWR
   go_wp2_with fail
   go_upto_region 12 with fail
   refine wp_region_rely_tail 5 [[],[],[],[1,2],[],[0,1,2,3,4],[0,1,2,3,4,5]]
    [rgC (Below w11.heap.size w11),rgV 0 (.pointer h.ptr),rgV 1 (.int .i64 o),rgV 2 (.int .i64 t),rgV 3 (.string kk),rgV 4 (uV x)] _ (by kernel_rfl) (by kernel_rfl) (by decide) (by kernel_rfl) (by kernel_rfl)
    (fun vs=>by simp only [rgAct,rgPut,List.setIfInBounds_toArray,List.set_cons_zero,List.set_cons_succ]; exact rfl)
    ⟨fun _ _ _ hb h=>bl_then h hb,rgV_st,rgV_st,rgV_st,rgV_st,rgV_st,trivial⟩ ?_ ?_ ?_
   ·refine rgAll_yes rfl HB0.out ?_
    iterate 5 refine rgAll_no rfl ?_
    exact trivial
   ·refine ⟨?_,?_,?_,?_,?_,trivial⟩
    ·rintro vs w1 ⟨_,_⟩ K hK
     refine rg_move rfl (.inl rfl) rfl (hK _ _ (.inl (Below.refl _ _)) ?_)
     exact rgNew_one 1 rfl fun _=>rfl
    ·rintro vs w1 ⟨_,_⟩ K hK
     refine rg_move rfl (.inl rfl) rfl (hK _ _ (.inl (Below.refl _ _)) ?_)
     exact rgNew_one 2 rfl fun _=>rfl
    ·rintro vs w1 ⟨_,_⟩ K hK
     refine rg_move rfl (.inl rfl) rfl (hK _ _ (.inl (Below.refl _ _)) ?_)
     exact rgNew_one 3 rfl fun _=>rfl
    ·rintro vs w1 ⟨_,e1,e2,_⟩ K hK
     refine rg_fn rfl rfl rfl (by kernel_rfl) (show [vs 1,vs 2]=_ from by rw [rg1 e1,rg1 e2]) (Calls.mono (HP.out _) ?_)
     rintro e w2 ⟨rfl,hb⟩
     refine ⟨_,rfl,hK _ _ (.inl hb) ?_⟩
     exact rgNew_one 4 rfl fun _=>rfl
    ·rintro vs w1 ⟨hC,_⟩ K hK
     refine rg_loadU rfl rfl rfl ((HQ.out.below hC).u4 (x:=x) (by simp)) (hK _ _ (.inl (Below.refl _ _)) ?_)
     exact rgNew_one 5 rfl fun _=>rfl
   ·intro vs w1 hA
    obtain ⟨hC,e0,e1,e2,e3,e4,_⟩:=hA
    have e0:=rg1 e0
    have e1:=rg1 e1
    have e2:=rg1 e2
    have e3:=rg1 e3
    have e4:=rg1 e4
    refine rgTail_cons ?_
    refine rg_fn rfl rfl rfl (by kernel_rfl) (show [vs 0,vs 3,vs 4]=_ from by rw [e0,e3,e4]) (Calls.mono (HS.out _ _ (HQ.out.below hC)) ?_)
    rintro e w2 ⟨rfl,hq2⟩
    refine ⟨_,rfl,?_⟩
    have hz:=hq2.row (g:=w.heap.size+2) (o:=eO 0) (by simp)
    obtain ⟨c1,f1⟩:=row1 hz
    have HB12:=Lib.hid (hq2.put1 (g:=w.heap.size+2) (e:=0) le (by simp) [] (fun _ hx=>by cases hx))
    refine rgTail_cons ?_
    refine rg_storeE rfl rfl rfl rfl c1 f1 ?_
    refine rgTail_nil ?_
    simp only [rgSet,Nat.reduceEqDiff,↓reduceIte,e0,e1,e2,e3,e4]
    obtain ⟨h1,h2,h3⟩:=HS0.out HMm.out (by trivial)
    clear e0 e1 e2 e3 e4 hC HP HS HB0 HQ hq2 hz c1 f1 HS0
    have HE:=Lib.hid h1
    have HX:=Lib.hid h2
    have HL:=Lib.hid h3
    clear h1 h2 h3
    go_wp2_with fail
    refine leaves_cons (f:=56) (args:=#[.pointer h.ptr,.int .i64 mk,.pointer (some ⟨w.heap.size+2,0,none⟩)]) (by simp) (by simp [go_sem]) ?_
    refine CallsD.mono (HU2.out _ _ le HB12.out (by simp) HL.out) ?_
    rintro e u' w13 ⟨rfl,rfl,hQ⟩
    rw [HX.out] at hQ
    exact ⟨_,results_err rfl _ _ (w.heap.size+2) le rfl (hQ.row (by simp)),by rw [HE.out],QV.done hQ⟩
theorem hPut_q (w:World) (h:Hand) (s:St) (f0:Nat) (a o t:Int) (m x:W4) (ha:I63 a) (ho:I63 o) (ht:I63 t) (hmo:m.Ok) (hxo:x.Ok) (hq:QSt w h s) (hf:s.Fit f0) (hm:f0 < 1000000000) :
  Calls Tryz.prog 14 #[.pointer h.ptr,.int .i64 a,.int .i64 o,.int .i64 t,uV m,uV x] w fun e w'=>e = .returned (.int .i64 (h.putE s a o t m x))∧QOn w h (h.putSt s a o t m x) w':=by
 by_cases hc:putC a o t x
 ·obtain ⟨h1,h2⟩:=put_c (h:=h) (s:=s) (m:=m) hc
  rw [h1,h2]
  exact hPut_c w h s a o t m x hxo hq hc
 ·exact hPut_n w h s f0 a o t m x ha ho ht hmo hxo hq hf hm hc
end Go.Proofs.YtpojljieakdgiaaGreat
