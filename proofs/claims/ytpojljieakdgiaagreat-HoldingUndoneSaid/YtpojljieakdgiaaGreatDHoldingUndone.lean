/- What is proved here: HoldingUndone's walk. Its condition: ints below 2^63, words below 2^64. the given statement HoldingUndoneSaid: the law HoldingUndone returns true at every input, and what was there when it was called stands. -/
import Derived.Test.YtpojljieakdgiaaGreatDOpenA23
import Derived.Test.YtpojljieakdgiaaGreatDUndLaw
import Derived.Test.YtpojljieakdgiaaGreatDRow
set_option maxRecDepth 100000
set_option maxHeartbeats 16000000
namespace Go.Proofs.YtpojljieakdgiaaGreat
open Go.RowKit
theorem htwo_act {w wr:World} {q:Option Addr} {b k:Nat} (h:HTwo w q b k wr) (hk:k < 1000) (A:HAct) (hA:A.Ok) {w0:World} (hw0:Below (wr.alloc (actO A)).heap.size (wr.alloc (actO A)) w0) :
  Calls Tryz.prog 28 #[.pointer q,.pointer (some ⟨b,0,none⟩),.agg A.L] w0 fun e w1=>e = .returned (.bool true)∧HTwo w q b (k+1) w1:=by
 obtain ⟨K,s,t,hPR,hK,hbw,hfs,hft,hee,hg⟩:=h
 have hB:PV ⟨q,true,[]⟩ b t wr K s [(wr.heap.size,actO A)] w0:=((QV.start (pairRep_ok _ _ _ _) hPR).alloc (actO A)).below hw0
 refine (PV.act hB hfs hft hk hee hg A hA).mono fun e w1 ⟨he,h1⟩=>⟨he,?_⟩
 obtain ⟨K',hK',st⟩:=QV.done h1
 obtain ⟨hb',hKK⟩:=below_stepK hbw hK st
 exact ⟨K',_,_,hK',hKK,hb',Hand.actSt_fit hfs A,ractSt_fit hft A,(act_same (h:=⟨q,true,[]⟩) rfl hg.1 hee A).2,hg.act _ A⟩
theorem own_rows {w:World} {T:TypeId} {v:Value} {n:Nat} {xs:List Value} (h:Own w T 2 v n xs):∃ rs:List (Nat × Obj),(∀ g o,(g,o)∈rs→w.heap[g]? = some o∧v.ownBlock=some g)∧∀ W:World,(∀ x∈rs,W.heap[x.1]? = some x.2)→Own W T 2 v n xs:=by
 rcases h.2 with ⟨h1,h2⟩ | ⟨g,cap,cur,h1,h2,h3⟩
 ·exact ⟨[],fun _ _ hm=>(by cases hm),fun W _=>⟨h.1,.inl ⟨h1,h2⟩⟩⟩
 ·refine ⟨[(g,.cells cur T (0,0))],fun g' o hm => ?_,fun W hW=>⟨h.1,.inr ⟨g,cap,cur,h1,hW (g,.cells cur T) (by simp),h3⟩⟩⟩
  simp only [List.mem_singleton,Prod.mk.injEq] at hm
  obtain ⟨rfl,rfl⟩:=hm
  exact ⟨h2,by rw [h1]; rfl⟩
theorem HV.all {h:Hand} {w W:World} {s:St} {rs:List (Nat × Obj)} (hon:h.on=true) (hq:HV h w s rs W) (hz:s.size < 1000000000000):Calls Tryz.prog 29 #[.pointer h.ptr] W fun e W'=>∃ a c rs0,e = .returned (.slice a s.ents.length c)∧HV h w s (rs0 ++ rs) W'∧∀ W2:World,(∀ x∈rs0,W2.heap[x.1]? = some x.2)→PairsAt W2 a s.ents:=by
 obtain ⟨L,hQ,_⟩:=hq.on
 have hQ':QSt W ⟨h.ptr,h.on,L⟩ s:=hQ
 rcases hQ' with ⟨_,b,hp,hS⟩ | ⟨h0,_⟩
 ·have hp':h.ptr=some ⟨b,0,none⟩:=hp
  rw [hp']
  refine (all_any W b s L hS hz).mono fun e W' ⟨v,he,hO⟩ => ?_
  obtain ⟨rs0,hr,hall⟩:=own_rows hO.1
  obtain ⟨a,c,rfl,_⟩:=hO.1.pairs
  refine ⟨a,c,rs0,he,hq.addl hO.2.2 rs0 fun g o hm => ?_,fun W2 h2 => ?_⟩
  ·obtain ⟨h3,h4⟩:=hr g o hm
   exact ⟨hO.2.1 g h4,h3⟩
  ·obtain ⟨a',c',he',hp2⟩:=(hall W2 h2).pairs
   cases he'
   exact hp2
 ·rw [hon] at h0; cases h0
theorem same_self (W:World) (a1 a2:Option Addr) (c1 c2:Nat) (l:List Ent) (h1:PairsAt W a1 l) (h2:PairsAt W a2 l) (hl:l.length < 1000000000000):Calls Tryz.prog 30 #[.slice a1 l.length c1,.slice a2 l.length c2] W fun e W'=>e = .returned (.bool true)∧Below W.heap.size W W' :=
 (same_any W a1 a2 c1 c2 l l h1 h2 hl).mono fun e W' ⟨he,n,hw⟩=>⟨by rw [he,decide_eq_true rfl],by subst hw; exact below_drewN (Below.refl _ _) n⟩
def UW (w:World) (A:HAct) (q:Option Addr) (s:St) (rs:List (Nat × Obj)) (W:World):Prop :=
 ∃ (wr:World) (L:List Nat),HV ⟨q,true,L⟩ wr s rs W∧(∀ j∈L,w.heap.size+1≤j)∧Below (w.alloc (actO A)).heap.size (w.alloc (actO A)) wr
section
variable {w W W':World} {A:HAct} {q:Option Addr} {s s':St} {rs:List (Nat × Obj)}
theorem UW.act (h:UW w A q s rs W):Act12 w.heap.size A W:=by
 obtain ⟨wr,L,hv,hL,hb⟩:=h
 obtain ⟨L',_,st⟩:=HV.done hv
 have h0:wr.heap[w.heap.size]? = some (actO A):=(hb.block _ (by simp)).trans (heap_alloc_new w _)
 exact row12 ((st.fr.block _ (lt_of_at h0) fun hm=>by have:=hL _ hm; omega).trans h0)
theorem UW.bl (h:UW w A q s rs W):Below w.heap.size w W:=by
 obtain ⟨wr,L,hv,hL,hb⟩:=h
 exact HV.below_of hv (bl_then (bl_alloc (Below.refl _ w) _) hb) fun k hk=>by have:=hL k hk; omega
theorem UW.below (h:UW w A q s rs W) (hb:Below W.heap.size W W'):UW w A q s rs W':=by
 obtain ⟨wr,L,hv,hL,hb0⟩:=h
 exact ⟨wr,L,hv.below hb,hL,hb0⟩
theorem UW.drew (h:UW w A q s rs W):UW w A q s rs W.drew:=h.below (bl_drew (Below.refl _ _))
theorem UW.alloc (h:UW w A q s rs W) (o:Obj):UW w A q s ((W.heap.size,o) :: rs) (W.alloc o):=by
 obtain ⟨wr,L,hv,hL,hb0⟩:=h
 exact ⟨wr,L,hv.alloc o,hL,hb0⟩
theorem UW.less {qs:List (Nat × Obj)} (h:UW w A q s rs W) (hs:∀ x,x∈qs→x∈rs):UW w A q s qs W:=by
 obtain ⟨wr,L,hv,hL,hb0⟩:=h
 exact ⟨wr,L,QV.less hv hs,hL,hb0⟩
theorem UW.row (h:UW w A q s rs W) {g:Nat} {o:Obj} (hm:(g,o)∈rs):W.heap[g]? = some o:=by
 obtain ⟨wr,L,hv,_⟩:=h
 exact QV.row hv hm
theorem UW.reads (h:UW w A q s rs W) {f:FuncId} {args:Array Value} {v:Value} (hC:∀ L',QSt W ⟨q,true,L'⟩ s→Calls Tryz.prog f args W fun e W'=>e = .returned v∧Below W.heap.size W W'):Calls Tryz.prog f args W fun e W'=>e = .returned v∧UW w A q s rs W':=by
 obtain ⟨wr,L,hv,hL,hb0⟩:=h
 exact (HV.reads hv hC).mono fun e W' ⟨he,h1⟩=>⟨he,wr,L,h1,hL,hb0⟩
theorem UW.call (h:UW w A q s rs W) {f:FuncId} {args:Array Value} {v:Value} (hC:∀ L',QSt W ⟨q,true,L'⟩ s→Calls Tryz.prog f args W fun e W'=>e = .returned v∧QOn W ⟨q,true,L'⟩ s' W'):Calls Tryz.prog f args W fun e W'=>e = .returned v∧UW w A q s' rs W':=by
 obtain ⟨wr,L,hv,hL,hb0⟩:=h
 exact (QV.call hv hC).mono fun e W' ⟨he,h1⟩=>⟨he,wr,L,h1,hL,hb0⟩
theorem UW.all (h:UW w A q s rs W) (hz:s.size < 1000000000000):Calls Tryz.prog 29 #[.pointer q] W fun e W'=>∃ a c rs0,e = .returned (.slice a s.ents.length c)∧UW w A q s (rs0 ++ rs) W'∧∀ W2:World,(∀ x∈rs0,W2.heap[x.1]? = some x.2)→PairsAt W2 a s.ents:=by
 obtain ⟨wr,L,hv,hL,hb0⟩:=h
 exact (HV.all rfl hv hz).mono fun e W' ⟨a,c,rs0,he,h1,h2⟩=>⟨a,c,rs0,he,⟨wr,L,h1,hL,hb0⟩,h2⟩
end
theorem uw_start {w wr:World} {A:HAct} {q:Option Addr} {b k:Nat} (h:HTwo (w.alloc (actO A)) q b k wr) (hk:k≤60):∃ s,UW w A q s [] wr∧s.Fit 480∧HGood s:=by
 obtain ⟨K,s,t,⟨L,M,rfl,_,hQ,_⟩,hK,hbw,hfs,_,_,hg⟩:=h
 refine ⟨s,⟨wr,L,HV.start hQ,fun j hj => ?_,hbw⟩,hfs.mono (by omega),hg⟩
 have:=hK j (List.mem_append_left _ hj)
 rwa [World.size_alloc] at this
structure UndC (w:World) (A:HAct) (q:Option Addr) (s s1 s2:St) (d d2 sm tw:W4) (sb:Bool) (pe te:Int):Prop where
 all:∀ rs W,UW w A q s rs W→Calls Tryz.prog 29 #[.pointer q] W fun e W'=>∃ a c rs0,e = .returned (.slice a s.ents.length c)∧UW w A q s (rs0 ++ rs) W'∧∀ W2:World,(∀ x∈rs0,W2.heap[x.1]? = some x.2)→PairsAt W2 a s.ents
 dep:∀ rs W,UW w A q s rs W→Calls Tryz.prog 16 #[.pointer q,.int .i64 A.st,.int .i64 A.sg] W fun e w'=>e = .returned (uV d)∧UW w A q s rs w'
 put:∀ rs W,UW w A q s rs W→Calls Tryz.prog 14 #[.pointer q,.int .i64 A.st,.int .i64 A.op,.int .i64 A.sg,uV A.am,uV A.ax] W fun e w'=>e = .returned (.int .i64 pe)∧UW w A q s1 rs w'
 sum:∀ rs W,UW w A q s1 rs W→Calls Tryz.prog 21 #[uV d,uV A.ax] W fun e w'=>e = .returned (.tuple #[uV sm,.bool sb])∧UW w A q s1 rs w'
 dep1:pe=0→∀ rs W,UW w A q s1 rs W→Calls Tryz.prog 16 #[.pointer q,.int .i64 A.st,.int .i64 A.sg] W fun e w'=>e = .returned (uV sm)∧UW w A q s1 rs w'
 take:∀ rs W,UW w A q s1 rs W→Calls Tryz.prog 18 #[.pointer q,.int .i64 A.st,.int .i64 A.op,.int .i64 A.sg,uV A.am,uV A.ax] W fun e w'=>e = .returned (.tuple #[uV tw,.int .i64 te])∧UW w A q s2 rs w'
 dep2:∀ rs W,UW w A q s2 rs W→Calls Tryz.prog 16 #[.pointer q,.int .i64 A.st,.int .i64 A.sg] W fun e w'=>e = .returned (uV d2)∧UW w A q s2 rs w'
 same:pe≠0→s1=s
 back:pe=0→te=0→d2=d
 len:s.ents.length < 1000000000000
theorem putE_hand (q:Option Addr) (L L':List Nat) (s:St) (a o t:Int) (m x:W4):(⟨q,true,L⟩:Hand).putE s a o t m x=(⟨q,true,L'⟩:Hand).putE s a o t m x:=by
 unfold Hand.putE Hand.putS1 Hand.wr Hand.wrD Hand.st
 rfl
theorem putSt_hand (q:Option Addr) (L L':List Nat) (s:St) (a o t:Int) (m x:W4):(⟨q,true,L⟩:Hand).putSt s a o t m x=(⟨q,true,L'⟩:Hand).putSt s a o t m x:=by
 unfold Hand.putSt
 rw [putE_hand q L L']
 unfold Hand.addSt Hand.putS1 Hand.wr Hand.wrD Hand.st
 rfl
theorem takeSt_hand (q:Option Addr) (L L':List Nat) (s:St) (a o t:Int) (m x:W4):(⟨q,true,L⟩:Hand).takeSt s a o t m x=(⟨q,true,L'⟩:Hand).takeSt s a o t m x:=by
 unfold Hand.takeSt Hand.subSt Hand.wr Hand.wrD Hand.st
 rfl
theorem undC (w:World) (A:HAct) (hA:A.Ok) (q:Option Addr) (s:St) (hf:s.Fit 480) (hg:HGood s):∃ s1 s2 d d2 sm tw sb pe te,UndC w A q s s1 s2 d d2 sm tw sb pe te:=by
 obtain ⟨ha,ho,ht,hmo,hxo⟩:=hA
 have hz:s.size < 1000000000000:=Nat.lt_of_le_of_lt hf.size (by decide)
 have f1:((⟨q,true,[]⟩:Hand).putSt s A.st A.op A.sg A.am A.ax).Fit 486:=Hand.putSt_fit hf _ _ _ _ _
 have hpu:∀ rs W,UW w A q s rs W→Calls Tryz.prog 14 #[.pointer q,.int .i64 A.st,.int .i64 A.op,.int .i64 A.sg,uV A.am,uV A.ax] W fun e w'=>e = .returned (.int .i64 ((⟨q,true,[]⟩:Hand).putE s A.st A.op A.sg A.am A.ax))∧UW w A q ((⟨q,true,[]⟩:Hand).putSt s A.st A.op A.sg A.am A.ax) rs w':=fun rs W h=>h.call fun L hq=>by
  have:=hPut_q W ⟨q,true,L⟩ s 480 A.st A.op A.sg A.am A.ax ha ho ht hmo hxo hq hf (by decide)
  rwa [putE_hand q L [],putSt_hand q L []] at this
 have hsame:(⟨q,true,[]⟩:Hand).putE s A.st A.op A.sg A.am A.ax≠0→(⟨q,true,[]⟩:Hand).putSt s A.st A.op A.sg A.am A.ax=s:=fun hp=>putSt_no rfl hp
 have hlaw:(⟨q,true,[]⟩:Hand).putE s A.st A.op A.sg A.am A.ax=0→_:=fun hp=>und_law (h:=⟨q,true,[]⟩) rfl hg.1 hp
 generalize (⟨q,true,[]⟩:Hand).putSt s A.st A.op A.sg A.am A.ax=s1 at *
 generalize (⟨q,true,[]⟩:Hand).putE s A.st A.op A.sg A.am A.ax=pe at *
 have f2:((⟨q,true,[]⟩:Hand).takeSt s1 A.st A.op A.sg A.am A.ax).Fit 492:=Hand.takeSt_fit f1 _ _ _ _ _
 have hta:∀ rs W,UW w A q s1 rs W→Calls Tryz.prog 18 #[.pointer q,.int .i64 A.st,.int .i64 A.op,.int .i64 A.sg,uV A.am,uV A.ax] W fun e w'=>e = .returned (.tuple #[uV (takeW s1 A.st A.op A.sg A.am A.ax),.int .i64 (takeE s1 A.st A.op A.sg A.am A.ax)])∧UW w A q ((⟨q,true,[]⟩:Hand).takeSt s1 A.st A.op A.sg A.am A.ax) rs w':=fun rs W h=>h.call fun L hq=>by
  have:=hTake_q W ⟨q,true,L⟩ s1 486 A.st A.op A.sg A.am A.ax ha ho ht hmo hxo hq f1 (by decide)
  rwa [takeSt_hand q L []] at this
 generalize (⟨q,true,[]⟩:Hand).takeSt s1 A.st A.op A.sg A.am A.ax=s2 at *
 have hd:∀ (s':St) (f:Nat),s'.Fit f→f < 1000→∀ rs W,UW w A q s' rs W→Calls Tryz.prog 16 #[.pointer q,.int .i64 A.st,.int .i64 A.sg] W fun e w'=>e = .returned (uV (s'.dep A.st A.sg))∧UW w A q s' rs w':=fun s' f h1 h2 rs W h=>h.reads fun L hq=>hDeposit_q W ⟨q,true,L⟩ s' f A.st A.sg ha ht hq h1 (by omega)
 have hsum:∀ rs W,UW w A q s1 rs W→Calls Tryz.prog 21 #[uV (s.dep A.st A.sg),uV A.ax] W fun e w'=>e = .returned (.tuple #[uV (sumW (s.dep A.st A.sg) A.ax),.bool (sumB (s.dep A.st A.sg) A.ax)])∧UW w A q s1 rs w':=fun rs W h=>h.reads fun _ _=>radd_u _ _ (amt_ok _ _) hxo W
 refine ⟨s1,s2,s.dep A.st A.sg,s2.dep A.st A.sg,sumW (s.dep A.st A.sg) A.ax,takeW s1 A.st A.op A.sg A.am A.ax,sumB (s.dep A.st A.sg) A.ax,pe,takeE s1 A.st A.op A.sg A.am A.ax,?_⟩
 refine ⟨fun rs W h=>h.all hz,hd s 480 hf (by decide),hpu,hsum,fun hp => ?_,hta,hd s2 492 f2 (by decide),hsame,fun hp ht0=>(hlaw hp).2 ht0,by unfold St.size at hz; omega⟩
 have:=hd s1 486 f1 (by decide)
 rwa [(hlaw hp).1] at this
theorem rg_neE {ops:Array Oper} {o:Oper} {a:Act} {w:World} {K:Value→World→Prop} {x:Operand} {n:Int} {b:Bool} (hg:Region.wanted o (yielded ops a.tmps)=true) (ho:o.op = .binOp .neq 33 x (.const (.int .i64 0)) 33) (hx:a.eval x = .int .i64 n) (hn:(n != 0)=b) (hk:K (.bool b) w):rgDo Tryz.prog ops o a w K:=by
 refine rg_value hg ?_ hk
 unfold execOp
 subst hn
 simp only [ho,hx]
 go_simp
theorem hund_walk (w:World) (a:Option Addr) (c:Nat) (l:List HAct) (A:HAct) (h:Acts23In w a l) (hA:A.Ok):Calls Tryz.prog 5 #[.slice a l.length c,.agg A.L] w fun e w'=>e = .returned (.bool true)∧Below w.heap.size w w':=by
 have HL:Hid (∀ W,Below w.heap.size w W→Calls Tryz.prog 11 #[] W fun e w'=>e = .returned (.bool true)∧Below w.heap.size w w'):=fun W hb=>(lives23 W).mono fun e w' ⟨he,h1⟩=>⟨he,bl_then hb h1⟩
 have HB0:=Lib.hid (bl_alloc (Below.refl _ w) (actO A))
 by_cases h150:60 < l.length
 ·have hd:decide ((60:Int) < (l.length:Int))=true:=decide_eq_true (by omega)
  clear h
  generalize l.length=n at *
  dsimp only [HAct.L] at HB0 ⊢
  go_enter Tryz.func5,Tryz.ntmps5
  go_wp2_with fail
  refine Calls.mono (HL.out _ HB0.out) ?_
  rintro e w1 ⟨rfl,h1⟩
  have H1:=Lib.hid h1
  clear h1
  go_wp2_with fail
  go_ret
  exact ⟨rfl,H1.out⟩
 ·have hd:decide ((60:Int) < (l.length:Int))=false:=decide_eq_false (by omega)
  have HN:=Lib.hid (htwo_new (w.alloc (actO A)))
  have HC:Hid (∀ wr k x,Below (w.alloc (actO A)).heap.size (w.alloc (actO A)) wr→l[k]? = some x→At12 a k x wr):=fun wr k x hb hk=>h.at12 (bl_then (bl_alloc (Below.refl _ w) _) hb) hk
  have HOK:Hid (∀ (k:Nat) (x:HAct),l[k]? = some x→x.Ok):=fun k x hk=>h.ok x (List.mem_of_getElem? hk)
  have HG:Hid (∀ k,k < l.length→∃ x,l[k]? = some x):=fun k hk=>⟨_,List.getElem?_eq_getElem hk⟩
  have HB:Hid (∀ q m k wr,HTwo (w.alloc (actO A)) q m k wr→Below (w.alloc (actO A)).heap.size (w.alloc (actO A)) wr):=fun q m k wr h=>h.below
  have HR:Hid (∀ q m (k:Nat) wr (x:HAct),HTwo (w.alloc (actO A)) q m k wr→k < 1000→x.Ok→Calls Tryz.prog 28 #[.pointer q,.pointer (some ⟨m,0,none⟩),.agg x.L] (wr.alloc (.cells #[.int .i64 x.kd,.int .i64 x.st,.int .i64 x.op,.int .i64 x.sg,.int .u64 x.am.1,.int .u64 x.am.2.1,.int .u64 x.am.2.2.1,.int .u64 x.am.2.2.2,.int .u64 x.ax.1,.int .u64 x.ax.2.1,.int .u64 x.ax.2.2.1,.int .u64 x.ax.2.2.2] 53)) fun e w1=>e = .returned (.bool true)∧HTwo (w.alloc (actO A)) q m (k+1) w1):=fun q m k wr x h hk hx=>htwo_act h hk x hx (Below.refl _ _)
  have HS:Hid (∀ q b k wr,HTwo (w.alloc (actO A)) q b k wr→k≤60→∃ s,UW w A q s [] wr∧s.Fit 480∧HGood s):=fun q b k wr h hk=>uw_start h hk
  have HEQ:Hid (∀ u:W4,∀ w,(Op.equalIn 10000 28 (uV u) (uV u)).run Tryz.prog w = .ok true w):=fun u w=>by
   have:=eqU u u w
   rwa [decide_eq_true rfl] at this
  have HLU:Hid (∀ q s rs W,UW w A q s rs W→Calls Tryz.prog 11 #[] W fun e w'=>e = .returned (.bool true)∧UW w A q s rs w'):=fun q s rs W h=>(lives23 W).mono fun e w' ⟨he,h1⟩=>⟨he,h.below h1⟩
  have HU:Hid (∀ q s,s.Fit 480→HGood s→∃ s1 s2 d d2 sm tw sb pe te,UndC w A q s s1 s2 d d2 sm tw sb pe te):=fun q s hf hg=>undC w A hA q s hf hg
  clear h hA
  generalize l.length=n at *
  dsimp only [HAct.L] at HB0 HN HC HB HR ⊢
  go_enter Tryz.func5,Tryz.ntmps5
  go_wp2_with fail
  refine Calls.mono HN.out ?_
  rintro e w2 ⟨b,rfl,hS0⟩
  have H0:=Lib.hid (hS0 _ rfl)
  clear hS0
  generalize hmm:w2.heap.size=m at H0
  go_wp2_with fail
  go_loopw [25] (fun i wr=>∃ k:Nat,i = .int .i64 k∧k≤n∧HTwo (w.alloc (.cells #[.int .i64 A.kd,.int .i64 A.st,.int .i64 A.op,.int .i64 A.sg,.int .u64 A.am.1,.int .u64 A.am.2.1,.int .u64 A.am.2.2.1,.int .u64 A.am.2.2.2,.int .u64 A.ax.1,.int .u64 A.ax.2.1,.int .u64 A.ax.2.2.1,.int .u64 A.ax.2.2.2] 53)) b m k wr) (fun i _=>n - (intOf i).toNat)
  case atStart=>exact ⟨0,rfl,by omega,H0.out⟩
  case round =>
   obtain ⟨k,rfl,hk,hA⟩:=hrel
   have HA:=Lib.hid hA
   clear hA H0
   by_cases hlt:k < n
   ·obtain ⟨x,hx⟩:=HG.out k hlt
    obtain ⟨ad,rfl,q0,qs⟩:=HC.out wr k _ (HB.out _ _ _ _ HA.out) hx
    have HRO:=Lib.hid (HR.out b m k wr x HA.out (by omega) (HOK.out k x hx))
    have hn0:=World.new_ne wr
    unfold HAct.L at HRO qs
    clear hx
    obtain ⟨xk,xa,xo,xt,⟨M0,M1,M2,M3⟩,⟨X0,X1,X2,X3⟩⟩:=x
    simp only at q0 qs HRO
    have q1:=qs 1 _ rfl (by decide)
    have q2:=qs 2 _ rfl (by decide)
    have q3:=qs 3 _ rfl (by decide)
    have q4:=qs 4 _ rfl (by decide)
    have q5:=qs 5 _ rfl (by decide)
    have q6:=qs 6 _ rfl (by decide)
    have q7:=qs 7 _ rfl (by decide)
    have q8:=qs 8 _ rfl (by decide)
    have q9:=qs 9 _ rfl (by decide)
    have q10:=qs 10 _ rfl (by decide)
    have q11:=qs 11 _ rfl (by decide)
    clear qs
    go_wp2_with fail
    refine Calls.mono HRO.out ?_
    rintro e v1 ⟨rfl,hS⟩
    have HS:=Lib.hid hS
    clear hS HRO q0 q1 q2 q3 q4 q5 q6 q7 q8 q9 q10 q11
    go_wp2_with fail
    go_roundw
    case rel=>exact ⟨k+1,by go_num,by omega,HS.out⟩
    case measure=>simp [intOf]; omega
   ·obtain rfl:k=n:=by omega
    obtain ⟨s,hU,hf,hg⟩:=HS.out b m k wr HA.out (by omega)
    obtain ⟨s1,s2,d,d2,sm,tw,sb,pe,te,hC⟩:=HU.out b s hf hg
    have HCC:=Lib.hid hC
    have HAL:=Lib.hid (hC.all _ _ hU)
    clear hU hf hg hC HA HS HU HR HB HOK HC HG
    go_wp2_with fail
    refine Calls.mono HAL.out ?_
    rintro e w4 ⟨a1,c1,rs0,rfl,hU4,hP1⟩
    have HP1:=Lib.hid hP1
    have HD:=Lib.hid (HCC.out.dep _ _ hU4)
    obtain ⟨⟨k0,k1,k2,k3⟩,⟨m0,m1,m2,m3⟩,⟨x0,x1,x2,x3⟩⟩:=hU4.act
    clear hU4 hP1 HAL
    go_wp2_with fail
    refine Calls.mono HD.out ?_
    rintro e w5 ⟨rfl,hU5⟩
    have hU6:=hU5.alloc (uO d)
    clear k0 k1 k2 k3 m0 m1 m2 m3 x0 x1 x2 x3 hU5 HD
    go_upto_region 12 with fail
    generalize w5.alloc (uO d)=w6 at *
    generalize w5.heap.size=g1 at *
    have HPU:=Lib.hid (HCC.out.put _ _ hU6)
    obtain ⟨⟨k0,k1,k2,k3⟩,⟨m0,m1,m2,m3⟩,⟨x0,x1,x2,x3⟩⟩:=hU6.act
    clear hU6
    go_wp2_with fail
    refine Calls.mono HPU.out ?_
    rintro e w7 ⟨rfl,hU7⟩
    clear k0 k1 k2 k3 m0 m1 m2 m3 x0 x1 x2 x3 HPU
    by_cases hpe:pe=0
    ·subst hpe
     have HSU:=Lib.hid (HCC.out.sum _ _ hU7)
     obtain ⟨⟨k0,k1,k2,k3⟩,⟨m0,m1,m2,m3⟩,⟨x0,x1,x2,x3⟩⟩:=hU7.act
     obtain ⟨d0,d1,d2',d3,_⟩:=row4 (hU7.row (g:=g1) (o:=uO d) (by simp))
     clear hU7
     go_wp2_with fail
     refine Calls.mono HSU.out ?_
     rintro e w8 ⟨rfl,hU8⟩
     have hU9:=hU8.alloc (uO sm)
     clear k0 k1 k2 k3 m0 m1 m2 m3 x0 x1 x2 x3 d0 d1 d2' d3 hU8 HSU
     go_upto_region 16 with fail
     generalize w8.alloc (uO sm)=w9 at *
     generalize w8.heap.size=g2 at *
     have HD1:=Lib.hid (HCC.out.dep1 rfl _ _ hU9.drew)
     obtain ⟨⟨k0,k1,k2,k3⟩,_,_⟩:=hU9.act
     obtain ⟨s0,s1',s2',s3,_⟩:=row4 (hU9.row (g:=g2) (o:=uO sm) (by simp))
     have hqs:=HEQ.out sm
     clear hU9
     go_region_held3 (fun w'=>w'.cell? ⟨w.heap.size,1,none⟩=some (.int .i64 A.st)∧w'.cell? ⟨w.heap.size,3,none⟩=some (.int .i64 A.sg)∧w'.cell? ⟨g2,0,none⟩=some (.int .u64 sm.1)∧w'.cell? ⟨g2,1,none⟩=some (.int .u64 sm.2.1)∧w'.cell? ⟨g2,2,none⟩=some (.int .u64 sm.2.2.1)∧w'.cell? ⟨g2,3,none⟩=some (.int .u64 sm.2.2.2)) (go_keep)
      (first | (go_at_call 16; refine Calls.mono HD1.out ?_; rintro e w10 ⟨rfl,hU10⟩; obtain ⟨⟨a0,a1',a2,a3⟩,⟨a4,a5,a6,a7⟩,⟨a8,a9,a10,a11⟩⟩:=hU10.act; obtain ⟨z0,z1,z2,z3,_⟩:=row4 (hU10.row (g:=g2) (o:=uO sm) (by simp))))
     have HTA:=Lib.hid (HCC.out.take _ _ hU10)
     clear hU10 k0 k1 k2 k3 s0 s1' s2' s3 z0 z1 z2 z3 HD1 hqs
     go_wp2_with fail
     refine Calls.mono HTA.out ?_
     rintro e w11 ⟨rfl,hU11⟩
     have hU12:=hU11.alloc (uO tw)
     clear a0 a1' a2 a3 a4 a5 a6 a7 a8 a9 a10 a11 hU11 HTA
     go_upto_region 19 with fail
     generalize w11.alloc (uO tw)=w12 at *
     generalize w11.heap.size=g3 at *
     obtain ⟨⟨k0,k1,k2,k3⟩,_,_⟩:=hU12.act
     obtain ⟨d0,d1,d2',d3,_⟩:=row4 (hU12.row (g:=g1) (o:=uO d) (by simp))
     by_cases hte:te=0
     ·have hdd:=HCC.out.back rfl hte
      subst hte hdd
      have HD2:=Lib.hid (HCC.out.dep2 _ _ hU12.drew)
      have hqd:=HEQ.out d2
      clear hU12
      go_region_held3 (fun w'=>w'.cell? ⟨w.heap.size,1,none⟩=some (.int .i64 A.st)∧w'.cell? ⟨w.heap.size,3,none⟩=some (.int .i64 A.sg)∧w'.cell? ⟨g1,0,none⟩=some (.int .u64 d2.1)∧w'.cell? ⟨g1,1,none⟩=some (.int .u64 d2.2.1)∧w'.cell? ⟨g1,2,none⟩=some (.int .u64 d2.2.2.1)∧w'.cell? ⟨g1,3,none⟩=some (.int .u64 d2.2.2.2)) (go_keep)
       (first
        | (go_at_call 16; refine Calls.mono HD2.out ?_; rintro e w13 ⟨rfl,hU13⟩; obtain ⟨⟨a0,a1',a2,a3⟩,_,_⟩:=hU13.act; obtain ⟨z0,z1,z2,z3,_⟩:=row4 (hU13.row (g:=g1) (o:=uO d2) (by simp)))
        | (go_at_call 11; refine Calls.mono (HLU.out _ _ _ _ hU13) ?_; rintro e w14 ⟨rfl,hU14⟩; obtain ⟨⟨b0,b1,b2,b3⟩,_,_⟩:=hU14.act; obtain ⟨y0,y1,y2,y3,_⟩:=row4 (hU14.row (g:=g1) (o:=uO d2) (by simp))))
      go_wp2
      go_ret
      exact ⟨rfl,hU14.bl⟩
     ·have hte2:(te != 0)=true:=by simp [hte]
      have HU0:Hid (UW w A b s2 [(g3,uO tw),(g2,uO sm),(g1,uO d)] w12.drew):=(hU12.below (bl_drew (Below.refl _ _))).less (by simp)
      have HLV:Hid (∀ W,UW w A b s2 [(g3,uO tw),(g2,uO sm),(g1,uO d)] W→_):=fun W h=>HLU.out b s2 _ W h
      clear hU12 hte k0 k1 k2 k3 d0 d1 d2' d3
      refine wp_region_const2 [[],[0],[0,1],[0,1,2],[0,1,2],[0,1,2,4],[0,1,2],[0,1,2,6],[0,1,2,3,4,5,6,7],[0,1,2],[0,1,2,3,4,5,6,7,8,9],[0,1,2,3,4,5,6,7,8,9,10],[0,1,2,3,4,5,6,7,8,9,10,11],[0,1,2,3,4,5,6,7,8,9,10,11,12],[0,1,2,3,4,5,6,7,8,9,10,11,12,13],[0,1,2,3,4,5,6,7,8,9,10,11,12,13,14]]
       [.int .i64 te,.bool true,.bool true,undef,undef,undef,undef,undef,undef,undef,undef,.bool true,.bool true,.bool true,.bool true,.bool true]
       [13] (fun _ W=>UW w A b s2 [(g3,uO tw),(g2,uO sm),(g1,uO d)] W) _ (by kernel_rfl) (by kernel_rfl) (by kernel_rfl)
       (fun vs=>by simp only [rgAct,rgPut,List.setIfInBounds_toArray,List.set_cons_zero,List.set_cons_succ]; exact rfl)
       (by simp only [List.getD_cons_zero,List.getD_cons_succ]; exact rfl) HU0.out ?_ ?_
      ·refine ⟨?_,?_,?_,?_,?_,?_,?_,?_,?_,?_,?_,?_,?_,?_,?_,?_,trivial⟩
       ·intro vs p w1 hA hP hq
        exact rg_move rfl (.inl rfl) rfl ⟨rfl,hP⟩
       ·intro vs p w1 hA hP hq
        obtain ⟨e0,_⟩:=hA
        have e0:vs 0 = .int .i64 te:=e0
        exact rg_neE rfl rfl e0 hte2 ⟨rfl,hP⟩
       ·intro vs p w1 hA hP hq
        obtain ⟨_,e1,_⟩:=hA
        have e1:vs 1 = .bool true:=e1
        exact rg_move rfl (.inl rfl) e1 ⟨rfl,hP⟩
       ·intro vs p w1 hA hP hq
        obtain ⟨_,_,e2,_⟩:=hA
        have e2:vs 2 = .bool true:=e2
        exact rg_out (rg_unwanted rfl rfl rfl e2 rfl) ⟨rfl,hP⟩
       ·intro vs p w1 hA hP hq
        obtain ⟨_,_,e2,_⟩:=hA
        have e2:vs 2 = .bool true:=e2
        exact rg_out (rg_unwanted rfl rfl rfl e2 rfl) ⟨rfl,hP⟩
       ·intro vs p w1 hA hP hq
        obtain ⟨_,_,e2,_⟩:=hA
        have e2:vs 2 = .bool true:=e2
        exact rg_out (rg_unwanted rfl rfl rfl e2 rfl) ⟨rfl,hP⟩
       ·intro vs p w1 hA hP hq
        obtain ⟨_,_,e2,_⟩:=hA
        have e2:vs 2 = .bool true:=e2
        exact rg_out (rg_unwanted rfl rfl rfl e2 rfl) ⟨rfl,hP⟩
       ·intro vs p w1 hA hP hq
        obtain ⟨_,_,e2,_⟩:=hA
        have e2:vs 2 = .bool true:=e2
        exact rg_out (rg_unwanted rfl rfl rfl e2 rfl) ⟨rfl,hP⟩
       ·intro vs p w1 hA hP hq
        obtain ⟨_,_,e2,_⟩:=hA
        have e2:vs 2 = .bool true:=e2
        exact rg_out (rg_unwanted rfl rfl rfl e2 rfl) ⟨rfl,hP⟩
       ·intro vs p w1 hA hP hq
        obtain ⟨_,_,e2,_⟩:=hA
        have e2:vs 2 = .bool true:=e2
        exact rg_out (rg_unwanted rfl rfl rfl e2 rfl) ⟨rfl,hP⟩
       ·intro vs p w1 hA hP hq
        obtain ⟨_,_,e2,_⟩:=hA
        have e2:vs 2 = .bool true:=e2
        exact rg_out (rg_unwanted rfl rfl rfl e2 rfl) ⟨rfl,hP⟩
       ·intro vs p w1 hA hP hq
        obtain ⟨_,_,e2,_⟩:=hA
        have e2:vs 2 = .bool true:=e2
        exact rg_pick rfl rfl e2 rfl ⟨rfl,hP⟩
       ·intro vs p w1 hA hP hq
        obtain ⟨_,_,_,_,_,_,_,_,_,_,_,e11,_⟩:=hA
        have e11:vs 11 = .bool true:=e11
        exact rg_move rfl (.inl rfl) e11 ⟨rfl,hP⟩
       ·intro vs p w1 hA hP hq
        obtain ⟨_,_,_,_,_,_,_,_,_,_,_,_,e12,_⟩:=hA
        have e12:vs 12 = .bool true:=e12
        have hp:=hq 0 rfl
        subst hp
        refine rg_fn (rg_wanted rfl rfl rfl e12) rfl rfl (by kernel_rfl) rfl (Calls.mono (HLV.out _ hP) ?_)
        rintro e w2 ⟨rfl,hP2⟩
        exact ⟨_,rfl,rfl,hP2⟩
       ·intro vs p w1 hA hP hq
        obtain ⟨_,_,_,_,_,_,_,_,_,_,_,_,e12,e13,_⟩:=hA
        have e12:vs 12 = .bool true:=e12
        have e13:vs 13 = .bool true:=e13
        exact rg_pick rfl rfl e12 e13 ⟨rfl,hP⟩
       ·intro vs p w1 hA hP hq
        obtain ⟨_,_,_,_,_,_,_,_,_,_,_,_,_,_,e14,_⟩:=hA
        have e14:vs 14 = .bool true:=e14
        exact rg_move rfl (.inr rfl) e14 ⟨rfl,hP⟩
      ·intro W hW
       go_wp2_with fail
       go_ret
       exact ⟨rfl,UW.bl hW⟩
    ·have hs1:=HCC.out.same hpe
     subst hs1
     have hpe2:(pe != 0)=true:=by simp [hpe]
     have HAL:=Lib.hid (HCC.out.all _ _ hU7)
     clear hpe hU7
     go_wp2_with fail
     refine Calls.mono HAL.out ?_
     rintro e w8 ⟨a2,c2,rs1,rfl,hU8,hP2⟩
     have HSA:=Lib.hid (same_self w8 a2 a1 c2 c1 s1.ents (hP2 w8 fun x hx=>hU8.row (List.mem_append_left _ hx)) (HP1.out w8 fun x hx=>hU8.row (List.mem_append_right _ (List.mem_cons_of_mem _ (List.mem_append_left _ hx)))) HCC.out.len)
     have HU8:=Lib.hid hU8
     clear hU8 hP2 HAL
     go_wp2_with fail
     refine Calls.mono HSA.out ?_
     rintro e w9 ⟨rfl,hb9⟩
     have HLV:=Lib.hid (HLU.out _ _ _ _ (HU8.out.below hb9))
     clear hb9 HSA HU8
     go_wp2_with fail
     refine Calls.mono HLV.out ?_
     rintro e w10 ⟨rfl,hU10⟩
     go_wp2_with fail
     go_ret
     exact ⟨rfl,hU10.bl⟩
end Go.Proofs.YtpojljieakdgiaaGreat
namespace Go.Proofs.YtpojljieakdgiaaGreat.holdingUndone
open Go.ChangeShapes Go.WideShapes Go.ChangeAt Go.RowKit
set_option linter.unusedVariables false
theorem params:Tryz.f5.params = #[51,53]:=rfl
theorem lifted (os:Os) (started:os.Started) (H:Type) (enc:TypeId × Value→H) :
  ReturnsInHanded {} Tryz.checked os 5 .any (Rows.holdingUndoneSpec.pre6 enc Tryz.prog Tryz.f5 Rows.holdingUndoneRow.domain false) (Rows.holdingUndoneSpec.post enc Tryz.prog Tryz.f5 false true false false):=by
 refine returnsInHanded_of_change (C:=Tryz.checked) own started (by kernel_rfl) Tryz.func5
  (ChangeSpec.witness6 (enc:=enc) (C:=Tryz.checked) false ⟨#[],#[.slice none 0 0,.agg #[.int .i64 0,.int .i64 0,.int .i64 0,.int .i64 0,.int .u64 0,.int .u64 0,.int .u64 0,.int .u64 0,.int .u64 0,.int .u64 0,.int .u64 0,.int .u64 0]],[]⟩ 8 (by kernel_rfl) (by kernel_rfl) (by kernel_rfl) (by kernel_rfl)) ?_
 intro W base args ds gs before hval0 hW hcnd _
 have hval:∀ (j:Nat) t v,Tryz.f5.params[j]? = some t→args[j]? = some v→Value.okWide Tryz.prog W .any base t v:=hval0
 have hW':=hW
 obtain ⟨p,q,hA0,hV,rfl,hfz,hnd⟩:=hW
 have hA:DataW.TrodAll enc Tryz.prog W 0 (fun _=>true) true Tryz.f5.params.toList args.toList ds p:=hA0
 rw [params] at hA hval
 obtain ⟨v0,vs0,d0,ds0,p0,q0,hargs,rfl,rfl,h0,r0⟩:=trodAll_cons hA
 obtain ⟨v1,vs1,d1,ds1,p1,q1,rfl,rfl,rfl,h1,r1⟩:=trodAll_cons r0
 obtain ⟨rfl,rfl,rfl⟩:=trodAll_nil r1
 obtain rfl:args = #[v0,v1]:=by cases args; simp_all
 obtain ⟨rfl,rfl⟩:=trodVars_none hV
 obtain ⟨l0,a0,c0,rfl,hl0⟩:=open_acts23 (hval 0 51 v0 rfl rfl) h0
 obtain ⟨A,rfl,hA1⟩:=open_a23 (hval 1 53 v1 rfl rfl) h1
 clear hA0 hval0
 refine (hund_walk W a0 c0 l0 A hl0 hA1).mono fun e W' ⟨he,hg⟩ => ?_
 subst he
 exact ⟨_,rfl,post_true laid (tb:=4) (by kernel_rfl) rfl (fine_all (by kernel_rfl)) rfl hW' rfl hg⟩
theorem over:Rows.holdingUndoneRow.holds Tryz.pinned (OpenSpec.ofChange Rows.holdingUndoneSpec) :=
 OpenClaim.holds_of_wide 5 Tryz.f5 rfl rfl rfl rfl rfl rfl rfl ⟨rfl,rfl,rfl,rfl,rfl⟩ rfl rfl rfl rfl rfl (by kernel_rfl) Tryz.func5 (by kernel_rfl)
  (of_decide_eq_true (by kernel_rfl)) (by unfold Func.isWrapper; first | (rw [if_pos (by decide +kernel)]; kernel_rfl) | (rw [if_neg (by decide +kernel)]; exact ⟨rfl,rfl⟩))
  (fun os started H enc _=>lifted os started H enc)
theorem proved:Rows.HoldingUndoneSaid :=
 over
#print axioms proved
end Go.Proofs.YtpojljieakdgiaaGreat.holdingUndone
