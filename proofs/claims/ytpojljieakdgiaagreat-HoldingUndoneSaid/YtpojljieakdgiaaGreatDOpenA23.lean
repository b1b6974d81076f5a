/- What is proved here: a round of the holding laws' loops: one thing done on both stores, all answers held against each other; and the laws' end. Conditions: ints below 2^63, words below 2^64, at most a thousand rounds. a slice of ints that came in, opened. a slice of bytes that came in, opened. the holding laws' act, opened: four ints, two amounts. -/
import Derived.Test.YtpojljieakdgiaaGreatDHoldEq
import Derived.Test.YtpojljieakdgiaaGreatDRow
import Derived.Test.YtpojljieakdgiaaGreatDNum
import Derived.ChangeSlices
import Derived.Test.YtpojljieakdgiaaGreatDCell
import Derived.Test.YtpojljieakdgiaaGreatDBase
import Derived.OpenShut
set_option maxRecDepth 100000
set_option maxHeartbeats 16000000
namespace Go.Proofs.YtpojljieakdgiaaGreat
open Go.RowKit
def HGood (s:St):Prop:=Sorted s.ents∧∀ x∈s.ents,x.1.size≤17
theorem key17 (n:Nat) (a b:Int):(keyL n [a,b]).size≤17:=by
 unfold keyL
 split
 ·exact Nat.zero_le _
 ·show (keyBytes n [a,b]).toArray.size≤_
  rw [List.size_toArray,keyBytes_len]
  exact Nat.le_refl _
theorem HGood.put {s:St} (h:HGood s) {k:ByteArray} (hk:k.size≤17) (v:ByteArray):HGood (s.put k v):=by
 refine ⟨put_srt h.1 _ _,?_⟩
 unfold St.put
 split
 ·unfold St.del; split
  ·exact fun y hy=>h.2 y (delE_mem hy)
  ·exact h.2
 ·split
  ·exact h.2
  ·unfold St.set; split
   ·exact h.2
   ·intro y hy
    rcases putE_mem hy with rfl | hy
    ·exact hk
    ·exact h.2 y hy
theorem HGood.set {s:St} (h:HGood s) (n:Nat) (a b:Int) (x:W4):HGood (s.setAmt (keyL n [a,b]) x):=h.put (key17 _ _ _) _
theorem st_keeps {P:St→Prop} {h:Hand} {s s':St} (h1:P s) (h2:P s'):P (h.st s s'):=by
 unfold Hand.st; split
 ·exact h2
 ·exact h1
section
variable {P:St→Prop} (hP:∀ s n a b x,P s→P (s.setAmt (keyL n [a,b]) x)) {h:Hand} {s:St}
include hP
theorem wr_keeps (hs:P s) (a t:Int) (d f:W4):P (h.wr s a t d f):=by
 have h1:P (h.wrD s a t d):=st_keeps hs (hP _ _ _ _ _ hs)
 exact st_keeps h1 (hP _ _ _ _ _ h1)
theorem add_keeps (hs:P s) (n:Nat) (a b:Int) (x:W4):P (h.addSt s (keyL n [a,b]) x):=by
 unfold Hand.addSt; split
 ·exact st_keeps hs (hP _ _ _ _ _ hs)
 ·exact hs
theorem sub_keeps (hs:P s) (n:Nat) (a b:Int) (x:W4):P (h.subSt s (keyL n [a,b]) x):=by
 unfold Hand.subSt; split
 ·exact st_keeps hs (hP _ _ _ _ _ hs)
 ·exact hs
theorem move_keeps (hs:P s) (n n':Nat) (a b a' b':Int) (x:W4):P (h.moveSt s (keyL n [a,b]) (keyL n' [a',b']) x):=by
 unfold Hand.moveSt; split
 ·have h1:P (h.st s (s.setAmt (keyL n [a,b]) (subW (s.amt (keyL n [a,b])) x))):=st_keeps hs (hP _ _ _ _ _ hs)
  exact st_keeps h1 (hP _ _ _ _ _ h1)
 ·exact hs
theorem put_keeps (hs:P s) (a o t:Int) (m x:W4):P (h.putSt s a o t m x):=by
 unfold Hand.putSt; split
 ·exact add_keeps hP (wr_keeps hP hs _ _ _ _) _ _ _ _
 ·exact hs
theorem take_keeps (hs:P s) (a o t:Int) (m x:W4):P (h.takeSt s a o t m x):=by
 unfold Hand.takeSt; split
 ·exact wr_keeps hP (sub_keeps hP hs _ _ _ _) _ _ _ _
 ·exact hs
theorem shift_keeps (hs:P s) (a o t:Int) (m:W4):P (h.shiftSt s a o t m):=by
 unfold Hand.shiftSt; split
 ·exact wr_keeps hP (move_keeps hP hs _ _ _ _ _ _ _) _ _ _ _
 ·exact hs
theorem cut_keeps (hs:P s) (o t:Int) (m x:W4):P (h.cutSt s o t m x):=by
 unfold Hand.cutSt; split
 ·exact st_keeps hs (hP _ _ _ _ _ hs)
 ·exact hs
theorem act_keeps (hs:P s) (A:HAct):P (h.actSt s A):=by
 unfold Hand.actSt
 split
 ·exact put_keeps hP hs _ _ _ _ _
 ·split
  ·exact take_keeps hP hs _ _ _ _ _
  ·split
   ·exact shift_keeps hP hs _ _ _ _
   ·split
    ·exact cut_keeps hP hs _ _ _ _
    ·exact hs
end
theorem HGood.act {s:St} (h:HGood s) (hd:Hand) (A:HAct):HGood (hd.actSt s A):=act_keeps (P:=HGood) (fun _ n a b x hs=>hs.set n a b x) h A
theorem HGood.keys {s:St} (h:HGood s):∀ x∈s.ents,x.1.size < 1000000000000:=fun x hx=>Nat.lt_of_le_of_lt (h.2 x hx) (by decide)
def HTwo (w:World) (q:Option Addr) (b k:Nat) (wr:World):Prop :=
 ∃ (K:List Nat) (s t:St),PairRep q true b t wr K s∧(∀ j∈K,w.heap.size≤j)∧Below w.heap.size w wr∧s.Fit (8*k)∧t.Fit (8*k)∧s.ents=t.ents∧HGood s
theorem below_stepK {w0 w W:World} {K K':List Nat} (hb:Below w0.heap.size w0 w) (hK:∀ j∈K,w0.heap.size≤j) (st:Step w K W K'):Below w0.heap.size w0 W∧∀ j∈K',w0.heap.size≤j:=by
 refine ⟨⟨st.fr.os.trans hb.os,st.fr.tape.trans hb.tape,st.fr.output.trans hb.output,Nat.le_trans hb.size st.fr.size,fun k hk => ?_⟩,fun j hj => ?_⟩
 ·rw [st.fr.block k (Nat.lt_of_lt_of_le hk hb.size) (fun hm=>absurd (hK k hm) (by omega))]
  exact hb.block k hk
 ·rcases st.own j hj with h | h
  ·exact hK j h
  ·exact Nat.le_trans hb.size h
abbrev Act12 (g:Nat) (A:HAct) (w:World):Prop:=(w.cell? ⟨g,0,none⟩=some (.int .i64 A.kd)∧w.cell? ⟨g,1,none⟩=some (.int .i64 A.st)∧w.cell? ⟨g,2,none⟩=some (.int .i64 A.op)∧w.cell? ⟨g,3,none⟩=some (.int .i64 A.sg)) ∧
  (w.cell? ⟨g,4,none⟩=some (.int .u64 A.am.1)∧w.cell? ⟨g,5,none⟩=some (.int .u64 A.am.2.1)∧w.cell? ⟨g,6,none⟩=some (.int .u64 A.am.2.2.1)∧w.cell? ⟨g,7,none⟩=some (.int .u64 A.am.2.2.2)) ∧
  (w.cell? ⟨g,8,none⟩=some (.int .u64 A.ax.1)∧w.cell? ⟨g,9,none⟩=some (.int .u64 A.ax.2.1)∧w.cell? ⟨g,10,none⟩=some (.int .u64 A.ax.2.2.1)∧w.cell? ⟨g,11,none⟩=some (.int .u64 A.ax.2.2.2))
def HRoundB (w:World) (q:Option Addr) (b k bx:Nat) (A:HAct) (w1:World):Prop :=
 Calls Tryz.prog 16 #[.pointer q,.int .i64 A.st,.int .i64 A.sg] w1 fun e w2=>∃ u1:W4,e = .returned (uV u1)∧Act12 bx A w2 ∧
 Calls Tryz.prog 33 #[.pointer (some ⟨b,0,none⟩),.int .i64 A.st,.int .i64 A.sg] w2 fun e w3=>e = .returned (uV u1)∧Act12 bx A w3 ∧
 Calls Tryz.prog 31 #[.pointer q,.int .i64 A.st,.int .i64 A.sg] w3 fun e w4=>∃ u2:W4,e = .returned (uV u2)∧Act12 bx A w4 ∧
 Calls Tryz.prog 34 #[.pointer (some ⟨b,0,none⟩),.int .i64 A.st,.int .i64 A.sg] w4 fun e w5=>e = .returned (uV u2)∧Act12 bx A w5 ∧
 Calls Tryz.prog 24 #[.pointer q,.int .i64 A.op,.int .i64 A.sg] w5 fun e w6=>∃ u3:W4,e = .returned (uV u3)∧Act12 bx A w6 ∧
 Calls Tryz.prog 35 #[.pointer (some ⟨b,0,none⟩),.int .i64 A.op,.int .i64 A.sg] w6 fun e w7=>e = .returned (uV u3)∧Act12 bx A w7 ∧
 Calls Tryz.prog 22 #[.pointer q,.int .i64 A.st,.int .i64 A.sg,uV A.am] w7 fun e w8=>∃ u4:W4,e = .returned (uV u4)∧Act12 bx A w8 ∧
 Calls Tryz.prog 36 #[.pointer (some ⟨b,0,none⟩),.int .i64 A.st,.int .i64 A.sg,uV A.am] w8 fun e w9=>e = .returned (uV u4)∧Act12 bx A w9 ∧
 Calls Tryz.prog 32 #[.pointer q,.int .i64 A.st] w9 fun e w10=>∃ a6 r c6,e = .returned (.slice a6 r c6)∧Act12 bx A w10 ∧
 Calls Tryz.prog 38 #[.pointer (some ⟨b,0,none⟩),.int .i64 A.st] w10 fun e w11=>∃ a7 c7,e = .returned (.slice a7 r c7)∧Act12 bx A w11 ∧
 Calls Tryz.prog 37 #[.slice a6 r c6,.slice a7 r c7] w11 fun e w12=>e = .returned (.bool true)∧Act12 bx A w12∧HTwo w q b (k+1) w12
def HRound (w:World) (q:Option Addr) (b k bx:Nat) (A:HAct) (w0:World):Prop :=
 Calls Tryz.prog 28 #[.pointer q,.pointer (some ⟨b,0,none⟩),.agg A.L] w0 fun e w1=>e = .returned (.bool true)∧Act12 bx A w1∧HRoundB w q b k bx A w1
theorem PV.two {h:Hand} {b:Nat} {m:St} {w W:World} {K:List Nat} {s:St} {rs:List (Nat × Obj)} (hP:PV h b m w K s rs W):∃ L M,QSt W ⟨h.ptr,h.on,L⟩ s∧RRep W b m M:=by
 obtain ⟨K',⟨L,M,_,_,h1,h2⟩,_⟩:=hP.on
 exact ⟨L,M,h1,h2⟩
theorem PV.act {q:Option Addr} {b k:Nat} {s t:St} {w W:World} {K:List Nat} {rs:List (Nat × Obj)} (hP:PV ⟨q,true,[]⟩ b t w K s rs W) (hs:s.Fit (8*k)) (ht:t.Fit (8*k)) (hk:k < 1000) (he:s.ents=t.ents) (hg:HGood s) (A:HAct) (hA:A.Ok) :
  Calls Tryz.prog 28 #[.pointer q,.pointer (some ⟨b,0,none⟩),.agg A.L] W fun e W'=>e = .returned (.bool true)∧PV ⟨q,true,[]⟩ b (ractSt t A) w K ((⟨q,true,[]⟩:Hand).actSt s A) rs W':=by
 have hsame:=(act_same (h:=⟨q,true,[]⟩) rfl hg.1 he A).1
 refine QV.callR hP (pairRep_ok _ _ _ _) fun K' hK => ?_
 refine (act23_any W ⟨q,true,[]⟩ b K' s t (8*k) A hA.st hA.op hA.sg hA.am hA.ax hK hs ht (by omega)).mono fun e W' ⟨h1,h2⟩=>⟨?_,h2⟩
 rw [h1,hsame]
theorem hroundB {w wr w1:World} {q:Option Addr} {b k:Nat} {K:List Nat} {s1 t1:St} (hK:∀ j∈K,w.heap.size≤j) (hbw:Below w.heap.size w wr) (A:HAct) (hA:A.Ok) (f:Nat) (hfk:f=8*(k+1)) (hk:k < 1000)
  (f1:s1.Fit f) (g1:t1.Fit f) (hsame:s1.ents=t1.ents) (hg1:HGood s1) (h1:PV ⟨q,true,[]⟩ b t1 wr K s1 [(wr.heap.size,actO A)] w1):HRoundB w q b k wr.heap.size A w1:=by
 have hm:f < 10000000000:=by omega
 have hmm:f < 100000000000:=by omega
 have c:∀ {W},PV ⟨q,true,[]⟩ b t1 wr K s1 [(wr.heap.size,actO A)] W→Act12 wr.heap.size A W:=fun h=>row12 (h.row (by simp))
 obtain ⟨ha,ho,ht,hmo,hxo⟩:=hA
 unfold HRoundB
 refine (h1.readsP (args:=#[.pointer (q),.int .i64 A.st,.int .i64 A.sg]) fun L hq=>hDeposit_q w1 ⟨q,true,L⟩ s1 f A.st A.sg ha ht hq f1 hmm).mono fun e w2 ⟨he,h2⟩=>⟨s1.dep A.st A.sg,he,c h2,?_⟩
 refine (h2.readsF (args:=#[.pointer (some ⟨b,0,none⟩),.int .i64 A.st,.int .i64 A.sg]) fun M hq=>rdep_q w2 b t1 M f A.st A.sg ha ht hq g1 hmm).mono fun e w3 ⟨he,h3⟩=>⟨by rw [he,dep_congr hsame],c h3,?_⟩
 refine (h3.readsP (args:=#[.pointer (q),.int .i64 A.st,.int .i64 A.sg]) fun L hq=>hFactor_q w3 ⟨q,true,L⟩ s1 f A.st A.sg ha ht hq f1 hmm).mono fun e w4 ⟨he,h4⟩=>⟨s1.fct A.st A.sg,he,c h4,?_⟩
 refine (h4.readsF (args:=#[.pointer (some ⟨b,0,none⟩),.int .i64 A.st,.int .i64 A.sg]) fun M hq=>rfct_q w4 b t1 M f A.st A.sg ha ht hq g1 hmm).mono fun e w5 ⟨he,h5⟩=>⟨by rw [he,fct_congr hsame],c h5,?_⟩
 refine (h5.readsP (args:=#[.pointer (q),.int .i64 A.op,.int .i64 A.sg]) fun L hq=>hPart_q w5 ⟨q,true,L⟩ s1 f A.op A.sg ho ht hq f1 hmm).mono fun e w6 ⟨he,h6⟩=>⟨s1.prt A.op A.sg,he,c h6,?_⟩
 refine (h6.readsF (args:=#[.pointer (some ⟨b,0,none⟩),.int .i64 A.op,.int .i64 A.sg]) fun M hq=>rprt_q w6 b t1 M f A.op A.sg ho ht hq g1 hmm).mono fun e w7 ⟨he,h7⟩=>⟨by rw [he,prt_congr hsame],c h7,?_⟩
 refine (h7.readsP (args:=#[.pointer (q),.int .i64 A.st,.int .i64 A.sg,uV A.am]) fun L hq=>hWorth_q w7 ⟨q,true,L⟩ s1 f A.st A.sg A.am ha ht hmo hq f1 hmm).mono fun e w8 ⟨he,h8⟩=>⟨worthW (s1.dep A.st A.sg) (s1.fct A.st A.sg) A.am,he,c h8,?_⟩
 refine (h8.readsF (args:=#[.pointer (some ⟨b,0,none⟩),.int .i64 A.st,.int .i64 A.sg,uV A.am]) fun M hq=>rworth_q w8 b t1 M f A.st A.sg A.am ha ht hmo hq g1 hmm).mono fun e w9 ⟨he,h9⟩=>⟨by rw [he,dep_congr hsame,fct_congr hsame],c h9,?_⟩
 obtain ⟨L9,_,hq9,_⟩:=PV.two h9
 refine (hstr_q w9 ⟨q,true,L9⟩ s1 f A.st ha hq9 f1 hm hg1.keys).mono fun e w10 ⟨v,he,hO,hb10⟩ => ?_
 obtain ⟨a6,c6,rfl,hn6⟩:=hO.nums
 have h10:=h9.below hb10
 refine ⟨a6,_,c6,he,c h10,?_⟩
 obtain ⟨_,M10,_,hr10⟩:=PV.two h10
 have hk1:∀ x∈t1.ents,x.1.size < 1000000000000:=by rw [← hsame]; exact hg1.keys
 refine (rhstr_any w10 b M10 t1 _ A.st ha hr10 g1 hm hk1).mono fun e w11 ⟨v,he,hO,hb11⟩ => ?_
 rw [← str_congr hsame] at hO
 obtain ⟨a7,c7,rfl,hn7⟩:=hO.nums
 have h11:=h10.below hb11
 refine ⟨a7,c7,he,c h11,?_⟩
 have hl:(strH s1 A.st).length < 1000000000000:=by
  have h1:(strH s1 A.st).length≤s1.ents.length:=by
   unfold strH; split
   ·exact Nat.zero_le _
   ·exact Nat.le_trans (List.length_filterMap_le _ _) (underE_len _ _)
  have h2:=f1.size
  unfold St.size at h2
  omega
 refine (ints_same w11 a6 a7 c6 c7 _ (hn6.below hb11) hn7 hl).mono fun e w12 ⟨he,hb12⟩=>⟨he,c (h11.below hb12),?_⟩
 obtain ⟨K',hK',st⟩:=QV.done (h11.below hb12)
 obtain ⟨hb',hKK⟩:=below_stepK hbw hK st
 subst hfk
 exact ⟨K',s1,t1,hK',hKK,hb',f1,g1,hsame,hg1⟩
theorem hround {w wr:World} {q:Option Addr} {b k:Nat} (h:HTwo w q b k wr) (hk:k < 1000) (A:HAct) (hA:A.Ok) {w0:World} (hw0:Below (wr.alloc (actO A)).heap.size (wr.alloc (actO A)) w0):HRound w q b k wr.heap.size A w0:=by
 obtain ⟨K,s,t,hPR,hK,hbw,hfs,hft,hee,hg⟩:=h
 have hB:PV ⟨q,true,[]⟩ b t wr K s [(wr.heap.size,actO A)] w0:=((QV.start (pairRep_ok _ _ _ _) hPR).alloc (actO A)).below hw0
 unfold HRound
 refine (PV.act hB hfs hft hk hee hg A hA).mono fun e w1 ⟨he,h1⟩=>⟨he,row12 (h1.row (by simp)),?_⟩
 exact hroundB hK hbw A hA _ rfl hk (Hand.actSt_fit hfs A) (ractSt_fit hft A) (act_same (h:=⟨q,true,[]⟩) rfl hg.1 hee A).2 (hg.act _ A) h1
abbrev LRow (m:Nat) (a:Option Addr) (n c:Nat) (w:World):Prop:=w.cell? ⟨m,0,none⟩=some (.slice a n c)
def HEnd (w:World) (q:Option Addr) (b:Nat) (a2:Option Addr) (n c2:Nat) (w0:World):Prop :=
 Calls Tryz.prog 29 #[.pointer q] w0 fun e w4=>∃ a4 c4,e = .returned (.slice a4 n c4)∧LRow b a2 n c2 w4 ∧
 Calls Tryz.prog 30 #[.slice a4 n c4,.slice a2 n c2] w4 fun e w5=>e = .returned (.bool true)∧LRow b a2 n c2 w5 ∧
 Calls Tryz.prog 11 #[] w5 fun e w6=>e = .returned (.bool true)∧LRow b a2 n c2 w6∧Below w.heap.size w w6
theorem HTwo.below {w wr:World} {q:Option Addr} {b k:Nat} (h:HTwo w q b k wr):Below w.heap.size w wr:=by
 obtain ⟨_,_,_,_,_,h,_⟩:=h; exact h
theorem hend {w wr:World} {q:Option Addr} {b k:Nat} (h:HTwo w q b k wr) (hk:k < 1000):∃ a2 n c2,LRow b a2 n c2 wr∧HEnd w q b a2 n c2 wr.drew:=by
 obtain ⟨K,s,t,⟨L,M,_,_,hQ,hR⟩,hK,hbw,hfs,hft,hee,hg⟩:=h
 rcases hQ with ⟨_,b',hq,hS⟩ | ⟨h0,_⟩
 ·obtain ⟨lv,pv,hA,_⟩:=hR
  obtain ⟨a2,c2,rfl,hE⟩:=hA.ents
  have hq':q=some ⟨b',0,none⟩:=hq
  subst hq'
  refine ⟨a2,_,c2,hE.hd,?_⟩
  have hd:Below wr.heap.size wr wr.drew:=⟨rfl,rfl,rfl,Nat.le_refl _,fun _ _=>rfl⟩
  have hz:s.size < 1000000000000:=by have:=hfs.size; omega
  have hl:s.ents.length < 1000000000000:=by unfold St.size at hz; omega
  have cm:∀ {w1 w2:World},LRow b a2 t.ents.length c2 w1→Below w1.heap.size w1 w2→LRow b a2 t.ents.length c2 w2:=fun {w1 w2} h hb=>by
   show w2.cell? _=_
   rw [hb.cell (p:=⟨b,0,none⟩) (World.block_lt_of_cell? w1 _ h)]; exact h
  have m0:LRow b a2 t.ents.length c2 wr.drew:=hE.hd
  have hp0:PairsAt wr.drew a2 t.ents:=⟨hE.at0⟩
  refine (all_any wr.drew b' s L (hS.below hd) hz).mono fun e w4 ⟨v,he,hO⟩ => ?_
  obtain ⟨a4,c4,rfl,hp1⟩:=hO.1.pairs
  have hb4:Below wr.drew.heap.size wr.drew w4:=hO.2.2
  have hp2:PairsAt w4 a2 t.ents:=⟨fun k x hk=>by
   obtain ⟨g,h3,h4,h5⟩:=hp0.at0 k x hk
   exact ⟨g,h3,by rw [hb4.cell (p:=⟨g,k*2,none⟩) (World.block_lt_of_cell? _ _ h4)]; exact h4,by rw [hb4.cell (p:=⟨g,k*2+1,none⟩) (World.block_lt_of_cell? _ _ h5)]; exact h5⟩⟩
  have m4:=cm m0 hb4
  refine ⟨a4,c4,by rw [he,hee],m4,?_⟩
  rw [← hee] at hp2
  have hs:=same_any w4 a4 a2 c4 c2 s.ents s.ents hp1 hp2 hl
  rw [hee] at hs
  refine hs.mono fun e w5 ⟨he,n,hw⟩ => ?_
  subst hw
  refine ⟨by rw [he]; simp,m4,?_⟩
  have h5:Below wr.heap.size wr (w4.drewN n):=below_drewN (hd.trans (hb4.mono (Nat.le_refl _))) n
  refine (lives23 (w4.drewN n)).mono fun e w6 ⟨he,hb6⟩=>⟨he,cm (w1:=w4.drewN n) m4 hb6,bl_then (bl_then hbw h5) hb6⟩
 ·cases h0
theorem rnew_repH (w:World):RRep (w.alloc (.cells #[.slice none 0 0,.slice none 0 0] 58)) w.heap.size ⟨[],[]⟩ [w.heap.size] :=
 ⟨.slice none 0 0,.slice none 0 0,⟨heap_alloc_new w _,Own.nil _ _ _,Own.nil _ _ _,List.Pairwise.nil,by simp [Value.ownBlock]⟩,by simp [rids,Value.ownBlock]⟩
theorem HGood.empty:HGood emptySt:=⟨List.Pairwise.nil,fun x hx=>by cases hx⟩
theorem htwo_new (w:World):Calls Tryz.prog 12 #[] w fun e w2=>∃ q,e = .returned (.pointer q)∧∀ m,m=w2.heap.size→HTwo w q m 0 (w2.alloc (.cells #[.slice none 0 0,.slice none 0 0] 58)):=by
 refine (new_below w).mono fun e w2 ⟨b,L,he,hS,hb,hL⟩=>⟨_,he,fun m hm => ?_⟩
 subst hm
 have hbA:=bl_alloc (Below.refl w2.heap.size w2) (.cells #[.slice none 0 0,.slice none 0 0] 58)
 refine ⟨L ++ [w2.heap.size],emptySt,emptySt,⟨L,[w2.heap.size],rfl,fun k hk hm => ?_,.inl ⟨rfl,b,rfl,hS.below hbA⟩,rnew_repH w2⟩,fun j hj => ?_,bl_then hb hbA,St.Fit.empty,St.Fit.empty,rfl,HGood.empty⟩
 ·rw [List.mem_singleton] at hm
  subst hm
  exact Nat.lt_irrefl _ (hS.lt _ hk)
 ·rcases List.mem_append.1 hj with h | h
  ·exact hL j h
  ·rw [List.mem_singleton] at h
   subst h; exact hb.size
end Go.Proofs.YtpojljieakdgiaaGreat
namespace Go.Proofs.YtpojljieakdgiaaGreat
open Go.RowKit Go.ChangeShapes Go.WideShapes Go.ChangeAt
section
variable {H:Type} {enc:TypeId × Value→H} {w:World} {base:Nat} {spare:Nat→Bool} {held:Bool}
theorem wf_lt {n:Int} (h:(Lit.int .i64 n).wf=true) : -9223372036854775808≤n∧n < 9223372036854775808:=by
 have e1:IntKind.i64.min = -9223372036854775808:=rfl
 have e2:IntKind.i64.max=9223372036854775807:=rfl
 simp only [Lit.wf,Bool.and_eq_true,decide_eq_true_eq,e1,e2] at h
 omega
end
end Go.Proofs.YtpojljieakdgiaaGreat
namespace Go.Proofs.YtpojljieakdgiaaGreat
open Go.RowKit Go.ChangeShapes Go.WideShapes Go.ChangeAt
section
variable {H:Type} {enc:TypeId × Value→H} {w:World} {base:Nat} {spare:Nat→Bool} {held:Bool}
end
end Go.Proofs.YtpojljieakdgiaaGreat
namespace Go.Proofs.YtpojljieakdgiaaGreat
open Go.RowKit Go.ChangeShapes Go.WideShapes Go.ChangeAt
section
variable {H:Type} {enc:TypeId × Value→H} {w:World} {base:Nat} {spare:Nat→Bool} {held:Bool}
theorem wf_u64o {n:Int} (h:(Lit.int .u64 n).wf=true):∃ m:Nat,n=m∧m < 18446744073709551616:=by
 have e1:IntKind.u64.min=0:=rfl
 have e2:IntKind.u64.max=18446744073709551615:=rfl
 simp only [Lit.wf,Bool.and_eq_true,decide_eq_true_eq,e1,e2] at h
 exact ⟨n.toNat,by omega,by omega⟩
theorem open_wordsO {fuel:Nat} {cs:List Value} {x:DataW H × List MemPlace} (h:DataW.trod enc Tryz.prog w base spare held fuel 28 cs=some x):∃ y:W4,cs=(uL y).toList∧y.Ok:=by
 have hc1:Tryz.prog.cellsOf 26=1:=by kernel_rfl
 have hc4:Tryz.prog.cellsOf 28=4:=by kernel_rfl
 obtain ⟨xs,m,_,_,hlen,hxl,hf⟩:=DataW.trod_array Tryz.underlying28 h
 rw [hc4] at hlen
 match cs,hlen,xs,hxl with
 | [c0,c1,c2,c3],_,[y0,y1,y2,y3],_ =>
  have h0:=hf 0 (by omega)
  have h1:=hf 1 (by omega)
  have h2:=hf 2 (by omega)
  have h3:=hf 3 (by omega)
  simp [hc1] at h0 h1 h2 h3
  obtain ⟨n0,e0,_,s0⟩:=DataW.trod_int Tryz.underlying26 h0
  obtain ⟨n1,e1,_,s1⟩:=DataW.trod_int Tryz.underlying26 h1
  obtain ⟨n2,e2,_,s2⟩:=DataW.trod_int Tryz.underlying26 h2
  obtain ⟨n3,e3,_,s3⟩:=DataW.trod_int Tryz.underlying26 h3
  obtain ⟨m0,rfl,b0⟩:=wf_u64o s0
  obtain ⟨m1,rfl,b1⟩:=wf_u64o s1
  obtain ⟨m2,rfl,b2⟩:=wf_u64o s2
  obtain ⟨m3,rfl,b3⟩:=wf_u64o s3
  simp only [List.cons.injEq,and_true] at e0 e1 e2 e3
  subst e0 e1 e2 e3
  exact ⟨(m0,m1,m2,m3),rfl,b0,b1,b2,b3⟩
theorem open_a23c {fuel:Nat} {cs:List Value} {x:DataW H × List MemPlace} (h:DataW.trod enc Tryz.prog w base spare held fuel 53 cs=some x):∃ A:HAct,cs=A.L.toList∧A.Ok:=by
 have hc1:Tryz.prog.cellsOf 3=1:=by kernel_rfl
 have hc4:Tryz.prog.cellsOf 28=4:=by kernel_rfl
 have hc12:Tryz.prog.cellsOf 53=12:=by kernel_rfl
 obtain ⟨xs,m,_,_,hlen,hxl,hf⟩:=DataW.trod_struct Tryz.underlying53 h
 rw [hc12] at hlen
 match cs,hlen,xs,hxl with
 | [c0,c1,c2,c3,c4,c5,c6,c7,c8,c9,c10,c11],_,[y0,y1,y2,y3,y4,y5],_ =>
  have h0:=hf 0 _ rfl
  have h1:=hf 1 _ rfl
  have h2:=hf 2 _ rfl
  have h3:=hf 3 _ rfl
  have h4:=hf 4 _ rfl
  have h5:=hf 5 _ rfl
  simp [hc1,hc4] at h0 h1 h2 h3 h4 h5
  obtain ⟨n0,e0,_,_⟩:=DataW.trod_int Tryz.underlying3 h0
  obtain ⟨n1,e1,_,s1⟩:=DataW.trod_int Tryz.underlying3 h1
  obtain ⟨n2,e2,_,s2⟩:=DataW.trod_int Tryz.underlying3 h2
  obtain ⟨n3,e3,_,s3⟩:=DataW.trod_int Tryz.underlying3 h3
  obtain ⟨am,e4,k4⟩:=open_wordsO h4
  obtain ⟨ax,e5,k5⟩:=open_wordsO h5
  simp only [List.cons.injEq,and_true] at e0 e1 e2 e3 e4 e5
  obtain ⟨rfl,rfl,rfl,rfl⟩:=e4
  obtain ⟨rfl,rfl,rfl,rfl⟩:=e5
  subst e0 e1 e2 e3
  exact ⟨⟨n0,n1,n2,n3,am,ax⟩,rfl,⟨(wf_lt s1).2,(wf_lt s2).2,(wf_lt s3).2,k4,k5⟩⟩
theorem open_a23 {r:Reach} {b0:Nat} {v:Value} {d:DataW H} {p:List MemPlace} (hv:Value.okWide Tryz.prog w r b0 53 v) (h:DataW.Trod enc Tryz.prog w base spare held 53 v d p) :
  ∃ A:HAct,v = .agg A.L∧A.Ok:=by
 obtain ⟨cs,rfl,hsz⟩:=okWide_struct Tryz.underlying53 hv
 obtain ⟨fuel,hf0⟩:=h
 obtain ⟨A,he,hA⟩:=open_a23c hf0
 obtain ⟨l⟩:=cs
 have hcs:(Value.agg ⟨l⟩).cells.toList=l:=rfl
 rw [hcs] at he
 subst he
 exact ⟨A,rfl,hA⟩
end
structure Acts23In (w:World) (a:Option Addr) (l:List HAct):Prop where
 at0:∀ k A,l[k]? = some A→∃ ad,a=some ad∧∀ j v,A.L[j]? = some v→w.cell? ((ad.add (k*12)).add j)=some v
 ok:∀ A∈l,A.Ok
def At12 (a:Option Addr) (k:Nat) (A:HAct) (wr:World):Prop:=∃ ad,a=some ad∧wr.cell? (ad.add (k*12))=some (.int .i64 A.kd) ∧
 (∀ j v,A.L[j]? = some v→j≠0→wr.cell? ⟨(ad.add (k*12)).block,(ad.add (k*12)).off+j,none⟩=some v)
theorem Acts23In.at12 {w wr:World} {a:Option Addr} {l:List HAct} (h:Acts23In w a l) {k:Nat} {A:HAct} (hb:Below w.heap.size w wr) (hk:l[k]? = some A):At12 a k A wr:=by
 obtain ⟨ad,e,h0⟩:=h.at0 k A hk
 have go:∀ p v,w.cell? p=some v→wr.cell? p=some v:=fun p v hp=>by rw [hb.cell (World.block_lt_of_cell? w _ hp)]; exact hp
 refine ⟨ad,e,?_,fun j v hj hj0 => ?_⟩
 ·have:=h0 0 _ rfl
  rw [Addr.add_zero'] at this
  exact go _ _ this
 ·have h1:=h0 j v hj
  have h2:(ad.add (k*12)).add j=⟨(ad.add (k*12)).block,(ad.add (k*12)).off+j,none⟩:=by simp [Addr.add,hj0]
  rw [h2] at h1
  exact go _ _ h1
theorem list_of23 {α:Type} {P:Nat→α→Prop}:∀ n,(∀ i,i < n→∃ y,P i y)→∃ l:List α,l.length=n∧∀ (i:Nat) y,l[i]? = some y→P i y
 | 0,_=>⟨[],rfl,fun i y h=>by simp at h⟩
 | n+1,h=>by
  obtain ⟨l,hl,hp⟩:=list_of23 n fun i hi=>h i (by omega)
  obtain ⟨z,hz⟩:=h n (by omega)
  refine ⟨l ++ [z],by simp [hl],fun i y hy => ?_⟩
  rw [List.getElem?_append] at hy
  split at hy
  ·exact hp i y hy
  ·rename_i hi
   have:i=n:=by
    have:=(List.getElem?_eq_some_iff.1 hy).1
    simp at this; omega
   subst this
   rw [hl,Nat.sub_self] at hy
   cases hy
   exact hz
section
variable {H:Type} {enc:TypeId × Value→H} {w:World} {base:Nat} {spare:Nat→Bool} {held:Bool}
theorem open_acts23 {r:Reach} {b0:Nat} {v:Value} {d:DataW H} {p:List MemPlace} (hv:Value.okWide Tryz.prog w r b0 51 v) (h:DataW.Trod enc Tryz.prog w base spare held 51 v d p) :
  ∃ (l:List HAct) (a:Option Addr) (c:Nat),v = .slice a l.length c∧Acts23In w a l:=by
 obtain ⟨a,len,cap,rfl⟩:=okWide_slice Tryz.underlying51 hv
 obtain ⟨fuel,hf⟩:=h
 have hc12:Tryz.prog.cellsOf 53=12:=by kernel_rfl
 rcases DataW.trod_slice Tryz.underlying51 hf with ⟨h1,_⟩ | ⟨a',len',cap',elems,rest,n,_,h1,h2,_,_,_,hlen,hel,_⟩
 ·have h2:[Value.slice a len cap] = [.slice none 0 0]:=h1
  cases h2
  exact ⟨[],none,0,rfl,fun k x hx=>(by simp at hx),fun x hx=>(by cases hx)⟩
 ·have h3:[Value.slice a len cap] = [.slice (some a') len' cap']:=h1
  cases h3
  rw [hc12] at hel
  have each:∀ i,i < len→∃ A:HAct,w.cells? base (a'.add (i*12)) 12=some A.L.toList∧A.Ok:=fun i hi=>by
   have:=hel i hi
   rw [List.getElem?_eq_getElem (by omega:i < elems.length),Option.bind_eq_some_iff] at this
   obtain ⟨cs,hcs,ht⟩:=this
   obtain ⟨A,rfl,hA⟩:=open_a23c ht
   exact ⟨A,hcs,hA⟩
  obtain ⟨l,hl,hp⟩:=list_of23 len each
  subst hl
  refine ⟨l,some a',cap,rfl,fun k A hk=>⟨a',rfl,fun j v hj => ?_⟩,fun A hA => ?_⟩
  ·obtain ⟨hcs,_⟩:=hp k A hk
   obtain ⟨_,_,hc⟩:=World.cells?_some hcs
   have hj12:j < 12:=(Array.getElem?_eq_some_iff.1 hj).1
   rw [hc j hj12]
   simpa using hj
  ·obtain ⟨i,hi⟩:=List.mem_iff_getElem?.1 hA
   exact (hp i A hi).2
end
end Go.Proofs.YtpojljieakdgiaaGreat
