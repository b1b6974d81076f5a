/- What is proved here: exits of the program: the deferred undo; a number drawn, a row written by a hand. Conditions: a made store, sizes. exits of the program: (Exit).note. Conditions: a made store, a good exit, sizes. -/
import Derived.Test.YtnkilceibkkjlaaGreatFHistP
import Derived.Test.YtnkilceibkkjlaaGreatFRowW
set_option maxRecDepth 100000
set_option maxHeartbeats 16000000
namespace Go.Proofs.YtnkilceibkkjlaaGreat
open Go.RowKit
theorem hnext_q (w:World) (h:Hand) (s:St) (f:Nat) (k:ByteArray) (hon:h.on=true) (hq:QSt w h s) (hf:s.Fit f) (hm:f < 1000000000) (hn:s.int k < 1000000000000) :
  Calls Tryz.prog 106 #[.pointer h.ptr,.string k] w fun e w'=>e = .returned (.int .i64 ((s.int k:Nat)+1:Int))∧QOn w h (s.setInt k ((s.int k:Nat)+1:Int)) w':=by
 rcases hq with ⟨_,b,hp,hS⟩ | ⟨h0,_⟩
 ·rw [hp]
  exact (next_any w b s h.L k hS (Nat.lt_of_le_of_lt hf.size (by omega)) (hf.val' k) hn).mono fun e w' ⟨he,L',h1,h2⟩=>⟨he,L',.inl ⟨hon,b,hp,h1⟩,h2⟩
 ·rw [hon] at h0; cases h0
theorem hsetRow_q (w:World) (h:Hand) (s:St) (k:ByteArray) (v:Value) (l:List Int) (hon:h.on=true) (hq:QSt w h s) (hz:s.size < 1000000000000) (hv:IntsAt w v l) (hl:l.length < 1000000000) (hne:l≠[]) (hr:∀ n∈l,0≤n∧n < 9223372036854775808) :
  Calls Tryz.prog 107 #[.pointer h.ptr,.string k,v] w fun e w'=>e = .returned (.tuple #[])∧QOn w h (s.put k (rowB l)) w':=by
 rcases hq with ⟨_,b,hp,hS⟩ | ⟨h0,_⟩
 ·rw [hp]
  exact (setRow_any w b s h.L k v l hS hz hv hl hne hr).mono fun e w' ⟨he,L',h1,h2⟩=>⟨he,L',.inl ⟨hon,b,hp,h1⟩,h2⟩
 ·rw [hon] at h0; cases h0
theorem exUndo_d (w:World) (h:Hand) (s:St) (m g:Nat) (e:Int) (u:FrameMode) (hq:QSt w h s) (hc:w.cell? ⟨g,0,none⟩=some (.int .i64 e)) (hm:m≤s.past.length) (hz:s.size < 1000000000000) :
  CallsD Tryz.prog 103 #[.pointer h.ptr,.int .i64 m,.pointer (some ⟨g,0,none⟩)] u w fun en u' w'=>u'=u∧(en = .returned (.tuple #[])∧QOn w h (if e=0 then s else h.st s (s.undo m)) w'):=by
 have HU:=Lib.hid (undo_q w h s m hq hm hz)
 have HQ:=Lib.hid (QOn.start hq)
 generalize h.st s (s.undo m)=s1 at *
 clear hq hm hz
 by_cases he:e=0
 ·subst he
  rw [if_pos rfl]
  go_enter_d Tryz.func103,Tryz.ntmps103
  go_wp2_with fail
  go_end0
  exact ⟨rfl,HQ.out⟩
 ·rw [if_neg he]
  go_enter_d Tryz.func103,Tryz.ntmps103
  go_wp2_with fail
  refine Calls.mono HU.out ?_
  rintro e w2 ⟨⟨b,rfl⟩,hO⟩
  go_wp2_with fail
  go_end0
  exact ⟨rfl,hO⟩
theorem QV.callN {R:World→List Nat→St→Prop} {w W:World} {L:List Nat} {s s':St} {rs:List (Nat × Obj)} (h:QV R w L s rs W) {f:FuncId} {args:Array Value} {v:Value} (hC:∀ L',R W L' s→(∀ W2 L2,Step W L' W2 L2→∀ g o,(g,o)∈rs→W2.heap[g]? = some o)→Calls Tryz.prog f args W fun e W'=>e = .returned v∧∃ L'',R W' L'' s'∧Step W L' W' L''):Calls Tryz.prog f args W fun e W'=>e = .returned v∧QV R w L s' rs W':=by
 obtain ⟨L',h1,h2,h3⟩:=h.on
 refine (hC L' h1 fun W2 L2 st g o hm=>(st.fr.block g (lt_of_at (h.row hm)) (h3 g o hm)).trans (h.row hm)).mono fun e W' ⟨he,L2,hR2,st⟩=>⟨he,h.ok,⟨L2,hR2,h2.trans st,fun g o hm hk => ?_⟩,fun g o hm=>⟨h.le hm,(st.fr.block g (lt_of_at (h.row hm)) (h3 g o hm)).trans (h.row hm)⟩⟩
 rcases st.own g hk with h4 | h4
 ·exact h3 g o hm h4
 ·exact absurd (lt_of_at (h.row hm)) (Nat.not_lt.2 h4)
abbrev i2O (x y:Int):Obj:=.cells #[.int .i64 x,.int .i64 y] 3
theorem ints_at2 {W:World} {g:Nat} {x y:Int} (h:W.heap[g]? = some (i2O x y)):IntsAt W (.slice (some ⟨g,0,none⟩) 2 2) [x,y] :=
 intsAt_cells (l:=[x,y]) fun j z hj=>by
  rw [cell_of_row _ _ _ _ _ _ h]
  match j,hj with
  | 0,hj=>cases hj; rfl
  | 1,hj=>cases hj; rfl
theorem hlast_ok (s:St) (t:Nat) (l:List Int):(s.hlast t l).Ok:=by
 unfold St.hlast; split
 ·exact u0_ok
 ·exact hpt_ok _
def noteE (s:St) (x:Ex):Int:=if x.op=0 then 0 else if uAddC (s.hlast 16 [x.op,x.sg]) (sdW x.wo x.mx)=0 then hpuE s 16 [x.op,x.sg] x.bl.toNat else 6
def noteSt (s:St) (x:Ex):St:=if x.op=0 then s else if uAddC (s.hlast 16 [x.op,x.sg]) (sdW x.wo x.mx)=0 then hpuSt s 16 [x.op,x.sg] x.bl.toNat (uAddS (s.hlast 16 [x.op,x.sg]) (sdW x.wo x.mx)) else s
theorem xnote_q (w:World) (h:Hand) (s:St) (f:Nat) (x:Ex) (b:Nat) (hon:h.on=true) (hbl:x.bl=b) (hb:b≤1099511627776) (hop:0≤x.op) (hop':I63 x.op) (hsg:0≤x.sg) (hsg':I63 x.sg) (hwo:x.wo.Ok) (hmx:x.mx.Ok) (hq:QSt w h s) (hf:s.Fit f) (hm:f < 1000000000) (hnm:s.hlen 16 [x.op,x.sg] < 9223372036854775807) :
  Calls Tryz.prog 104 #[.agg x.L,.pointer h.ptr] w fun e w'=>e = .returned (.int .i64 (noteE s x))∧QOn w h (noteSt s x) w':=by
 have hB:=(HV.start hq).alloc (exO x)
 have hl:IdOk [x.op,x.sg]:=⟨by simp,fun y hy=>by
  rcases List.mem_cons.1 hy with h | h
  ·subst h; exact hop'
  ·rw [List.mem_singleton] at h; subst h; exact hsg'⟩
 have hpos:∀ y∈[x.op,x.sg],0≤y:=fun y hy=>by
  rcases List.mem_cons.1 hy with h | h
  ·subst h; exact hop
  ·rw [List.mem_singleton] at h; subst h; exact hsg
 have hmm:f < 100000000000:=by omega
 have HLA:Hid (∀ rs W g,(g,i2O x.op x.sg)∈rs→HV h w s rs W→Calls Tryz.prog 117 #[.pointer h.ptr,.int .i64 16,.slice (some ⟨g,0,none⟩) 2 2] W fun e w'=>e = .returned (.tuple #[uV (s.hlast 16 [x.op,x.sg]),.bool (decide (s.hlen 16 [x.op,x.sg]≠0))])∧HV h w s rs w'):=fun rs W g hg hV =>
  hV.reads fun L' h1=>histLast_q W ⟨h.ptr,h.on,L'⟩ s f 16 (by omega) (by omega) _ _ (ints_at2 (hV.row hg)) hl h1 hf hmm
 have HSC:Hid (∀ rs W,HV h w s rs W→Calls Tryz.prog 171 #[uV x.wo,uV x.mx] W fun e w'=>e = .returned (.tuple #[uV (sdW x.wo x.mx),.bool (sdB x.wo x.mx)])∧HV h w s rs w'):=fun rs W hV=>hV.reads fun L' h1=>fscaled_any _ _ hwo hmx W
 have HAD:Hid (∀ rs W,HV h w s rs W→Calls Tryz.prog 79 #[uV (s.hlast 16 [x.op,x.sg]),uV (sdW x.wo x.mx)] W fun e w'=>e = .returned (.tuple #[uV (if uAddC (s.hlast 16 [x.op,x.sg]) (sdW x.wo x.mx)=0 then uAddS (s.hlast 16 [x.op,x.sg]) (sdW x.wo x.mx) else (0,0,0,0)),.bool (uAddC (s.hlast 16 [x.op,x.sg]) (sdW x.wo x.mx) == 0)])∧HV h w s rs w'):=fun rs W hV=>hV.reads fun L' h1=>uadd_any _ _ (hlast_ok _ _ _) (sdW_ok _ _) W
 have HPU:Hid (∀ rs W g,(g,i2O x.op x.sg)∈rs→HV h w s rs W→Calls Tryz.prog 172 #[.pointer h.ptr,.int .i64 16,.slice (some ⟨g,0,none⟩) 2 2,.int .i64 x.bl,uV (uAddS (s.hlast 16 [x.op,x.sg]) (sdW x.wo x.mx))] W fun e w'=>e = .returned (.int .i64 (hpuE s 16 [x.op,x.sg] x.bl.toNat))∧HV h w (hpuSt s 16 [x.op,x.sg] x.bl.toNat (uAddS (s.hlast 16 [x.op,x.sg]) (sdW x.wo x.mx))) rs w'):=fun rs W g hg hV=>by
  rw [hbl,Int.toNat_natCast]
  exact QV.callN hV fun L' h1 hk=>hpush_q W ⟨h.ptr,h.on,L'⟩ s f 16 (by omega) (by omega) _ _ b _ hon (fun W2 L2 st=>ints_at2 (hk W2 L2 st g _ hg)) hl hpos hb h1 hf hm hnm
 have hE0:noteE s x=if x.op=0 then 0 else if uAddC (s.hlast 16 [x.op,x.sg]) (sdW x.wo x.mx)=0 then hpuE s 16 [x.op,x.sg] x.bl.toNat else 6:=rfl
 have hS0:noteSt s x=if x.op=0 then s else if uAddC (s.hlast 16 [x.op,x.sg]) (sdW x.wo x.mx)=0 then hpuSt s 16 [x.op,x.sg] x.bl.toNat (uAddS (s.hlast 16 [x.op,x.sg]) (sdW x.wo x.mx)) else s:=rfl
 have HLAW:=Lib.hid (And.intro hE0 hS0)
 have HB:=Lib.hid hB
 clear hE0 hS0 hB hl hpos hmm hnm hf hm hq hop hop' hsg hsg' hwo hmx hb hbl hon
 generalize noteE s x=nE at *
 generalize noteSt s x=nS at *
 generalize hpuE s 16 [x.op,x.sg] x.bl.toNat=pE at *
 generalize hpuSt s 16 [x.op,x.sg] x.bl.toNat (uAddS (s.hlast 16 [x.op,x.sg]) (sdW x.wo x.mx))=pS at *
 generalize decide (s.hlen 16 [x.op,x.sg]≠0)=lb at *
 generalize uAddS (s.hlast 16 [x.op,x.sg]) (sdW x.wo x.mx)=sm at *
 generalize uAddC (s.hlast 16 [x.op,x.sg]) (sdW x.wo x.mx)=cy at *
 generalize s.hlast 16 [x.op,x.sg]=hd at *
 generalize sdW x.wo x.mx=a8 at *
 generalize sdB x.wo x.mx=ab at *
 obtain ⟨xs,xo,xt,xb,W,M⟩:=x
 dsimp only [exO,Ex.L] at HB HLA HSC HAD HPU HLAW ⊢
 go_enter Tryz.func104,Tryz.ntmps104
 go_upto_region 1 with fail
 generalize hw1:w.alloc (.cells #[.int .i64 xs,.int .i64 xo,.int .i64 xt,.int .i64 xb,.int .u64 W.1,.int .u64 W.2.1,.int .u64 W.2.2.1,.int .u64 W.2.2.2,.int .u64 M.1,.int .u64 M.2.1,.int .u64 M.2.2.1,.int .u64 M.2.2.2] 26)=w1 at *
 clear hw1
 obtain ⟨⟨k0,k1,k2,k3⟩,⟨p0,p1,p2,p3⟩,⟨q0,q1,q2,q3⟩⟩:=rowE (x:=⟨xs,xo,xt,xb,W,M⟩) (HB.out.row (g:=w.heap.size) (o:=(.cells #[.int .i64 xs,.int .i64 xo,.int .i64 xt,.int .i64 xb,.int .u64 W.1,.int .u64 W.2.1,.int .u64 W.2.2.1,.int .u64 W.2.2.2,.int .u64 M.1,.int .u64 M.2.1,.int .u64 M.2.2.1,.int .u64 M.2.2.2] 26)) (by simp))
 by_cases h0:xo=0
 ·have hL:nE=0∧nS=s:=by
   have:=HLAW.out
   rw [if_pos h0,if_pos h0] at this
   exact this
  obtain ⟨rfl,rfl⟩:=hL
  subst h0
  clear HLAW HLA HSC HAD HPU
  go_wp2_with fail
  go_ret
  exact ⟨rfl,HV.done HB.out⟩
 ·have h0b:(xo == 0)=false:=by rw [beq_eq_false_iff_ne]; exact h0
  have hL:=HLAW.out
  rw [if_neg h0,if_neg h0] at hL
  have HL:=Lib.hid hL
  clear hL HLAW h0
  go_upto_region 4 with fail
  have hB2:=HB.out.alloc (i2O xo xt)
  generalize hw2:w1.alloc (i2O xo xt)=w2 at *
  generalize w1.heap.size=g at *
  clear hw2 k0 k1 k2 k3 p0 p1 p2 p3 q0 q1 q2 q3 HB
  have HL2:=Lib.hid (HLA.out _ _ g (by simp) hB2)
  clear HLA hB2
  go_wp2_with fail
  refine Calls.mono HL2.out ?_
  rintro e w3 ⟨rfl,hB3⟩
  have hB4:=hB3.alloc (uO hd)
  have HB4:=Lib.hid hB4
  clear HL2 hB3 hB4
  go_upto_region 5 with fail
  generalize hw4:w3.alloc (uO hd)=w4 at *
  generalize w3.heap.size=g4 at *
  clear hw4
  obtain ⟨⟨k0,k1,k2,k3⟩,⟨p0,p1,p2,p3⟩,⟨q0,q1,q2,q3⟩⟩:=rowE (x:=⟨xs,xo,xt,xb,W,M⟩) (HB4.out.row (g:=w.heap.size) (o:=(.cells #[.int .i64 xs,.int .i64 xo,.int .i64 xt,.int .i64 xb,.int .u64 W.1,.int .u64 W.2.1,.int .u64 W.2.2.1,.int .u64 W.2.2.2,.int .u64 M.1,.int .u64 M.2.1,.int .u64 M.2.2.1,.int .u64 M.2.2.2] 26)) (by simp))
  have HS4:=Lib.hid (HSC.out _ _ HB4.out)
  clear HB4 HSC
  go_wp2_with fail
  refine Calls.mono HS4.out ?_
  rintro e w5 ⟨rfl,hB5⟩
  have HB6:=Lib.hid (hB5.alloc (uO a8))
  clear HS4 hB5 k0 k1 k2 k3 p0 p1 p2 p3 q0 q1 q2 q3
  go_upto_region 6 with fail
  generalize hw6:w5.alloc (uO a8)=w6 at *
  generalize w5.heap.size=g6 at *
  clear hw6
  obtain ⟨m0,m1,m2,m3,m4,m5,m6,m7⟩:=row4 (HB6.out.row (g:=g4) (o:=uO hd) (by simp))
  obtain ⟨n0,n1,n2,n3,n4,n5,n6,n7⟩:=row4 (HB6.out.row (g:=g6) (o:=uO a8) (by simp))
  have HA6:=Lib.hid (HAD.out _ _ HB6.out)
  clear HB6 HAD
  by_cases hc:cy=0
  ·rw [if_pos hc] at HA6
   have hL:=HL.out
   rw [if_pos hc,if_pos hc] at hL
   obtain ⟨rfl,rfl⟩:=hL
   have hcb:(cy == 0)=true:=by rw [beq_iff_eq]; exact hc
   rw [hcb] at HA6
   clear HL hcb hc
   go_wp2_with fail
   refine Calls.mono HA6.out ?_
   rintro e w7 ⟨rfl,hB7⟩
   have HB8:=Lib.hid (hB7.alloc (uO sm))
   clear HA6 hB7 m0 m1 m2 m3 m4 m5 m6 m7 n0 n1 n2 n3 n4 n5 n6 n7
   go_upto_region 7 with fail
   generalize hw8:w7.alloc (uO sm)=w8 at *
   generalize w7.heap.size=g8 at *
   clear hw8
   obtain ⟨⟨k0,k1,k2,k3⟩,⟨p0,p1,p2,p3⟩,⟨q0,q1,q2,q3⟩⟩:=rowE (x:=⟨xs,xo,xt,xb,W,M⟩) (HB8.out.row (g:=w.heap.size) (o:=(.cells #[.int .i64 xs,.int .i64 xo,.int .i64 xt,.int .i64 xb,.int .u64 W.1,.int .u64 W.2.1,.int .u64 W.2.2.1,.int .u64 W.2.2.2,.int .u64 M.1,.int .u64 M.2.1,.int .u64 M.2.2.1,.int .u64 M.2.2.2] 26)) (by simp))
   obtain ⟨m0,m1,m2,m3,m4,m5,m6,m7⟩:=row4 (HB8.out.row (g:=g8) (o:=uO sm) (by simp))
   have HP8:=Lib.hid (HPU.out _ _ g (by simp) HB8.out)
   clear HPU HB8
   go_wp2_with fail
   refine Calls.mono HP8.out ?_
   rintro e w9 ⟨rfl,hB9⟩
   have HB9:=Lib.hid hB9
   clear hB9 HP8
   go_wp2_with fail
   go_ret
   exact ⟨rfl,HV.done HB9.out⟩
  ·rw [if_neg hc] at HA6
   have hL:=HL.out
   rw [if_neg hc,if_neg hc] at hL
   obtain ⟨rfl,rfl⟩:=hL
   have hcb:(cy == 0)=false:=by rw [beq_eq_false_iff_ne]; exact hc
   rw [hcb] at HA6
   clear HL hcb hc HPU
   go_wp2_with fail
   refine Calls.mono HA6.out ?_
   rintro e w7 ⟨rfl,hB7⟩
   have HB8:=Lib.hid (hB7.alloc (uO (0,0,0,0)))
   clear HA6 hB7 m0 m1 m2 m3 m4 m5 m6 m7 n0 n1 n2 n3 n4 n5 n6 n7
   go_upto_region 7 with fail
   generalize hw8:w7.alloc (uO (0,0,0,0))=w8 at *
   clear hw8
   go_wp2_with fail
   go_ret
   exact ⟨rfl,HV.done HB8.out⟩
end Go.Proofs.YtnkilceibkkjlaaGreat
