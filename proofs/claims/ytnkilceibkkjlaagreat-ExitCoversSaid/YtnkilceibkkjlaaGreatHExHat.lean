/- What is proved here: exits of the program: the deferred undo; a number drawn, a row written by a hand. Conditions: a made store, sizes. exits of the program: (Exit).note. Conditions: a made store, a good exit, sizes. history of the program: what an amount was at a block (At). Conditions: sizes, ints below 2^63. -/
import Derived.Test.YtnkilceibkkjlaaGreatHRowW
import Derived.Test.YtnkilceibkkjlaaGreatHRFacA
import Derived.WalkMore
set_option maxRecDepth 100000
set_option maxHeartbeats 16000000
namespace Go.Proofs.YtnkilceibkkjlaaGreat
open Go.RowKit
theorem hnext_q (w:World) (h:Hand) (s:St) (f:Nat) (k:ByteArray) (hon:h.on=true) (hq:QSt w h s) (hf:s.Fit f) (hm:f < 1000000000) (hn:s.int k < 1000000000000) :
  Calls Tryz.prog 106 #[.pointer h.ptr,.string k] w fun e w'=>e = .returned (.int .i64 ((s.int k:Nat)+1:Int))∧QOn w h (s.setInt k ((s.int k:Nat)+1:Int)) w':=by
 rcases hq with ⟨_,b,hp,hS⟩ | ⟨h0,_⟩
 ·rw [hp]
  exact (next_any w b s h.L k hS (Nat.lt_of_le_of_lt hf.size (by omega)) (hf.val' k) hn).mono fun e w' ⟨he,L',h1,h2⟩=>⟨he,L',.inl ⟨hon,b,hp,h1⟩,h2⟩
 ·rw [hon] at h0; cases h0
theorem hsetRow_q (w:World) (h:Hand) (s:St) (k:ByteArray) (v:Value) (l:List Int) (hon:h.on=true) (hq:QSt w h s) (hz:s.size < 1000000000000) (hv:IntsAt w v l) (hl:l.length < 1000000000) (hne:l≠[]) (hr:∀ n∈l,0≤n∧n < 9223372036854775808) :
  Calls Tryz.prog 107 #[.pointer h.ptr,.string k,v] w fun e w'=>e = .returned (.tuple #[])∧QOn w h (s.put k (rowB l)) w':=by
 rcases hq with ⟨_,b,hp,hS⟩ | ⟨h0,_⟩
 ·rw [hp]
  exact (setRow_any w b s h.L k v l hS hz hv hl hne hr).mono fun e w' ⟨he,L',h1,h2⟩=>⟨he,L',.inl ⟨hon,b,hp,h1⟩,h2⟩
 ·rw [hon] at h0; cases h0
theorem exUndo_d (w:World) (h:Hand) (s:St) (m g:Nat) (e:Int) (u:FrameMode) (hq:QSt w h s) (hc:w.cell? ⟨g,0,none⟩=some (.int .i64 e)) (hm:m≤s.past.length) (hz:s.size < 1000000000000) :
  CallsD Tryz.prog 103 #[.pointer h.ptr,.int .i64 m,.pointer (some ⟨g,0,none⟩)] u w fun en u' w'=>u'=u∧(en = .returned (.tuple #[])∧QOn w h (if e=0 then s else h.st s (s.undo m)) w'):=by
 have HU:=Lib.hid (undo_q w h s m hq hm hz)
 have HQ:=Lib.hid (QOn.start hq)
 generalize h.st s (s.undo m)=s1 at *
 clear hq hm hz
 by_cases he:e=0
 ·subst he
  rw [if_pos rfl]
  go_enter_d Tryz.func103,Tryz.ntmps103
  go_wp2_with fail
  go_end0
  exact ⟨rfl,HQ.out⟩
 ·rw [if_neg he]
  go_enter_d Tryz.func103,Tryz.ntmps103
  go_wp2_with fail
  refine Calls.mono HU.out ?_
  rintro e w2 ⟨⟨b,rfl⟩,hO⟩
  go_wp2_with fail
  go_end0
  exact ⟨rfl,hO⟩
theorem QV.callN {R:World→List Nat→St→Prop} {w W:World} {L:List Nat} {s s':St} {rs:List (Nat × Obj)} (h:QV R w L s rs W) {f:FuncId} {args:Array Value} {v:Value} (hC:∀ L',R W L' s→(∀ W2 L2,Step W L' W2 L2→∀ g o,(g,o)∈rs→W2.heap[g]? = some o)→Calls Tryz.prog f args W fun e W'=>e = .returned v∧∃ L'',R W' L'' s'∧Step W L' W' L''):Calls Tryz.prog f args W fun e W'=>e = .returned v∧QV R w L s' rs W':=by
 obtain ⟨L',h1,h2,h3⟩:=h.on
 refine (hC L' h1 fun W2 L2 st g o hm=>(st.fr.block g (lt_of_at (h.row hm)) (h3 g o hm)).trans (h.row hm)).mono fun e W' ⟨he,L2,hR2,st⟩=>⟨he,h.ok,⟨L2,hR2,h2.trans st,fun g o hm hk => ?_⟩,fun g o hm=>⟨h.le hm,(st.fr.block g (lt_of_at (h.row hm)) (h3 g o hm)).trans (h.row hm)⟩⟩
 rcases st.own g hk with h4 | h4
 ·exact h3 g o hm h4
 ·exact absurd (lt_of_at (h.row hm)) (Nat.not_lt.2 h4)
abbrev i2O (x y:Int):Obj:=.cells #[.int .i64 x,.int .i64 y] 3
theorem ints_at2 {W:World} {g:Nat} {x y:Int} (h:W.heap[g]? = some (i2O x y)):IntsAt W (.slice (some ⟨g,0,none⟩) 2 2) [x,y] :=
 intsAt_cells (l:=[x,y]) fun j z hj=>by
  rw [cell_of_row _ _ _ _ _ _ h]
  match j,hj with
  | 0,hj=>cases hj; rfl
  | 1,hj=>cases hj; rfl
theorem hlast_ok (s:St) (t:Nat) (l:List Int):(s.hlast t l).Ok:=by
 unfold St.hlast; split
 ·exact u0_ok
 ·exact hpt_ok _
def noteE (s:St) (x:Ex):Int:=if x.op=0 then 0 else if uAddC (s.hlast 16 [x.op,x.sg]) (sdW x.wo x.mx)=0 then hpuE s 16 [x.op,x.sg] x.bl.toNat else 6
def noteSt (s:St) (x:Ex):St:=if x.op=0 then s else if uAddC (s.hlast 16 [x.op,x.sg]) (sdW x.wo x.mx)=0 then hpuSt s 16 [x.op,x.sg] x.bl.toNat (uAddS (s.hlast 16 [x.op,x.sg]) (sdW x.wo x.mx)) else s
theorem xnote_q (w:World) (h:Hand) (s:St) (f:Nat) (x:Ex) (b:Nat) (hon:h.on=true) (hbl:x.bl=b) (hb:b≤1099511627776) (hop:0≤x.op) (hop':I63 x.op) (hsg:0≤x.sg) (hsg':I63 x.sg) (hwo:x.wo.Ok) (hmx:x.mx.Ok) (hq:QSt w h s) (hf:s.Fit f) (hm:f < 1000000000) (hnm:s.hlen 16 [x.op,x.sg] < 9223372036854775807) :
  Calls Tryz.prog 104 #[.agg x.L,.pointer h.ptr] w fun e w'=>e = .returned (.int .i64 (noteE s x))∧QOn w h (noteSt s x) w':=by
 have hB:=(HV.start hq).alloc (exO x)
 have hl:IdOk [x.op,x.sg]:=⟨by simp,fun y hy=>by
  rcases List.mem_cons.1 hy with h | h
  ·subst h; exact hop'
  ·rw [List.mem_singleton] at h; subst h; exact hsg'⟩
 have hpos:∀ y∈[x.op,x.sg],0≤y:=fun y hy=>by
  rcases List.mem_cons.1 hy with h | h
  ·subst h; exact hop
  ·rw [List.mem_singleton] at h; subst h; exact hsg
 have hmm:f < 100000000000:=by omega
 have HLA:Hid (∀ rs W g,(g,i2O x.op x.sg)∈rs→HV h w s rs W→Calls Tryz.prog 117 #[.pointer h.ptr,.int .i64 16,.slice (some ⟨g,0,none⟩) 2 2] W fun e w'=>e = .returned (.tuple #[uV (s.hlast 16 [x.op,x.sg]),.bool (decide (s.hlen 16 [x.op,x.sg]≠0))])∧HV h w s rs w'):=fun rs W g hg hV =>
  hV.reads fun L' h1=>histLast_q W ⟨h.ptr,h.on,L'⟩ s f 16 (by omega) (by omega) _ _ (ints_at2 (hV.row hg)) hl h1 hf hmm
 have HSC:Hid (∀ rs W,HV h w s rs W→Calls Tryz.prog 171 #[uV x.wo,uV x.mx] W fun e w'=>e = .returned (.tuple #[uV (sdW x.wo x.mx),.bool (sdB x.wo x.mx)])∧HV h w s rs w'):=fun rs W hV=>hV.reads fun L' h1=>fscaled_any _ _ hwo hmx W
 have HAD:Hid (∀ rs W,HV h w s rs W→Calls Tryz.prog 79 #[uV (s.hlast 16 [x.op,x.sg]),uV (sdW x.wo x.mx)] W fun e w'=>e = .returned (.tuple #[uV (if uAddC (s.hlast 16 [x.op,x.sg]) (sdW x.wo x.mx)=0 then uAddS (s.hlast 16 [x.op,x.sg]) (sdW x.wo x.mx) else (0,0,0,0)),.bool (uAddC (s.hlast 16 [x.op,x.sg]) (sdW x.wo x.mx) == 0)])∧HV h w s rs w'):=fun rs W hV=>hV.reads fun L' h1=>uadd_any _ _ (hlast_ok _ _ _) (sdW_ok _ _) W
 have HPU:Hid (∀ rs W g,(g,i2O x.op x.sg)∈rs→HV h w s rs W→Calls Tryz.prog 172 #[.pointer h.ptr,.int .i64 16,.slice (some ⟨g,0,none⟩) 2 2,.int .i64 x.bl,uV (uAddS (s.hlast 16 [x.op,x.sg]) (sdW x.wo x.mx))] W fun e w'=>e = .returned (.int .i64 (hpuE s 16 [x.op,x.sg] x.bl.toNat))∧HV h w (hpuSt s 16 [x.op,x.sg] x.bl.toNat (uAddS (s.hlast 16 [x.op,x.sg]) (sdW x.wo x.mx))) rs w'):=fun rs W g hg hV=>by
  rw [hbl,Int.toNat_natCast]
  exact QV.callN hV fun L' h1 hk=>hpush_q W ⟨h.ptr,h.on,L'⟩ s f 16 (by omega) (by omega) _ _ b _ hon (fun W2 L2 st=>ints_at2 (hk W2 L2 st g _ hg)) hl hpos hb h1 hf hm hnm
 have hE0:noteE s x=if x.op=0 then 0 else if uAddC (s.hlast 16 [x.op,x.sg]) (sdW x.wo x.mx)=0 then hpuE s 16 [x.op,x.sg] x.bl.toNat else 6:=rfl
 have hS0:noteSt s x=if x.op=0 then s else if uAddC (s.hlast 16 [x.op,x.sg]) (sdW x.wo x.mx)=0 then hpuSt s 16 [x.op,x.sg] x.bl.toNat (uAddS (s.hlast 16 [x.op,x.sg]) (sdW x.wo x.mx)) else s:=rfl
 have HLAW:=Lib.hid (And.intro hE0 hS0)
 have HB:=Lib.hid hB
 clear hE0 hS0 hB hl hpos hmm hnm hf hm hq hop hop' hsg hsg' hwo hmx hb hbl hon
 generalize noteE s x=nE at *
 generalize noteSt s x=nS at *
 generalize hpuE s 16 [x.op,x.sg] x.bl.toNat=pE at *
 generalize hpuSt s 16 [x.op,x.sg] x.bl.toNat (uAddS (s.hlast 16 [x.op,x.sg]) (sdW x.wo x.mx))=pS at *
 generalize decide (s.hlen 16 [x.op,x.sg]≠0)=lb at *
 generalize uAddS (s.hlast 16 [x.op,x.sg]) (sdW x.wo x.mx)=sm at *
 generalize uAddC (s.hlast 16 [x.op,x.sg]) (sdW x.wo x.mx)=cy at *
 generalize s.hlast 16 [x.op,x.sg]=hd at *
 generalize sdW x.wo x.mx=a8 at *
 generalize sdB x.wo x.mx=ab at *
 obtain ⟨xs,xo,xt,xb,W,M⟩:=x
 dsimp only [exO,Ex.L] at HB HLA HSC HAD HPU HLAW ⊢
 go_enter Tryz.func104,Tryz.ntmps104
 go_upto_region 1 with fail
 generalize hw1:w.alloc (.cells #[.int .i64 xs,.int .i64 xo,.int .i64 xt,.int .i64 xb,.int .u64 W.1,.int .u64 W.2.1,.int .u64 W.2.2.1,.int .u64 W.2.2.2,.int .u64 M.1,.int .u64 M.2.1,.int .u64 M.2.2.1,.int .u64 M.2.2.2] 26)=w1 at *
 clear hw1
 obtain ⟨⟨k0,k1,k2,k3⟩,⟨p0,p1,p2,p3⟩,⟨q0,q1,q2,q3⟩⟩:=rowE (x:=⟨xs,xo,xt,xb,W,M⟩) (HB.out.row (g:=w.heap.size) (o:=(.cells #[.int .i64 xs,.int .i64 xo,.int .i64 xt,.int .i64 xb,.int .u64 W.1,.int .u64 W.2.1,.int .u64 W.2.2.1,.int .u64 W.2.2.2,.int .u64 M.1,.int .u64 M.2.1,.int .u64 M.2.2.1,.int .u64 M.2.2.2] 26)) (by simp))
 by_cases h0:xo=0
 ·have hL:nE=0∧nS=s:=by
   have:=HLAW.out
   rw [if_pos h0,if_pos h0] at this
   exact this
  obtain ⟨rfl,rfl⟩:=hL
  subst h0
  clear HLAW HLA HSC HAD HPU
  go_wp2_with fail
  go_ret
  exact ⟨rfl,HV.done HB.out⟩
 ·have h0b:(xo == 0)=false:=by rw [beq_eq_false_iff_ne]; exact h0
  have hL:=HLAW.out
  rw [if_neg h0,if_neg h0] at hL
  have HL:=Lib.hid hL
  clear hL HLAW h0
  go_upto_region 4 with fail
  have hB2:=HB.out.alloc (i2O xo xt)
  generalize hw2:w1.alloc (i2O xo xt)=w2 at *
  generalize w1.heap.size=g at *
  clear hw2 k0 k1 k2 k3 p0 p1 p2 p3 q0 q1 q2 q3 HB
  have HL2:=Lib.hid (HLA.out _ _ g (by simp) hB2)
  clear HLA hB2
  go_wp2_with fail
  refine Calls.mono HL2.out ?_
  rintro e w3 ⟨rfl,hB3⟩
  have hB4:=hB3.alloc (uO hd)
  have HB4:=Lib.hid hB4
  clear HL2 hB3 hB4
  go_upto_region 5 with fail
  generalize hw4:w3.alloc (uO hd)=w4 at *
  generalize w3.heap.size=g4 at *
  clear hw4
  obtain ⟨⟨k0,k1,k2,k3⟩,⟨p0,p1,p2,p3⟩,⟨q0,q1,q2,q3⟩⟩:=rowE (x:=⟨xs,xo,xt,xb,W,M⟩) (HB4.out.row (g:=w.heap.size) (o:=(.cells #[.int .i64 xs,.int .i64 xo,.int .i64 xt,.int .i64 xb,.int .u64 W.1,.int .u64 W.2.1,.int .u64 W.2.2.1,.int .u64 W.2.2.2,.int .u64 M.1,.int .u64 M.2.1,.int .u64 M.2.2.1,.int .u64 M.2.2.2] 26)) (by simp))
  have HS4:=Lib.hid (HSC.out _ _ HB4.out)
  clear HB4 HSC
  go_wp2_with fail
  refine Calls.mono HS4.out ?_
  rintro e w5 ⟨rfl,hB5⟩
  have HB6:=Lib.hid (hB5.alloc (uO a8))
  clear HS4 hB5 k0 k1 k2 k3 p0 p1 p2 p3 q0 q1 q2 q3
  go_upto_region 6 with fail
  generalize hw6:w5.alloc (uO a8)=w6 at *
  generalize w5.heap.size=g6 at *
  clear hw6
  obtain ⟨m0,m1,m2,m3,m4,m5,m6,m7⟩:=row4 (HB6.out.row (g:=g4) (o:=uO hd) (by simp))
  obtain ⟨n0,n1,n2,n3,n4,n5,n6,n7⟩:=row4 (HB6.out.row (g:=g6) (o:=uO a8) (by simp))
  have HA6:=Lib.hid (HAD.out _ _ HB6.out)
  clear HB6 HAD
  by_cases hc:cy=0
  ·rw [if_pos hc] at HA6
   have hL:=HL.out
   rw [if_pos hc,if_pos hc] at hL
   obtain ⟨rfl,rfl⟩:=hL
   have hcb:(cy == 0)=true:=by rw [beq_iff_eq]; exact hc
   rw [hcb] at HA6
   clear HL hcb hc
   go_wp2_with fail
   refine Calls.mono HA6.out ?_
   rintro e w7 ⟨rfl,hB7⟩
   have HB8:=Lib.hid (hB7.alloc (uO sm))
   clear HA6 hB7 m0 m1 m2 m3 m4 m5 m6 m7 n0 n1 n2 n3 n4 n5 n6 n7
   go_upto_region 7 with fail
   generalize hw8:w7.alloc (uO sm)=w8 at *
   generalize w7.heap.size=g8 at *
   clear hw8
   obtain ⟨⟨k0,k1,k2,k3⟩,⟨p0,p1,p2,p3⟩,⟨q0,q1,q2,q3⟩⟩:=rowE (x:=⟨xs,xo,xt,xb,W,M⟩) (HB8.out.row (g:=w.heap.size) (o:=(.cells #[.int .i64 xs,.int .i64 xo,.int .i64 xt,.int .i64 xb,.int .u64 W.1,.int .u64 W.2.1,.int .u64 W.2.2.1,.int .u64 W.2.2.2,.int .u64 M.1,.int .u64 M.2.1,.int .u64 M.2.2.1,.int .u64 M.2.2.2] 26)) (by simp))
   obtain ⟨m0,m1,m2,m3,m4,m5,m6,m7⟩:=row4 (HB8.out.row (g:=g8) (o:=uO sm) (by simp))
   have HP8:=Lib.hid (HPU.out _ _ g (by simp) HB8.out)
   clear HPU HB8
   go_wp2_with fail
   refine Calls.mono HP8.out ?_
   rintro e w9 ⟨rfl,hB9⟩
   have HB9:=Lib.hid hB9
   clear hB9 HP8
   go_wp2_with fail
   go_ret
   exact ⟨rfl,HV.done HB9.out⟩
  ·rw [if_neg hc] at HA6
   have hL:=HL.out
   rw [if_neg hc,if_neg hc] at hL
   obtain ⟨rfl,rfl⟩:=hL
   have hcb:(cy == 0)=false:=by rw [beq_eq_false_iff_ne]; exact hc
   rw [hcb] at HA6
   clear HL hcb hc HPU
   go_wp2_with fail
   refine Calls.mono HA6.out ?_
   rintro e w7 ⟨rfl,hB7⟩
   have HB8:=Lib.hid (hB7.alloc (uO (0,0,0,0)))
   clear HA6 hB7 m0 m1 m2 m3 m4 m5 m6 m7 n0 n1 n2 n3 n4 n5 n6 n7
   go_upto_region 7 with fail
   generalize hw8:w7.alloc (uO (0,0,0,0))=w8 at *
   clear hw8
   go_wp2_with fail
   go_ret
   exact ⟨rfl,HV.done HB8.out⟩
def bsr (p:Nat→Bool):Nat→Nat→Nat→Nat
 | 0,lo,_=>lo
 | k+1,lo,hi=>if hi≤lo then lo else if p (lo+(hi - lo) / 2) then bsr p k (lo+(hi - lo) / 2+1) hi else bsr p k lo (lo+(hi - lo) / 2)
theorem bsr_more (p:Nat→Bool):∀ k lo hi,hi - lo≤k→bsr p (k+1) lo hi=bsr p k lo hi
 | 0,lo,hi,h=>by
  show (if hi≤lo then lo else _)=lo
  rw [if_pos (by omega)]
 | k+1,lo,hi,h=>by
  show (if hi≤lo then lo else if p (lo+(hi - lo) / 2) then bsr p (k+1) (lo+(hi - lo) / 2+1) hi else bsr p (k+1) lo (lo+(hi - lo) / 2))=(if hi≤lo then lo else if p (lo+(hi - lo) / 2) then bsr p k (lo+(hi - lo) / 2+1) hi else bsr p k lo (lo+(hi - lo) / 2))
  by_cases h0:hi≤lo
  ·rw [if_pos h0,if_pos h0]
  ·rw [bsr_more p k _ hi (by omega),bsr_more p k lo _ (by omega)]
theorem bsr_any (p:Nat→Bool) (lo hi:Nat):∀ k,bsr p (hi - lo+k) lo hi=bsr p (hi - lo) lo hi
 | 0=>rfl
 | k+1=>by
  rw [← Nat.add_assoc,bsr_more p _ lo hi (by omega)]
  exact bsr_any p lo hi k
theorem bsr_end (p:Nat→Bool) {lo hi:Nat} (h:¬ lo < hi):bsr p (hi - lo) lo hi=lo:=by
 rw [show hi - lo=0 by omega]; rfl
theorem bsr_step (p:Nat→Bool) {lo hi:Nat} (h:lo < hi):bsr p (hi - lo) lo hi=if p (lo+(hi - lo) / 2) then bsr p (hi - (lo+(hi - lo) / 2+1)) (lo+(hi - lo) / 2+1) hi else bsr p (lo+(hi - lo) / 2 - lo) lo (lo+(hi - lo) / 2):=by
 obtain ⟨d,hd⟩:∃ d,hi - lo=d+1:=⟨hi - lo - 1,by omega⟩
 generalize hm:lo+(hi - lo) / 2=m
 rw [hd]
 show (if hi≤lo then lo else if p (lo+(hi - lo) / 2) then bsr p d (lo+(hi - lo) / 2+1) hi else bsr p d lo (lo+(hi - lo) / 2))=_
 rw [if_neg (by omega),hm]
 rw [show d=hi - (m+1)+(d - (hi - (m+1))) by omega,bsr_any]
 rw [show hi - (m+1)+(d - (hi - (m+1)))=m - lo+(d - (m - lo)) by omega,bsr_any]
theorem bsr_le (p:Nat→Bool):∀ k lo hi,lo≤hi→bsr p k lo hi≤hi
 | 0,lo,hi,h=>h
 | k+1,lo,hi,h=>by
  show (if hi≤lo then lo else if p (lo+(hi - lo) / 2) then bsr p k (lo+(hi - lo) / 2+1) hi else bsr p k lo (lo+(hi - lo) / 2))≤hi
  split
  ·exact h
  ·split
   ·exact bsr_le p k _ _ (by omega)
   ·exact Nat.le_trans (bsr_le p k _ _ (by omega)) (by omega)
def St.hpI (s:St) (t:Nat) (l:List Int) (i:Int):Nat × W4:=hpt (s.val (keyL t (l ++ [i])))
def St.hpos (s:St) (t:Nat) (l:List Int) (b:Int):Nat:=bsr (fun i=>decide (((s.hpI t l (i:Nat)).1:Int)≤b)) (s.hlen t l) 0 (s.hlen t l)
def St.hat (s:St) (t:Nat) (l:List Int) (b:Int):W4:=if s.hpos t l b=0 then (0,0,0,0) else (s.hpI t l ((s.hpos t l b:Nat) - 1)).2
theorem hat_ok (s:St) (t:Nat) (l:List Int) (b:Int):(s.hat t l b).Ok:=by
 unfold St.hat; split
 ·exact u0_ok
 ·exact hpt_ok _
theorem hpos_le (s:St) (t:Nat) (l:List Int) (b:Int):s.hpos t l b≤s.hlen t l:=bsr_le _ _ _ _ (Nat.zero_le _)
theorem hat_mid {lo hi:Nat} (hlt:lo < hi) (hn:hi < 4611686018427387904):∃ d e m:Nat,m=lo+(hi - lo) / 2∧lo≤m∧m < hi∧I63 (m:Int)∧IntKind.i64.wrap ((hi:Int) - (lo:Int))=(d:Int)∧wrap64 ((hi:Int) - (lo:Int))=(d:Int)∧(d:Int).tdiv 2=(e:Int) ∧
  IntKind.i64.wrap (e:Int)=(e:Int)∧wrap64 (e:Int)=(e:Int)∧IntKind.i64.wrap ((lo:Int)+(e:Int))=(m:Int)∧wrap64 ((lo:Int)+(e:Int))=(m:Int)∧IntKind.i64.wrap ((m:Int)+1)=((m+1:Nat):Int)∧wrap64 ((m:Int)+1)=((m+1:Nat):Int):=by
 obtain ⟨e,he⟩:∃ e,e=(hi - lo) / 2:=⟨_,rfl⟩
 have h1:e≤hi - lo:=by omega
 have h2:lo+e < hi:=by omega
 refine ⟨hi - lo,e,lo+e,by rw [he],by omega,h2,by unfold I63; omega,?_,?_,?_,?_,?_,?_,?_,?_,?_⟩
 ·rw [IntKind.wrap_i64]; omega
 ·unfold wrap64; omega
 ·rw [Int.tdiv_eq_ediv_of_nonneg (by omega)]; omega
 ·clear he; rw [IntKind.wrap_i64]; omega
 ·clear he; unfold wrap64; omega
 ·clear he; rw [IntKind.wrap_i64]; omega
 ·clear he; unfold wrap64; omega
 ·clear he; rw [IntKind.wrap_i64]; omega
 ·clear he; unfold wrap64; omega
structure HatAt (h:Hand) (w:World) (s:St) (wr:World):Prop where
 v:HV h w s [(w.heap.size,zO)] wr
 b:Below w.heap.size w wr
theorem hat_q (w:World) (h:Hand) (s:St) (f:Nat) (t:Nat) (ht1:1≤t) (ht2:t≤255) (y:Value) (l:List Int) (b:Int) (hi:IntsAt w y l) (hl:IdOk l) (hq:QSt w h s) (hf:s.Fit f) (hm:f < 100000000000) (hn62:s.hlen t l < 4611686018427387904) :
  Calls Tryz.prog 118 #[.pointer h.ptr,.int .i64 t,y,.int .i64 b] w fun e w'=>e = .returned (.tuple #[uV (s.hat t l b),.bool (decide (s.hpos t l b≠0))])∧Below w.heap.size w w':=by
 have hB:HatAt h w s (w.alloc zO):=⟨(HV.start hq).alloc zO,bl_alloc (Below.refl _ w) zO⟩
 have hI:∀ W,Below w.heap.size w W→IntsAt W y l:=fun W hW=>hi.below hW
 have HLN:Hid (∀ W,HatAt h w s W→Calls Tryz.prog 180 #[.pointer h.ptr,.int .i64 t,y] W fun e w'=>e = .returned (.int .i64 (s.hlen t l))∧HatAt h w s w'):=fun W hW=>by
  obtain ⟨L',h1,_⟩:=hW.v.on
  exact (histLen_q W ⟨h.ptr,h.on,L'⟩ s f t ht1 ht2 y l (hI W hW.b) hl h1 hf hm).mono fun e w' ⟨he,h2⟩=>⟨he,QV.below hW.v h2,bl_then hW.b h2⟩
 have HRD:Hid (∀ (i:Int) W,I63 i→HatAt h w s W→Calls Tryz.prog 181 #[.pointer h.ptr,.int .i64 t,y,.int .i64 i] W fun e w'=>e = .returned (.agg (pL (s.hpI t l i).1 (s.hpI t l i).2))∧HatAt h w s w'):=fun i W hi hW=>by
  obtain ⟨L',h1,_⟩:=hW.v.on
  exact (histRead_q W ⟨h.ptr,h.on,L'⟩ s f t ht1 ht2 y l i (hI W hW.b) hl hi h1 hf hm).mono fun e w' ⟨he,h2⟩=>⟨he,QV.below hW.v h2,bl_then hW.b h2⟩
 have hlaw:(s.hpos t l b=0→s.hat t l b=(0,0,0,0))∧(s.hpos t l b≠0→s.hat t l b=(s.hpI t l ((s.hpos t l b:Nat) - 1)).2):=by
  unfold St.hat
  exact ⟨fun h=>if_pos h,fun h=>if_neg h⟩
 have hR:bsr (fun i=>decide (((s.hpI t l (i:Nat)).1:Int)≤b)) (s.hlen t l - 0) 0 (s.hlen t l)=s.hpos t l b:=rfl
 have HLA:=Lib.hid hlaw
 have HRR:=Lib.hid hR
 have HLE:=Lib.hid (hpos_le s t l b)
 have HB:=Lib.hid hB
 have HST:=Lib.hid (fun lo hi (h:lo < hi)=>bsr_step (fun i=>decide (((s.hpI t l (i:Nat)).1:Int)≤b)) h)
 have HEN:=Lib.hid (fun lo hi (h:¬ lo < hi)=>bsr_end (fun i=>decide (((s.hpI t l (i:Nat)).1:Int)≤b)) h)
 clear hi hl hq hf hI hB hlaw hR ht1 ht2
 generalize hbs:bsr (fun i=>decide (((s.hpI t l (i:Nat)).1:Int)≤b))=bs at *
 generalize s.hat t l b=hw at *
 generalize s.hpos t l b=r at *
 generalize s.hpI t l=pt at *
 generalize s.hlen t l=n at *
 clear hbs
 have hF:=fun (a:Nat) (c:W4) w=>pt_f0 a c w
 generalize ((t:Nat):Int)=tt at *
 go_enter Tryz.func118,Tryz.ntmps118
 go_wp2_with fail
 go_step3
 go_wp2_with fail
 refine Calls.mono (HLN.out _ HB.out) ?_
 rintro e w2 ⟨rfl,hB2⟩
 have HB2:=Lib.hid hB2
 clear hB2 HB HLN
 go_wp2_with fail
 go_step3
 go_wp2_with fail
 go_loopw [10,11] (fun s7 s8 wr=>∃ lo hi:Nat,s7 = .int .i64 lo∧s8 = .int .i64 hi∧lo≤hi∧hi≤n∧bs (hi - lo) lo hi=r∧HatAt h w s wr) (fun s7 s8 _=>(intOf s8).toNat - (intOf s7).toNat)
 case atStart=>exact ⟨0,n,rfl,rfl,by omega,by omega,HRR.out,HB2.out⟩
 case round =>
  obtain ⟨lo,hi,rfl,rfl,h1,h2,h3,h4⟩:=hrel
  have H4:=Lib.hid h4
  have H3:=Lib.hid h3
  clear h3 h4 HRR HB2
  by_cases hlt:lo < hi
  ·have hs:=HST.out lo hi hlt
   rw [H3.out] at hs
   obtain ⟨d,e,m,hm,g1,g2,g3,hw1,hw1',hq,hw3,hw3',hw2,hw2',hw4,hw4'⟩:=hat_mid hlt (Nat.lt_of_le_of_lt h2 hn62)
   rw [← hm] at hs
   have hd:((hi:Int)≤(lo:Int))=False:=eq_false (Int.not_le.2 (Int.ofNat_lt.2 hlt))
   have hd2:(hi≤lo)=False:=eq_false (Nat.not_le.2 hlt)
   have HR:=Lib.hid (HRD.out (m:Int) _ g3 H4.out)
   have HS:=Lib.hid hs
   have HM:=Lib.hid (And.intro g1 (And.intro g2 h2))
   clear HRD HST HEN HLA HLE hs hm hlt h1 h2 hn62 g1 g2 g3
   go_wp2_with fail
   refine Calls.mono HR.out ?_
   rintro e w3 ⟨rfl,h5⟩
   have H5:=Lib.hid h5
   clear h5 HR H4
   by_cases hp:((pt (m:Int)).1:Int)≤b
   ·have hs:=HS.out
    rw [decide_eq_true hp,if_pos rfl] at hs
    have HS2:=Lib.hid hs
    have hp2:(((pt (m:Int)).1:Int)≤b)=True:=eq_true hp
    clear hs HS hp
    go_wp2_with fail
    clear hw1 hw1' hq hw3 hw3' hw2 hw2' hw4 hw4'
    go_roundw
    case rel=>exact ⟨m+1,hi,by first | rfl | go_num,rfl,HM.out.2.1,HM.out.2.2,HS2.out.symm,H5.out⟩
    case measure=>have:=HM.out; simp [intOf]; omega
   ·have hs:=HS.out
    rw [decide_eq_false hp,if_neg (by decide)] at hs
    have HS2:=Lib.hid hs
    have hp2:(((pt (m:Int)).1:Int)≤b)=False:=eq_false hp
    clear hs HS hp
    go_wp2_with fail
    clear hw1 hw1' hq hw3 hw3' hw2 hw2' hw4 hw4'
    go_roundw
    case rel=>exact ⟨lo,m,rfl,rfl,HM.out.1,Nat.le_of_lt (Nat.lt_of_lt_of_le HM.out.2.1 HM.out.2.2),HS2.out.symm,H5.out⟩
    case measure=>have:=HM.out; simp [intOf]; omega
  ·have hlo:lo=r:=(HEN.out lo hi hlt).symm.trans H3.out
   have hhl:lo=hi:=Nat.le_antisymm h1 (Nat.not_lt.1 hlt)
   subst hhl
   subst hlo
   by_cases h0:lo=0
   ·have hE:=HLA.out.1 h0
    subst hE
    subst h0
    have hz:=QV.u4 H4.out.v (g:=w.heap.size) (x:=(0,0,0,0)) (by simp)
    obtain ⟨z0,z1,z2,z3,z4,z5,z6,z7⟩:=row4 hz
    have HZ:=Lib.hid (put4 hz (0,0,0,0))
    have HBB:=Lib.hid (put4_below H4.out.b (Nat.le_refl _) (.int .u64 0) (.int .u64 0) (.int .u64 0) (.int .u64 0))
    clear hz H4 H3 HRD HST HEN HLA HLE hlt h1 h2 hn62
    go_wp2_with fail
    try rw [Exit.noGoto_ret]
    refine bodyPost_ret (results_cell_row2 rfl _ _ w.heap.size 24 (uL (0,0,0,0)) (0,0) _ rfl HZ.out Tryz.underlying24 rfl (by kernel_rfl)) rfl ?_
    exact ⟨rfl,HBB.out⟩
   ·have hE:=HLA.out.2 h0
    have hne:((lo:Int) == 0)=false:=by rw [beq_eq_false_iff_ne]; omega
    have hbt:decide (lo≠0)=true:=decide_eq_true h0
    have HBT:=Lib.hid hbt
    obtain ⟨n1,hn1⟩:∃ n1:Int,n1=(lo:Int) - 1:=⟨_,rfl⟩
    have hn3:I63 n1:=by unfold I63; omega
    have hwr:IntKind.i64.wrap ((lo:Int) - 1)=n1:=by rw [hn1,IntKind.wrap_i64]; omega
    have hwr2:wrap64 ((lo:Int) - 1)=n1:=by rw [hn1]; clear hwr; unfold wrap64; omega
    rw [← hn1] at hE
    have HR:=Lib.hid (HRD.out n1 _ hn3 H4.out)
    have hF1:=fun (a:Nat) (c:W4) w=>pt_f1 a c w
    subst hE
    clear H4 H3 HRD HST HEN HLA HLE hlt h1 h2 hn62 hn1 hn3 h0 hbt
    go_wp2_with fail
    refine Calls.mono HR.out ?_
    rintro e w3 ⟨rfl,h5⟩
    have hz:=QV.u4 h5.v (g:=w.heap.size) (x:=(0,0,0,0)) (by simp)
    obtain ⟨z0,z1,z2,z3,z4,z5,z6,z7⟩:=row4 hz
    have HZ:=Lib.hid (put4 hz (pt n1).2)
    have HBB:=Lib.hid (put4_below h5.b (Nat.le_refl _) (.int .u64 (pt n1).2.1) (.int .u64 (pt n1).2.2.1) (.int .u64 (pt n1).2.2.2.1) (.int .u64 (pt n1).2.2.2.2))
    clear hz h5 HR
    go_wp2_with fail
    try rw [Exit.noGoto_ret]
    refine bodyPost_ret (results_cell_row2 rfl _ _ w.heap.size 24 (uL (pt n1).2) (0,0) _ rfl HZ.out Tryz.underlying24 rfl (by kernel_rfl)) rfl ?_
    exact ⟨by rw [HBT.out]; rfl,HBB.out⟩
end Go.Proofs.YtnkilceibkkjlaaGreat
