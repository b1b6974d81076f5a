/- What is proved here: exits of the program: Add. Conditions: a made store, sizes. -/
import Derived.Test.YtnkilceibkkjlaaGreatHRExAdP
set_option maxRecDepth 100000
set_option maxHeartbeats 16000000
namespace Go.Proofs.YtnkilceibkkjlaaGreat
open Go.RowKit
theorem results_tmp_err {fn:Func} {u p:Tmp} (h:fn.results = #[.tmp u,.cell p 49]) (tmps:Array Value) (w:World) (g:Nat) (e:Int)
  (hp:tmps.getD p undef = .pointer (some ⟨g,0,none⟩)) (hg:w.heap[g]? = some (eO e)):(results fn tmps).run Tryz.prog w = .ok (.tuple #[tmps.getD u undef,.int .i64 e]) w:=by
 have hp':tmps[p]?.getD undef = .pointer (some ⟨g,0,none⟩):=by simpa using hp
 have hc:w.cell? ⟨g,0,none⟩=some (.int .i64 e):=by rw [cell_of_row _ _ _ _ _ _ hg]; rfl
 have hr:(loadVar 49 ⟨g,0,none⟩).run Tryz.prog w = .ok (.int .i64 e) w:=by simp [loadVar,go_sem,hc]
 simp [results,h,hp',asAddr,Result.andThen,hr]
theorem Hand.stOn {h:Hand} (hon:h.on=true) (s s':St):h.st s s'=s':=by unfold Hand.st; rw [if_pos hon]
theorem xundo_v {h:Hand} {w W:World} {s:St} {rs:List (Nat × Obj)} {g:Nat} {e:Int} {mk:Nat} (hW:HV h w s rs W) (hm:(g,eO e)∈rs) (hmk:mk≤s.past.length) (hz:s.size < 1000000000000) :
  CallsD Tryz.prog 103 #[.pointer h.ptr,.int .i64 mk,.pointer (some ⟨g,0,none⟩)] .returning W fun en u' W'=>u' = .returning∧(en = .returned (.tuple #[])∧HV h w (if e=0 then s else h.st s (s.undo mk)) rs W') :=
 hW.callD fun L' h1=>exUndo_d W ⟨h.ptr,h.on,L'⟩ s mk g e .returning h1 (row1 (hW.row hm)).1 hmk hz
theorem st_undoSelf (h:Hand) (s:St):h.st s (s.undo s.past.length)=s:=by
 have h1:=(Und.refl s).2
 unfold Hand.st; split
 ·exact h1
 ·rfl
theorem ad7_past {h:Hand} {s:St} {x:Ex} (hs:Sorted s.ents) (hon:h.on=true) (hg:x.good=true):s.past.length≤(h.ad7 s x).past.length:=by
 obtain ⟨_,g2,g3,_⟩:=Ex.good_at hg
 have h1:=note_und hs g3 (Int.le_trans (by decide) g2)
 have h2:Und s (h.ad2 s x)∧Sorted (h.ad2 s x).ents:=by
  unfold Hand.ad2 Hand.addSt
  split
  ·rw [Hand.stOn hon]
   exact Und.srtPut h1 _ _
  ·exact h1
 exact (Und.srtPut (Und.srtPut (Und.srtPut (Und.srtPut (Und.srtPut h2 _ _) _ _) _ _) _ _) _ _).1.1
theorem xadd_q (w:World) (h:Hand) (s:St) (f:Nat) (x:Ex) (hon:h.on=true) (hx:x.Ok) (hq:QSt w h s) (hf:s.Fit f) (hm:f < 100000000) (hnm:s.hlen 16 [x.op,x.sg] < 9223372036854775807) (hn1:x.good=true→(h.ad2 s x).int (keyL 14 []) < 1000000000000) (hn2:x.good=true→(h.ad6 s x).int (keyL 20 [x.st]) < 1000000000000) :
  Calls Tryz.prog 37 #[.pointer h.ptr,.agg x.L] w fun e w'=>e = .returned (.tuple #[.int .i64 (h.xadN s x),.int .i64 (xadE s x)])∧QOn w h (h.xadSt s x) w':=by
 have hB:=((HV.start hq).alloc (exO x)).alloc (eO 0)
 rw [World.size_alloc] at hB
 have hsz:∀ {s':St} {g:Nat},s'.Fit g→g < 1000000000→s'.size < 1000000000000:=fun h1 h2=>Nat.lt_of_le_of_lt h1.size (by omega)
 have HMD:Hid (∀ rs W,HV h w s rs W→Calls Tryz.prog 66 #[.pointer h.ptr] W fun e w'=>e = .returned (.bool true)∧HV h w s rs w'):=fun rs W hV=>hV.reads fun L' h1=>hmade_q W ⟨h.ptr,h.on,L'⟩ s hon h1
 have HGD:Hid (∀ rs W,HV h w s rs W→Calls Tryz.prog 102 #[.agg x.L] W fun e w'=>e = .returned (.bool x.good)∧HV h w s rs w'):=fun rs W hV=>hV.reads fun L' h1=>xgood_any x hx.wo hx.mx W
 have HK20:Hid (∀ s' rs W,HV h w s' rs W→Calls Tryz.prog 90 #[.int .i64 20,.slice (some ⟨W.heap.size,0,none⟩) 1 1] (W.alloc (.cells #[.int .i64 x.st] 3)) fun e w'=>e = .returned (.string (keyL 20 [x.st]))∧HV h w s' rs w'):=fun s' rs W hV=>(key1_any 20 (by decide) (by decide) x.st hx.st W).mono fun e w' ⟨he,hb⟩=>⟨he,QV.below hV hb⟩
 have hNid:x.good=true→I63 (h.adN s x):=fun hg=>by
  have h1:((h.ad2 s x).int (keyL 14 []):Nat) < 1000000000000:=hn1 hg
  unfold I63 Hand.adN
  omega
 have HK19:Hid (∀ W v,IntsAt W v [x.sg]→Calls Tryz.prog 90 #[.int .i64 19,v] W fun e w'=>e = .returned (.string (keyL 19 [x.sg]))∧Below W.heap.size W w'):=fun W v hv=>keyI1_any 19 (by decide) (by decide) _ hx.sg W v hv
 have HK15:Hid (x.good=true→∀ W v,IntsAt W v [h.adN s x]→Calls Tryz.prog 90 #[.int .i64 15,v] W fun e w'=>e = .returned (.string (keyL 15 [h.adN s x]))∧Below W.heap.size W w'):=fun hg W v hv=>keyI1_any 15 (by decide) (by decide) _ (hNid hg) W v hv
 have HK17:Hid (x.good=true→∀ W v,IntsAt W v [h.adN s x]→Calls Tryz.prog 90 #[.int .i64 17,v] W fun e w'=>e = .returned (.string (keyL 17 [h.adN s x]))∧Below W.heap.size W w'):=fun hg W v hv=>keyI1_any 17 (by decide) (by decide) _ (hNid hg) W v hv
 have HK18:Hid (x.good=true→∀ W v,IntsAt W v [h.adN s x]→Calls Tryz.prog 90 #[.int .i64 18,v] W fun e w'=>e = .returned (.string (keyL 18 [h.adN s x]))∧Below W.heap.size W w'):=fun hg W v hv=>keyI1_any 18 (by decide) (by decide) _ (hNid hg) W v hv
 have HKN:Hid (∀ s' rs W,HV h w s' rs W→Calls Tryz.prog 90 #[.int .i64 14,.slice none 0 0] W fun e w'=>e = .returned (.string (keyL 14 []))∧HV h w s' rs w'):=fun s' rs W hV=>(key_any 14 (by decide) (by decide) (.slice none 0 0) [] W (.inl ⟨rfl,rfl⟩) (by decide) (fun _ hx=>by cases hx)).mono fun e w' ⟨he,hb⟩=>⟨he,QV.below hV hb⟩
 have HIN:Hid (∀ rs W,HV h w s rs W→Calls Tryz.prog 99 #[.pointer h.ptr,.string (keyL 20 [x.st])] W fun e w'=>e = .returned (.int .i64 (s.int (keyL 20 [x.st])))∧HV h w s rs w'):=fun rs W hV=>hV.reads fun L' h1=>(h1.read hf (by omega)).int _
 have HMK:Hid (∀ rs W,HV h w s rs W→Calls Tryz.prog 73 #[.pointer h.ptr] W fun e w'=>e = .returned (.int .i64 s.past.length)∧HV h w s rs w'):=fun rs W hW=>hW.reads fun L' h1=>(mark_q W ⟨h.ptr,h.on,L'⟩ s h1).mono fun e w' ⟨he,hw⟩=>⟨he,hw ▸ Below.refl _ _⟩
 have HNT:Hid (x.good=true→∀ rs W,HV h w s rs W→Calls Tryz.prog 104 #[.agg x.L,.pointer h.ptr] W fun e w'=>e = .returned (.int .i64 (noteE s x))∧HV h w (noteSt s x) rs w'):=fun hg rs W hV=>by
  obtain ⟨_,g2,g3,g4,g5,_⟩:=Ex.good_at hg
  exact QV.call hV fun L' h1=>xnote_q W ⟨h.ptr,h.on,L'⟩ s f x x.bl.toNat hon (Int.toNat_of_nonneg g4).symm (by omega) g3 hx.op (Int.le_trans (by decide) g2) hx.sg hx.wo hx.mx h1 hf (by omega) hnm
 have hf1:=noteSt_fit hf x
 have HCA:Hid (∀ rs W,HV h w (noteSt s x) rs W→Calls Tryz.prog 105 #[.pointer h.ptr,.string (keyL 19 [x.sg]),uV x.wo] W fun e w'=>e = .returned (.int .i64 (moreE ((noteSt s x).amt (keyL 19 [x.sg])) x.wo))∧HV h w (h.ad2 s x) rs w'):=fun rs W hV=>QV.call hV fun L' h1=>cAdd_q W ⟨h.ptr,h.on,L'⟩ _ (f+4) _ x.wo hx.wo h1 hf1 (by omega)
 have hf2:=Hand.ad2_fit (h:=h) hf x
 have HNX:Hid (x.good=true→∀ rs W,HV h w (h.ad2 s x) rs W→Calls Tryz.prog 106 #[.pointer h.ptr,.string (keyL 14 [])] W fun e w'=>e = .returned (.int .i64 (h.adN s x))∧HV h w (h.ad3 s x) rs w'):=fun hg rs W hV=>QV.call hV fun L' h1=>hnext_q W ⟨h.ptr,h.on,L'⟩ _ (f+6) _ hon h1 hf2 (by omega) (hn1 hg)
 have hf3:=Hand.ad3_fit (h:=h) hf x
 have HSR:Hid (x.good=true→∀ rs W v,IntsAt W v [x.st,x.op,x.sg,x.bl]→HV h w (h.ad3 s x) rs W→Calls Tryz.prog 107 #[.pointer h.ptr,.string (keyL 15 [h.adN s x]),v] W fun e w'=>e = .returned (.tuple #[])∧HV h w (h.ad4 s x) rs w'):=fun hg rs W v hI hV=>by
  obtain ⟨g1,g2,g3,g4,g5,_⟩:=Ex.good_at hg
  exact QV.call hV fun L' h1=>hsetRow_q W ⟨h.ptr,h.on,L'⟩ _ _ v _ hon h1 (hsz hf3 (by omega)) hI (by show (4:Nat) < _; decide) (by simp) (fun n hn=>by
   simp only [List.mem_cons,List.not_mem_nil,or_false] at hn
   have:=hx.st; have:=hx.op; have:=hx.sg; have:=hx.bl
   unfold I63 at *
   rcases hn with rfl | rfl | rfl | rfl <;> omega)
 have hf4:=Hand.ad4_fit (h:=h) hf x
 have HS5:Hid (∀ rs W,HV h w (h.ad4 s x) rs W→Calls Tryz.prog 81 #[.pointer h.ptr,.string (keyL 17 [h.adN s x]),uV x.wo] W fun e w'=>e = .returned (.tuple #[])∧HV h w (h.ad5 s x) rs w'):=fun rs W hV=>(hV.cset (hsz hf4 (by omega)) _ _).mono fun e w' ⟨he,h2⟩=>⟨he,by rw [Hand.stOn hon] at h2; exact h2⟩
 have hf5:=Hand.ad5_fit (h:=h) hf x
 have HS6:Hid (∀ rs W,HV h w (h.ad5 s x) rs W→Calls Tryz.prog 81 #[.pointer h.ptr,.string (keyL 18 [h.adN s x]),uV x.mx] W fun e w'=>e = .returned (.tuple #[])∧HV h w (h.ad6 s x) rs w'):=fun rs W hV=>(hV.cset (hsz hf5 (by omega)) _ _).mono fun e w' ⟨he,h2⟩=>⟨he,by rw [Hand.stOn hon] at h2; exact h2⟩
 have hf6:=Hand.ad6_fit (h:=h) hf x
 have hf7:(h.ad7 s x).Fit (f+16):=hf6.setInt _ _
 have HNY:Hid (x.good=true→∀ rs W,HV h w (h.ad6 s x) rs W→Calls Tryz.prog 106 #[.pointer h.ptr,.string (keyL 20 [x.st])] W fun e w'=>e = .returned (.int .i64 ((((h.ad6 s x).int (keyL 20 [x.st]):Nat):Int)+1))∧HV h w (h.ad7 s x) rs w'):=fun hg rs W hV=>QV.call hV fun L' h1=>hnext_q W ⟨h.ptr,h.on,L'⟩ _ (f+14) _ hon h1 hf6 (by omega) (hn2 hg)
 have HU1:Hid (∀ rs W (e:Int),e≠0→HV h w s rs W→(w.heap.size+1,eO e)∈rs→CallsD Tryz.prog 103 #[.pointer h.ptr,.int .i64 s.past.length,.pointer (some ⟨w.heap.size+1,0,none⟩)] .returning W fun en u' W'=>u' = .returning∧(en = .returned (.tuple #[])∧HV h w s rs W')):=fun rs W e he hW h1=>by
  have h2:=xundo_v hW h1 (Nat.le_refl _) (hsz hf (by omega))
  rwa [if_neg he,st_undoSelf] at h2
 have HU2:Hid (x.good=true→moreE ((noteSt s x).amt (keyL 19 [x.sg])) x.wo≠0→∀ rs W,HV h w (h.ad2 s x) rs W→(w.heap.size+1,eO (moreE ((noteSt s x).amt (keyL 19 [x.sg])) x.wo))∈rs→CallsD Tryz.prog 103 #[.pointer h.ptr,.int .i64 s.past.length,.pointer (some ⟨w.heap.size+1,0,none⟩)] .returning W fun en u' W'=>u' = .returning∧(en = .returned (.tuple #[])∧HV h w s rs W')):=fun hg hmm rs W hW h1=>by
  obtain ⟨b1,b2⟩:=ad2_back (h:=h) hq.srt hon hg hmm
  have h2:=xundo_v hW h1 b2 (hsz hf2 (by omega))
  rwa [if_neg hmm,b1] at h2
 have HU3:Hid (x.good=true→∀ rs W,HV h w (h.ad7 s x) rs W→(w.heap.size+1,eO 0)∈rs→CallsD Tryz.prog 103 #[.pointer h.ptr,.int .i64 s.past.length,.pointer (some ⟨w.heap.size+1,0,none⟩)] .returning W fun en u' W'=>u' = .returning∧(en = .returned (.tuple #[])∧HV h w (h.ad7 s x) rs W')):=fun hg rs W hW h1=>by
  have h2:=xundo_v hW h1 (ad7_past hq.srt hon hg) (hsz hf7 (by omega))
  rwa [if_pos rfl] at h2
 have HL1:=Lib.hid (fun h1:x.good=false=>xad_bad (h:=h) (s:=s) h1)
 have HL2:=Lib.hid (fun (h1:x.good=true) h2=>xad_full (h:=h) (s:=s) h1 h2)
 have HL3:=Lib.hid (fun (h1:x.good=true) h2 h3=>xad_note (h:=h) (s:=s) h1 h2 h3)
 have HL4:=Lib.hid (fun (h1:x.good=true) h2 h3 h4=>xad_more (h:=h) (s:=s) h1 h2 h3 rfl h4)
 have HL5:=Lib.hid (fun (h1:x.good=true) h2 h3 h4=>xad_ok (h:=h) (s:=s) h1 h2 h3 h4)
 have HB:=Lib.hid hB
 have HLS:=Lib.hid (fun h1:noteE s x≠0=>note_same h1)
 clear hB hq hf hf1 hf2 hf3 hf4 hf5 hf6 hf7 hn1 hn2 hnm hm hsz hon hx hNid
 generalize h.xadSt s x=sX at *
 generalize h.xadN s x=nX at *
 generalize xadE s x=eX at *
 generalize h.ad7 s x=s7 at *
 generalize h.ad6 s x=s6 at *
 generalize h.ad5 s x=s5 at *
 generalize h.ad4 s x=s4 at *
 generalize h.ad3 s x=s3 at *
 generalize h.ad2 s x=s2 at *
 generalize h.adN s x=id at *
 generalize moreE ((noteSt s x).amt (keyL 19 [x.sg])) x.wo=eM at *
 generalize noteSt s x=s1 at *
 generalize noteE s x=eN at *
 generalize x.good=gd at *
 generalize s.int (keyL 20 [x.st])=n20 at *
 generalize s.past.length=mk at *
 generalize (((s6.int (keyL 20 [x.st]):Nat):Int)+1)=ny at *
 obtain ⟨xs,xo,xt,xb,W,M⟩:=x
 dsimp only [exO,Ex.L] at HB HGD HNT HCA HSR HS5 HS6 HK20 HK19 HIN HNY ⊢
 go_enter_defers Tryz.func37,Tryz.ntmps37
 go_upto_region 1 with fail
 generalize hw1:(w.alloc (.cells #[.int .i64 xs,.int .i64 xo,.int .i64 xt,.int .i64 xb,.int .u64 W.1,.int .u64 W.2.1,.int .u64 W.2.2.1,.int .u64 W.2.2.2,.int .u64 M.1,.int .u64 M.2.1,.int .u64 M.2.2.1,.int .u64 M.2.2.2] 26)).alloc (eO 0)=w1 at *
 clear hw1
 have HM1:=Lib.hid (HMD.out _ _ HB.out)
 clear HB HMD
 go_wp2_with fail
 refine Calls.mono HM1.out ?_
 rintro e w2 ⟨rfl,hB2⟩
 obtain ⟨⟨k0,k1,k2,k3⟩,⟨p0,p1,p2,p3⟩,⟨q0,q1,q2,q3⟩⟩:=rowE (x:=⟨xs,xo,xt,xb,W,M⟩) (hB2.row (g:=w.heap.size) (o:=(.cells #[.int .i64 xs,.int .i64 xo,.int .i64 xt,.int .i64 xb,.int .u64 W.1,.int .u64 W.2.1,.int .u64 W.2.2.1,.int .u64 W.2.2.2,.int .u64 M.1,.int .u64 M.2.1,.int .u64 M.2.2.1,.int .u64 M.2.2.2] 26)) (by simp))
 have HG2:=Lib.hid (HGD.out _ _ hB2)
 clear hB2 HM1 HGD
 go_wp2_with fail
 refine Calls.mono HG2.out ?_
 rintro e w3 ⟨rfl,hB3⟩
 clear k0 k1 k2 k3 p0 p1 p2 p3 q0 q1 q2 q3 HG2
 cases gd with
 | false =>
  obtain ⟨h1,h2,h3⟩:=HL1.out (by trivial)
  subst h1 h2 h3
  obtain ⟨c1,f1⟩:=row1 (hB3.row (g:=w.heap.size+1) (o:=eO 0) (by simp))
  have HZ:=Lib.hid (hB3.put1 (g:=w.heap.size+1) (e:=0) 2 (by simp) [] (fun _ hx=>by cases hx))
  clear hB3 HK20 HK19 HK15 HK17 HK18 HKN HIN HMK HNT HCA HNX HSR HS5 HS6 HNY HU1 HU2 HU3 HL1 HL2 HL3 HL4 HL5 HLS
  go_wp2_with fail
  exact ⟨_,results_tmp_err rfl _ _ (w.heap.size+1) 2 rfl (HZ.out.row (by simp)),rfl,HV.done HZ.out⟩
 | true =>
  obtain ⟨⟨k0,k1,k2,k3⟩,⟨p0,p1,p2,p3⟩,⟨q0,q1,q2,q3⟩⟩:=rowE (x:=⟨xs,xo,xt,xb,W,M⟩) (hB3.row (g:=w.heap.size) (o:=(.cells #[.int .i64 xs,.int .i64 xo,.int .i64 xt,.int .i64 xb,.int .u64 W.1,.int .u64 W.2.1,.int .u64 W.2.2.1,.int .u64 W.2.2.2,.int .u64 M.1,.int .u64 M.2.1,.int .u64 M.2.2.1,.int .u64 M.2.2.2] 26)) (by simp))
  have HK3:=Lib.hid (HK20.out _ _ _ hB3)
  clear hB3 HL1
  go_wp2_with fail
  refine Calls.mono HK3.out ?_
  rintro e w4 ⟨rfl,hB4⟩
  have HI4:=Lib.hid (HIN.out _ _ hB4)
  clear hB4 HK3 HIN k0 k1 k2 k3 p0 p1 p2 p3 q0 q1 q2 q3
  go_wp2_with fail
  refine Calls.mono HI4.out ?_
  rintro e w5 ⟨rfl,hB5⟩
  clear HI4
  by_cases h16:16≤n20
  ·obtain ⟨h1,h2,h3⟩:=HL2.out (by trivial) h16
   subst h1 h2 h3
   have d1:((16:Int)≤(n20:Int))=True:=eq_true (by omega)
   have d2:(16≤n20)=True:=eq_true h16
   obtain ⟨c1,f1⟩:=row1 (hB5.row (g:=w.heap.size+1) (o:=eO 0) (by simp))
   have HZ:=Lib.hid (hB5.put1 (g:=w.heap.size+1) (e:=0) 7 (by simp) [] (fun _ hx=>by cases hx))
   clear hB5 h16 HK20 HK19 HK15 HK17 HK18 HKN HMK HNT HCA HNX HSR HS5 HS6 HNY HU1 HU2 HU3 HL2 HL3 HL4 HL5 HLS
   go_wp2_with fail
   exact ⟨_,results_tmp_err rfl _ _ (w.heap.size+1) 7 rfl (HZ.out.row (by simp)),rfl,HV.done HZ.out⟩
  ·have d1:((16:Int)≤(n20:Int))=False:=eq_false (by omega)
   have d2:(16≤n20)=False:=eq_false h16
   have HL3:=Lib.hid (HL3.out (by trivial) h16)
   have HL4:=Lib.hid (HL4.out (by trivial) h16)
   have HL5:=Lib.hid (HL5.out (by trivial) h16)
   have HM5:=Lib.hid (HMK.out _ _ hB5)
   clear hB5 h16 HL2 HMK
   go_wp2_with fail
   refine Calls.mono HM5.out ?_
   rintro e w6 ⟨rfl,hB6⟩
   obtain ⟨⟨k0,k1,k2,k3⟩,⟨p0,p1,p2,p3⟩,⟨q0,q1,q2,q3⟩⟩:=rowE (x:=⟨xs,xo,xt,xb,W,M⟩) (hB6.row (g:=w.heap.size) (o:=(.cells #[.int .i64 xs,.int .i64 xo,.int .i64 xt,.int .i64 xb,.int .u64 W.1,.int .u64 W.2.1,.int .u64 W.2.2.1,.int .u64 W.2.2.2,.int .u64 M.1,.int .u64 M.2.1,.int .u64 M.2.2.1,.int .u64 M.2.2.2] 26)) (by simp))
   have HN6:=Lib.hid (HNT.out (by trivial) _ _ hB6)
   clear hB6 HM5 HNT d1 d2
   go_wp2_with fail
   refine Calls.mono HN6.out ?_
   rintro e w7 ⟨rfl,hB7⟩
   clear k0 k1 k2 k3 p0 p1 p2 p3 q0 q1 q2 q3 HN6
   by_cases hN:eN=0
   case neg =>
    obtain ⟨h1,h2,h3⟩:=HL3.out hN
    have h4:=HLS.out hN
    have d1:(eN != 0)=true:=by rw [bne_iff_ne]; exact hN
    obtain ⟨c1,f1⟩:=row1 (hB7.row (g:=w.heap.size+1) (o:=eO 0) (by simp))
    have HZ:=Lib.hid (hB7.put1 (g:=w.heap.size+1) (e:=0) eN (by simp) [] (fun _ hx=>by cases hx))
    have HUU:=Lib.hid (HU1.out _ _ eN hN (h4 ▸ HZ.out) (by simp))
    subst h1 h2 h3
    clear h4 hB7 hN HK20 HK19 HK15 HK17 HK18 HKN HCA HNX HSR HS5 HS6 HNY HU1 HU2 HU3 HL3 HL4 HL5 HLS HZ
    go_wp2_with fail
    refine leaves_cons (f:=103) (args:=#[.pointer h.ptr,.int .i64 mk,.pointer (some ⟨w.heap.size+1,0,none⟩)]) (by simp) (by simp [go_sem]) ?_
    refine CallsD.mono HUU.out ?_
    rintro e u' w10 ⟨rfl,rfl,hQ⟩
    exact ⟨_,results_tmp_err rfl _ _ (w.heap.size+1) _ rfl (hQ.row (by simp)),rfl,QV.done hQ⟩
   case pos =>
    subst hN
    have HL4:=Lib.hid (HL4.out (by trivial))
    have HL5:=Lib.hid (HL5.out (by trivial))
    have HB7:=Lib.hid hB7
    have HB0:=Lib.hid (bl_drew (Below.refl w7.heap.size w7))
    clear hB7 HLS HL3 HU1
    go_upto_region 11 with fail
    refine wp_region_rely_tail 7 [[],[],[1],[1,2],[1,2,3],[],[5],[0,1,2,3,4,5,6],[0,1,2,3,4,5,6,7]]
     [rgC (Below w7.heap.size w7),rgV 0 (.pointer h.ptr),rgV 1 (.pointer (some ⟨w.heap.size,2,none⟩)),rgV 2 (.int .i64 xt),rgI 3 ([xt]),rgV 4 (.string (keyL 19 [xt])),rgV 5 (.pointer (some ⟨w.heap.size,4,none⟩)),rgV 6 (uV W)] _ (by kernel_rfl) (by kernel_rfl) (by decide) (by kernel_rfl) (by kernel_rfl)
     (fun vs=>by simp only [rgAct,rgPut,List.setIfInBounds_toArray,List.set_cons_zero,List.set_cons_succ]; exact rfl)
     ⟨fun _ _ _ hb h=>bl_then h hb,rgV_st,rgV_st,rgV_st,rgI_st,rgV_st,rgV_st,rgV_st,trivial⟩ ?_ ?_ ?_
    ·refine rgAll_yes rfl HB0.out ?_
     iterate 7 refine rgAll_no rfl ?_
     exact trivial
    ·refine ⟨?_,?_,?_,?_,?_,?_,?_,trivial⟩
     ·intro vs w8 hA K hK
      obtain ⟨_,_⟩:=hA
      refine rg_move rfl (.inl rfl) rfl (hK _ _ (.inl (Below.refl _ _)) ?_)
      exact rgNew_one 1 rfl fun _=>rfl
     ·intro vs w8 hA K hK
      obtain ⟨_,_⟩:=hA
      refine rg_ex2 rfl rfl rfl (hK _ _ (.inl (Below.refl _ _)) ?_)
      exact rgNew_one 2 rfl fun _=>rfl
     ·intro vs w8 hA K hK
      obtain ⟨hC,e1,_⟩:=hA
      refine rg_loadN rfl rfl (rg1 e1) (rowE (x:=⟨xs,xo,xt,xb,W,M⟩) ((HB7.out.below hC).row (g:=w.heap.size) (o:=.cells #[.int .i64 xs,.int .i64 xo,.int .i64 xt,.int .i64 xb,.int .u64 W.1,.int .u64 W.2.1,.int .u64 W.2.2.1,.int .u64 W.2.2.2,.int .u64 M.1,.int .u64 M.2.1,.int .u64 M.2.2.1,.int .u64 M.2.2.2] 26) (by simp))).1.2.2.1 (hK _ _ (.inl (Below.refl _ _)) ?_)
      exact rgNew_one 3 rfl fun _=>rfl
     ·intro vs w8 hA K hK
      obtain ⟨_,_,e2,_⟩:=hA
      refine rg_ints1 rfl rfl (rg1 e2) (hK _ _ (.inl (bl_alloc (Below.refl _ _) _)) ?_)
      iterate 4 refine rgNew_no rfl ?_
      refine rgNew_yes rfl (fun _=>one_ints _ _) ?_
      iterate 3 refine rgNew_no rfl ?_
      exact trivial
     ·intro vs w8 hA K hK
      obtain ⟨_,_,_,i3,_⟩:=hA
      refine rg_fn rfl rfl rfl (by kernel_rfl) rfl (Calls.mono (HK19.out _ _ i3) ?_)
      rintro e w2 ⟨rfl,hb⟩
      refine ⟨_,rfl,hK _ _ (.inl hb) ?_⟩
      exact rgNew_one 5 rfl fun _=>rfl
     ·intro vs w8 hA K hK
      obtain ⟨_,_⟩:=hA
      refine rg_ex4 rfl rfl rfl (hK _ _ (.inl (Below.refl _ _)) ?_)
      exact rgNew_one 6 rfl fun _=>rfl
     ·intro vs w8 hA K hK
      obtain ⟨hC,e5,_⟩:=hA
      refine rg_load4 rfl rfl (rg1 e5) (rowE (x:=⟨xs,xo,xt,xb,W,M⟩) ((HB7.out.below hC).row (g:=w.heap.size) (o:=.cells #[.int .i64 xs,.int .i64 xo,.int .i64 xt,.int .i64 xb,.int .u64 W.1,.int .u64 W.2.1,.int .u64 W.2.2.1,.int .u64 W.2.2.2,.int .u64 M.1,.int .u64 M.2.1,.int .u64 M.2.2.1,.int .u64 M.2.2.2] 26) (by simp))).2.1 (hK _ _ (.inl (Below.refl _ _)) ?_)
      exact rgNew_one 7 rfl fun _=>rfl
    ·intro vs w8 hA
     obtain ⟨hC,e0,e1,e2,i3,e4,e5,e6,_⟩:=hA
     have e0:=rg1 e0
     have e1:=rg1 e1
     have e2:=rg1 e2
     have e4:=rg1 e4
     have e5:=rg1 e5
     have e6:=rg1 e6
     refine rgTail_cons ?_
     refine rg_fn rfl rfl rfl (by kernel_rfl) (show [vs 0,vs 4,vs 6]=_ from by rw [e0,e4,e6]) (Calls.mono (HCA.out _ _ (HB7.out.below hC)) ?_)
     rintro e w9 ⟨rfl,hB9⟩
     refine ⟨_,rfl,?_⟩
     refine rgTail_cons ?_
     refine rg_move rfl (.inr rfl) rfl ?_
     refine rgTail_nil ?_
     simp only [rgSet,Nat.reduceEqDiff,↓reduceIte,e0,e1,e2,e4,e5,e6]
     clear e0 e1 e2 e4 e5 e6 i3 hC HK19 HCA HB0 HB7
     by_cases hM:eM=0
     case neg =>
      obtain ⟨h1,h2,h3⟩:=HL4.out (by trivial) hM
      have d1:(eM != 0)=true:=by rw [bne_iff_ne]; exact hM
      obtain ⟨c1,f1⟩:=row1 (hB9.row (g:=w.heap.size+1) (o:=eO 0) (by simp))
      have HZ:=Lib.hid (hB9.put1 (g:=w.heap.size+1) (e:=0) eM (by simp) [] (fun _ hx=>by cases hx))
      have HUU:=Lib.hid (HU2.out (by trivial) hM _ _ HZ.out (by simp))
      subst h1 h2 h3
      clear hB9 hM HK20 HK15 HK17 HK18 HKN HNX HSR HS5 HS6 HNY HU2 HU3 HL4 HL5 HZ
      go_wp2_with fail
      refine leaves_cons (f:=103) (args:=#[.pointer h.ptr,.int .i64 mk,.pointer (some ⟨w.heap.size+1,0,none⟩)]) (by simp) (by simp [go_sem]) ?_
      refine CallsD.mono HUU.out ?_
      rintro e u' w10 ⟨rfl,rfl,hQ⟩
      exact ⟨_,results_tmp_err rfl _ _ (w.heap.size+1) _ rfl (hQ.row (by simp)),rfl,QV.done hQ⟩
     case pos =>
      obtain ⟨h1,h2,h3⟩:=HL5.out (by trivial) hM
      have h2':=h2.symm
      have h3':=h3.symm
      subst h1 h2' h3' hM
      have HK9:=Lib.hid (HKN.out _ _ _ hB9)
      clear hB9 HL4 HL5 HU2 HKN
      go_wp2_with fail
      refine Calls.mono HK9.out ?_
      rintro e w10 ⟨rfl,hB10⟩
      have HN10:=Lib.hid (HNX.out (by trivial) _ _ hB10)
      clear hB10 HK9 HNX
      go_wp2_with fail
      refine Calls.mono HN10.out ?_
      rintro e w11 ⟨rfl,hB11⟩
      have HB11:=Lib.hid hB11
      have HB0:=Lib.hid (bl_drew (Below.refl w11.heap.size w11))
      clear hB11 HN10
      go_upto_region 15 with fail
      refine wp_region_rely_tail 13 [[],[],[1],[1,2],[],[4],[],[6],[],[8],[],[10],[4,5,6,7,8,9,10,11],[0,1,2,3,4,5,6,7,8,9,10,11,12]]
       [rgC (Below w11.heap.size w11),rgV 0 (.pointer h.ptr),rgV 1 (.int .i64 id),rgI 2 ([id]),rgV 3 (.string (keyL 15 [id])),rgV 4 (.pointer (some ⟨w.heap.size,0,none⟩)),rgV 5 (.int .i64 xs),rgV 6 (.pointer (some ⟨w.heap.size,1,none⟩)),rgV 7 (.int .i64 xo),rgV 8 (.pointer (some ⟨w.heap.size,2,none⟩)),rgV 9 (.int .i64 xt),rgV 10 (.pointer (some ⟨w.heap.size,3,none⟩)),rgV 11 (.int .i64 xb),rgI 12 ([xs,xo,xt,xb])] _ (by kernel_rfl) (by kernel_rfl) (by decide) (by kernel_rfl) (by kernel_rfl)
       (fun vs=>by simp only [rgAct,rgPut,List.setIfInBounds_toArray,List.set_cons_zero,List.set_cons_succ]; exact rfl)
       ⟨fun _ _ _ hb h=>bl_then h hb,rgV_st,rgV_st,rgI_st,rgV_st,rgV_st,rgV_st,rgV_st,rgV_st,rgV_st,rgV_st,rgV_st,rgV_st,rgI_st,trivial⟩ ?_ ?_ ?_
      ·refine rgAll_yes rfl HB0.out ?_
       iterate 13 refine rgAll_no rfl ?_
       exact trivial
      ·refine ⟨?_,?_,?_,?_,?_,?_,?_,?_,?_,?_,?_,?_,?_,trivial⟩
       ·intro vs w12 hA K hK
        obtain ⟨_,_⟩:=hA
        refine rg_move rfl (.inl rfl) rfl (hK _ _ (.inl (Below.refl _ _)) ?_)
        exact rgNew_one 1 rfl fun _=>rfl
       ·intro vs w12 hA K hK
        obtain ⟨_,_⟩:=hA
        refine rg_move rfl (.inl rfl) rfl (hK _ _ (.inl (Below.refl _ _)) ?_)
        exact rgNew_one 2 rfl fun _=>rfl
       ·intro vs w12 hA K hK
        obtain ⟨_,e1,_⟩:=hA
        refine rg_ints1 rfl rfl (rg1 e1) (hK _ _ (.inl (bl_alloc (Below.refl _ _) _)) ?_)
        iterate 3 refine rgNew_no rfl ?_
        refine rgNew_yes rfl (fun _=>one_ints _ _) ?_
        iterate 10 refine rgNew_no rfl ?_
        exact trivial
       ·intro vs w12 hA K hK
        obtain ⟨_,_,i2,_⟩:=hA
        refine rg_fn rfl rfl rfl (by kernel_rfl) rfl (Calls.mono (HK15.out (by trivial) _ _ i2) ?_)
        rintro e w2 ⟨rfl,hb⟩
        refine ⟨_,rfl,hK _ _ (.inl hb) ?_⟩
        exact rgNew_one 4 rfl fun _=>rfl
       ·intro vs w12 hA K hK
        obtain ⟨_,_⟩:=hA
        refine rg_ex0 rfl rfl rfl (hK _ _ (.inl (Below.refl _ _)) ?_)
        exact rgNew_one 5 rfl fun _=>rfl
       ·intro vs w12 hA K hK
        obtain ⟨hC,e4,_⟩:=hA
        refine rg_loadN rfl rfl (rg1 e4) (rowE (x:=⟨xs,xo,xt,xb,W,M⟩) ((HB11.out.below hC).row (g:=w.heap.size) (o:=.cells #[.int .i64 xs,.int .i64 xo,.int .i64 xt,.int .i64 xb,.int .u64 W.1,.int .u64 W.2.1,.int .u64 W.2.2.1,.int .u64 W.2.2.2,.int .u64 M.1,.int .u64 M.2.1,.int .u64 M.2.2.1,.int .u64 M.2.2.2] 26) (by simp))).1.1 (hK _ _ (.inl (Below.refl _ _)) ?_)
        exact rgNew_one 6 rfl fun _=>rfl
       ·intro vs w12 hA K hK
        obtain ⟨_,_⟩:=hA
        refine rg_ex1 rfl rfl rfl (hK _ _ (.inl (Below.refl _ _)) ?_)
        exact rgNew_one 7 rfl fun _=>rfl
       ·intro vs w12 hA K hK
        obtain ⟨hC,e6,_⟩:=hA
        refine rg_loadN rfl rfl (rg1 e6) (rowE (x:=⟨xs,xo,xt,xb,W,M⟩) ((HB11.out.below hC).row (g:=w.heap.size) (o:=.cells #[.int .i64 xs,.int .i64 xo,.int .i64 xt,.int .i64 xb,.int .u64 W.1,.int .u64 W.2.1,.int .u64 W.2.2.1,.int .u64 W.2.2.2,.int .u64 M.1,.int .u64 M.2.1,.int .u64 M.2.2.1,.int .u64 M.2.2.2] 26) (by simp))).1.2.1 (hK _ _ (.inl (Below.refl _ _)) ?_)
        exact rgNew_one 8 rfl fun _=>rfl
       ·intro vs w12 hA K hK
        obtain ⟨_,_⟩:=hA
        refine rg_ex2 rfl rfl rfl (hK _ _ (.inl (Below.refl _ _)) ?_)
        exact rgNew_one 9 rfl fun _=>rfl
       ·intro vs w12 hA K hK
        obtain ⟨hC,e8,_⟩:=hA
        refine rg_loadN rfl rfl (rg1 e8) (rowE (x:=⟨xs,xo,xt,xb,W,M⟩) ((HB11.out.below hC).row (g:=w.heap.size) (o:=.cells #[.int .i64 xs,.int .i64 xo,.int .i64 xt,.int .i64 xb,.int .u64 W.1,.int .u64 W.2.1,.int .u64 W.2.2.1,.int .u64 W.2.2.2,.int .u64 M.1,.int .u64 M.2.1,.int .u64 M.2.2.1,.int .u64 M.2.2.2] 26) (by simp))).1.2.2.1 (hK _ _ (.inl (Below.refl _ _)) ?_)
        exact rgNew_one 10 rfl fun _=>rfl
       ·intro vs w12 hA K hK
        obtain ⟨_,_⟩:=hA
        refine rg_ex3 rfl rfl rfl (hK _ _ (.inl (Below.refl _ _)) ?_)
        exact rgNew_one 11 rfl fun _=>rfl
       ·intro vs w12 hA K hK
        obtain ⟨hC,e10,_⟩:=hA
        refine rg_loadN rfl rfl (rg1 e10) (rowE (x:=⟨xs,xo,xt,xb,W,M⟩) ((HB11.out.below hC).row (g:=w.heap.size) (o:=.cells #[.int .i64 xs,.int .i64 xo,.int .i64 xt,.int .i64 xb,.int .u64 W.1,.int .u64 W.2.1,.int .u64 W.2.2.1,.int .u64 W.2.2.2,.int .u64 M.1,.int .u64 M.2.1,.int .u64 M.2.2.1,.int .u64 M.2.2.2] 26) (by simp))).1.2.2.2 (hK _ _ (.inl (Below.refl _ _)) ?_)
        exact rgNew_one 12 rfl fun _=>rfl
       ·intro vs w12 hA K hK
        obtain ⟨_,_,e5,_,e7,_,e9,_,e11,_⟩:=hA
        refine rg_ints4 rfl rfl (rg1 e5) (rg1 e7) (rg1 e9) (rg1 e11) (hK _ _ (.inl (bl_alloc (Below.refl _ _) _)) ?_)
        iterate 13 refine rgNew_no rfl ?_
        refine rgNew_yes rfl (fun _=>four_ints _ _ _ _ _) ?_
        exact trivial
      ·intro vs w12 hA
       obtain ⟨hC,e0,e1,i2,e3,e4,e5,e6,e7,e8,e9,e10,e11,i12,_⟩:=hA
       have e0:=rg1 e0
       have e1:=rg1 e1
       have e3:=rg1 e3
       have e4:=rg1 e4
       have e5:=rg1 e5
       have e6:=rg1 e6
       have e7:=rg1 e7
       have e8:=rg1 e8
       have e9:=rg1 e9
       have e10:=rg1 e10
       have e11:=rg1 e11
       refine rgTail_cons ?_
       refine rg_fn rfl rfl rfl (by kernel_rfl) (show [vs 0,vs 3,vs 12]=_ from by rw [e0,e3]) (Calls.mono (HSR.out (by trivial) _ _ (vs 12) i12 (HB11.out.below hC)) ?_)
       rintro e w13 ⟨rfl,hB13⟩
       refine ⟨_,rfl,?_⟩
       refine rgTail_nil ?_
       simp only [rgSet,Nat.reduceEqDiff,↓reduceIte,e0,e1,e3,e4,e5,e6,e7,e8,e9,e10,e11]
       have HB13:=Lib.hid hB13
       have HB0:=Lib.hid (bl_drew (Below.refl w13.heap.size w13))
       clear e0 e1 e3 e4 e5 e6 e7 e8 e9 e10 e11 i2 i12 hC HK15 HSR HB11 hB13
       go_upto_region 16 with fail
       refine wp_region_rely_tail 6 [[],[],[1],[1,2],[],[4],[0,1,2,3,4,5]]
        [rgC (Below w13.heap.size w13),rgV 0 (.pointer h.ptr),rgV 1 (.int .i64 id),rgI 2 ([id]),rgV 3 (.string (keyL 17 [id])),rgV 4 (.pointer (some ⟨w.heap.size,4,none⟩)),rgV 5 (uV W)] _ (by kernel_rfl) (by kernel_rfl) (by decide) (by kernel_rfl) (by kernel_rfl)
        (fun vs=>by simp only [rgAct,rgPut,List.setIfInBounds_toArray,List.set_cons_zero,List.set_cons_succ]; exact rfl)
        ⟨fun _ _ _ hb h=>bl_then h hb,rgV_st,rgV_st,rgI_st,rgV_st,rgV_st,rgV_st,trivial⟩ ?_ ?_ ?_
       ·refine rgAll_yes rfl HB0.out ?_
        iterate 6 refine rgAll_no rfl ?_
        exact trivial
       ·refine ⟨?_,?_,?_,?_,?_,?_,trivial⟩
        ·intro vs w14 hA K hK
         obtain ⟨_,_⟩:=hA
         refine rg_move rfl (.inl rfl) rfl (hK _ _ (.inl (Below.refl _ _)) ?_)
         exact rgNew_one 1 rfl fun _=>rfl
        ·intro vs w14 hA K hK
         obtain ⟨_,_⟩:=hA
         refine rg_move rfl (.inl rfl) rfl (hK _ _ (.inl (Below.refl _ _)) ?_)
         exact rgNew_one 2 rfl fun _=>rfl
        ·intro vs w14 hA K hK
         obtain ⟨_,e1,_⟩:=hA
         refine rg_ints1 rfl rfl (rg1 e1) (hK _ _ (.inl (bl_alloc (Below.refl _ _) _)) ?_)
         iterate 3 refine rgNew_no rfl ?_
         refine rgNew_yes rfl (fun _=>one_ints _ _) ?_
         iterate 3 refine rgNew_no rfl ?_
         exact trivial
        ·intro vs w14 hA K hK
         obtain ⟨_,_,i2,_⟩:=hA
         refine rg_fn rfl rfl rfl (by kernel_rfl) rfl (Calls.mono (HK17.out (by trivial) _ _ i2) ?_)
         rintro e w2 ⟨rfl,hb⟩
         refine ⟨_,rfl,hK _ _ (.inl hb) ?_⟩
         exact rgNew_one 4 rfl fun _=>rfl
        ·intro vs w14 hA K hK
         obtain ⟨_,_⟩:=hA
         refine rg_ex4 rfl rfl rfl (hK _ _ (.inl (Below.refl _ _)) ?_)
         exact rgNew_one 5 rfl fun _=>rfl
        ·intro vs w14 hA K hK
         obtain ⟨hC,e4,_⟩:=hA
         refine rg_load4 rfl rfl (rg1 e4) (rowE (x:=⟨xs,xo,xt,xb,W,M⟩) ((HB13.out.below hC).row (g:=w.heap.size) (o:=.cells #[.int .i64 xs,.int .i64 xo,.int .i64 xt,.int .i64 xb,.int .u64 W.1,.int .u64 W.2.1,.int .u64 W.2.2.1,.int .u64 W.2.2.2,.int .u64 M.1,.int .u64 M.2.1,.int .u64 M.2.2.1,.int .u64 M.2.2.2] 26) (by simp))).2.1 (hK _ _ (.inl (Below.refl _ _)) ?_)
         exact rgNew_one 6 rfl fun _=>rfl
       ·intro vs w14 hA
        obtain ⟨hC,e0,e1,i2,e3,e4,e5,_⟩:=hA
        have e0:=rg1 e0
        have e1:=rg1 e1
        have e3:=rg1 e3
        have e4:=rg1 e4
        have e5:=rg1 e5
        refine rgTail_cons ?_
        refine rg_fn rfl rfl rfl (by kernel_rfl) (show [vs 0,vs 3,vs 5]=_ from by rw [e0,e3,e5]) (Calls.mono (HS5.out _ _ (HB13.out.below hC)) ?_)
        rintro e w15 ⟨rfl,hB15⟩
        refine ⟨_,rfl,?_⟩
        refine rgTail_nil ?_
        simp only [rgSet,Nat.reduceEqDiff,↓reduceIte,e0,e1,e3,e4,e5]
        have HB15:=Lib.hid hB15
        have HB0:=Lib.hid (bl_drew (Below.refl w15.heap.size w15))
        clear e0 e1 e3 e4 e5 i2 hC HK17 HS5 HB13 hB15
        go_upto_region 17 with fail
        refine wp_region_rely_tail 6 [[],[],[1],[1,2],[],[4],[0,1,2,3,4,5]]
         [rgC (Below w15.heap.size w15),rgV 0 (.pointer h.ptr),rgV 1 (.int .i64 id),rgI 2 ([id]),rgV 3 (.string (keyL 18 [id])),rgV 4 (.pointer (some ⟨w.heap.size,8,none⟩)),rgV 5 (uV M)] _ (by kernel_rfl) (by kernel_rfl) (by decide) (by kernel_rfl) (by kernel_rfl)
         (fun vs=>by simp only [rgAct,rgPut,List.setIfInBounds_toArray,List.set_cons_zero,List.set_cons_succ]; exact rfl)
         ⟨fun _ _ _ hb h=>bl_then h hb,rgV_st,rgV_st,rgI_st,rgV_st,rgV_st,rgV_st,trivial⟩ ?_ ?_ ?_
        ·refine rgAll_yes rfl HB0.out ?_
         iterate 6 refine rgAll_no rfl ?_
         exact trivial
        ·refine ⟨?_,?_,?_,?_,?_,?_,trivial⟩
         ·intro vs w16 hA K hK
          obtain ⟨_,_⟩:=hA
          refine rg_move rfl (.inl rfl) rfl (hK _ _ (.inl (Below.refl _ _)) ?_)
          exact rgNew_one 1 rfl fun _=>rfl
         ·intro vs w16 hA K hK
          obtain ⟨_,_⟩:=hA
          refine rg_move rfl (.inl rfl) rfl (hK _ _ (.inl (Below.refl _ _)) ?_)
          exact rgNew_one 2 rfl fun _=>rfl
         ·intro vs w16 hA K hK
          obtain ⟨_,e1,_⟩:=hA
          refine rg_ints1 rfl rfl (rg1 e1) (hK _ _ (.inl (bl_alloc (Below.refl _ _) _)) ?_)
          iterate 3 refine rgNew_no rfl ?_
          refine rgNew_yes rfl (fun _=>one_ints _ _) ?_
          iterate 3 refine rgNew_no rfl ?_
          exact trivial
         ·intro vs w16 hA K hK
          obtain ⟨_,_,i2,_⟩:=hA
          refine rg_fn rfl rfl rfl (by kernel_rfl) rfl (Calls.mono (HK18.out (by trivial) _ _ i2) ?_)
          rintro e w2 ⟨rfl,hb⟩
          refine ⟨_,rfl,hK _ _ (.inl hb) ?_⟩
          exact rgNew_one 4 rfl fun _=>rfl
         ·intro vs w16 hA K hK
          obtain ⟨_,_⟩:=hA
          refine rg_ex5 rfl rfl rfl (hK _ _ (.inl (Below.refl _ _)) ?_)
          exact rgNew_one 5 rfl fun _=>rfl
         ·intro vs w16 hA K hK
          obtain ⟨hC,e4,_⟩:=hA
          refine rg_load4 rfl rfl (rg1 e4) (rowE (x:=⟨xs,xo,xt,xb,W,M⟩) ((HB15.out.below hC).row (g:=w.heap.size) (o:=.cells #[.int .i64 xs,.int .i64 xo,.int .i64 xt,.int .i64 xb,.int .u64 W.1,.int .u64 W.2.1,.int .u64 W.2.2.1,.int .u64 W.2.2.2,.int .u64 M.1,.int .u64 M.2.1,.int .u64 M.2.2.1,.int .u64 M.2.2.2] 26) (by simp))).2.2 (hK _ _ (.inl (Below.refl _ _)) ?_)
          exact rgNew_one 6 rfl fun _=>rfl
        ·intro vs w16 hA
         obtain ⟨hC,e0,e1,i2,e3,e4,e5,_⟩:=hA
         have e0:=rg1 e0
         have e1:=rg1 e1
         have e3:=rg1 e3
         have e4:=rg1 e4
         have e5:=rg1 e5
         refine rgTail_cons ?_
         refine rg_fn rfl rfl rfl (by kernel_rfl) (show [vs 0,vs 3,vs 5]=_ from by rw [e0,e3,e5]) (Calls.mono (HS6.out _ _ (HB15.out.below hC)) ?_)
         rintro e w17 ⟨rfl,hB17⟩
         refine ⟨_,rfl,?_⟩
         refine rgTail_nil ?_
         simp only [rgSet,Nat.reduceEqDiff,↓reduceIte,e0,e1,e3,e4,e5]
         obtain ⟨⟨k0,k1,k2,k3⟩,⟨p0,p1,p2,p3⟩,⟨q0,q1,q2,q3⟩⟩:=rowE (x:=⟨xs,xo,xt,xb,W,M⟩) (hB17.row (g:=w.heap.size) (o:=(.cells #[.int .i64 xs,.int .i64 xo,.int .i64 xt,.int .i64 xb,.int .u64 W.1,.int .u64 W.2.1,.int .u64 W.2.2.1,.int .u64 W.2.2.2,.int .u64 M.1,.int .u64 M.2.1,.int .u64 M.2.2.1,.int .u64 M.2.2.2] 26)) (by simp))
         have HK:=Lib.hid (HK20.out _ _ _ hB17)
         clear e0 e1 e3 e4 e5 i2 hC HK18 HS6 HB15 hB17 HK20
         go_wp2_with fail
         refine Calls.mono HK.out ?_
         rintro e w18 ⟨rfl,hB18⟩
         have HN18:=Lib.hid (HNY.out (by trivial) _ _ hB18)
         clear k0 k1 k2 k3 p0 p1 p2 p3 q0 q1 q2 q3 hB18 HK HNY
         go_wp2_with fail
         refine Calls.mono HN18.out ?_
         rintro e w19 ⟨rfl,hB19⟩
         obtain ⟨c1,f1⟩:=row1 (hB19.row (g:=w.heap.size+1) (o:=eO 0) (by simp))
         have HZ:=Lib.hid (hB19.put1 (g:=w.heap.size+1) (e:=0) 0 (by simp) [] (fun _ hx=>by cases hx))
         have HUU:=Lib.hid (HU3.out (by trivial) _ _ HZ.out (by simp))
         clear hB19 HN18 HZ HU3
         go_wp2_with fail
         refine leaves_cons (f:=103) (args:=#[.pointer h.ptr,.int .i64 mk,.pointer (some ⟨w.heap.size+1,0,none⟩)]) (by simp) (by simp [go_sem]) ?_
         refine CallsD.mono HUU.out ?_
         rintro e u' w20 ⟨rfl,rfl,hQ⟩
         exact ⟨_,results_tmp_err rfl _ _ (w.heap.size+1) _ rfl (hQ.row (by simp)),rfl,QV.done hQ⟩
end Go.Proofs.YtnkilceibkkjlaaGreat
