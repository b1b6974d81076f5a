/- What is proved here: alloc.Modify, of more that waits. Its conditions: sizes. alloc's good and blocks of anything; '==' of ids; Mark and Undo over a store behind a handle. Conditions: a list's length, sizes. -/
import Derived.Test.YtnkilceibkkjlaaGreatIAllocG
import Derived.Test.YtnkilceibkkjlaaGreatIAlH
set_option maxRecDepth 100000
set_option maxHeartbeats 16000000
namespace Go.Proofs.YtnkilceibkkjlaaGreat
open Go.RowKit
theorem mark_any (w:World) (b:Nat) (s:St) (L:List Nat) (h:SRep w b s L):Calls Tryz.prog 73 #[.pointer (some ⟨b,0,none⟩)] w fun e w'=>e = .returned (.int .i64 s.past.length)∧w=w':=by
 have HI:=Lib.hid (is_at w b true h.cell0)
 obtain ⟨mb,es,clk,bv,pv,bs,h,rfl⟩:=h
 obtain ⟨a,c,rfl,_⟩:=h.ps.form
 obtain ⟨_,_,_,c3,_⟩:=head_cell h.hd
 clear h
 generalize s.past.length=n at *
 go_enter Tryz.func73,Tryz.ntmps73
 go_wp2_with (go_at_call 142; refine HI.out.mono ?_; rintro e w' ⟨rfl,rfl⟩)
 go_ret
 exact ⟨rfl,rfl⟩
theorem good_yes (x:I4) (h1:1≤x.1) (h2:1≤x.2.1) (h3:0≤x.2.2.1) (h4:0≤x.2.2.2) (w:World) (hE:∀ w,(Op.equalIn 10000 34 (idV x) (idV (0,0,0,0))).run Tryz.prog w = .ok false w):Calls Tryz.prog 67 #[idV x] w fun e w'=>e = .returned (.bool true)∧Below w.heap.size w w':=by
 have hb:=bl_alloc (Below.refl _ w) (.cells (idL x) 34)
 obtain ⟨q0,q1,q2,q3⟩:=idc_row (heap_alloc_new w (.cells (idL x) 34))
 have d1:decide ((1:Int)≤x.1)=true:=decide_eq_true h1
 have d2:decide ((1:Int)≤x.2.1)=true:=decide_eq_true h2
 have d3:decide ((0:Int)≤x.2.2.1)=true:=decide_eq_true h3
 have d4:decide ((0:Int)≤x.2.2.2)=true:=decide_eq_true h4
 have hE':∀ w,(Op.equalIn 10000 34 (.agg #[.int .i64 x.1,.int .i64 x.2.1,.int .i64 x.2.2.1,.int .i64 x.2.2.2]) (.agg #[.int .i64 0,.int .i64 0,.int .i64 0,.int .i64 0])).run Tryz.prog w = .ok false w:=hE
 clear hE
 go_enter Tryz.func67,Tryz.ntmps67
 go_wp2_with fail
 go_ret
 exact ⟨rfl,hb⟩
theorem ablocks_yes (w:World) (g c:Nat) (l:List Int) (hl:l.length < 1000000) (h:LieAt w g l) (hp:∀ n∈l,0≤n∧n≤1099511627776):Calls Tryz.prog 68 #[.slice (some ⟨g,0,none⟩) l.length c] w fun e w'=>e = .returned (.bool true)∧w=w':=by
 have HC:Hid (∀ k,k < l.length→∃ n:Int,(0≤n∧n≤1099511627776)∧w.cell? ⟨g,k,none⟩=some (.int .i64 n)):=fun k hk=>⟨l[k],hp _ (List.getElem_mem hk),h k _ (List.getElem?_eq_getElem hk)⟩
 have hl2:(l.length:Int) < 9223372036854775807:=by omega
 clear h hp
 generalize l.length=m at *
 go_enter Tryz.func68,Tryz.ntmps68
 go_wp2_with fail
 go_loopw [7] (fun iv wr=>∃ k:Nat,iv = .int .i64 k∧k≤m∧w=wr) (fun iv _=>m - (intOf iv).toNat)
 case atStart=>exact ⟨0,rfl,by omega,rfl⟩
 case round =>
  obtain ⟨k,rfl,hk,rfl⟩:=hrel
  by_cases hlt:k < m
  ·obtain ⟨n,hn,hc⟩:=HC.out k hlt
   have hd:decide (n < 0)=false:=decide_eq_false (by omega)
   have hd2:decide ((1099511627776:Int) < n)=false:=decide_eq_false (by omega)
   go_wp2_with fail
   go_roundw
   case rel=>exact ⟨k+1,by go_num,by omega,by first | rfl | trivial⟩
   case measure=>simp [intOf]; omega
  ·obtain rfl:k=m:=by omega
   go_wp2_with fail
   go_ret
   exact ⟨rfl,rfl⟩
structure AMAt (w:World) (b:Nat) (L:List Nat) (s:St) (x:I4) (tt mx:W4) (bk dl tl:Int) (sl:Bool) (W:World):Prop where
 hb:Below w.heap.size w W
 hs:SRep W b s L
 hA:W.heap[w.heap.size]? = some (.cells (idL x) 34 (0,0))
 hB:W.heap[w.heap.size+1]? = some (.cells (chL tt mx bk dl tl sl) 36 (0,0))
theorem AMAt.below {w:World} {b:Nat} {L:List Nat} {s:St} {x:I4} {tt mx:W4} {bk dl tl:Int} {sl:Bool} {W W':World} (h:AMAt w b L s x tt mx bk dl tl sl W) (hb:Below W.heap.size W W'):AMAt w b L s x tt mx bk dl tl sl W' :=
 ⟨bl_then h.hb hb,h.hs.below hb,(hb.block _ (Array.getElem?_eq_some_iff.1 h.hA).1).trans h.hA,(hb.block _ (Array.getElem?_eq_some_iff.1 h.hB).1).trans h.hB⟩
theorem AMAt.alloc {w:World} {b:Nat} {L:List Nat} {s:St} {x:I4} {tt mx:W4} {bk dl tl:Int} {sl:Bool} {W:World} (h:AMAt w b L s x tt mx bk dl tl sl W) (o:Obj):AMAt w b L s x tt mx bk dl tl sl (W.alloc o):=h.below (bl_alloc (Below.refl _ W) o)
theorem AMAt.start {w:World} {b:Nat} {L:List Nat} {s:St} (h:SRep w b s L) (x:I4) (tt mx:W4) (bk dl tl:Int) (sl:Bool):AMAt w b L s x tt mx bk dl tl sl ((w.alloc (.cells (idL x) 34)).alloc (.cells (chL tt mx bk dl tl sl) 36)):=by
 have hb:=bl_alloc (bl_alloc (Below.refl _ w) (.cells (idL x) 34)) (.cells (chL tt mx bk dl tl sl) 36)
 refine ⟨hb,h.below hb,?_,?_⟩
 ·rw [heap_alloc_old _ _ (by simp)]; exact heap_alloc_new w (.cells (idL x) 34)
 ·have:=heap_alloc_new (w.alloc (.cells (idL x) 34)) (.cells (chL tt mx bk dl tl sl) 36)
  rw [World.size_alloc] at this; exact this
abbrev ChC (g:Nat) (tt mx:W4) (bk dl tl:Int) (sl:Bool) (w':World):Prop:=(w'.cell? ⟨g,0,none⟩=some (.int .u64 tt.1)∧w'.cell? ⟨g,1,none⟩=some (.int .u64 tt.2.1)∧w'.cell? ⟨g,2,none⟩=some (.int .u64 tt.2.2.1)∧w'.cell? ⟨g,3,none⟩=some (.int .u64 tt.2.2.2))∧Cel4' g mx w'∧w'.cell? ⟨g,8,none⟩=some (.int .i64 bk)∧w'.cell? ⟨g,9,none⟩=some (.int .i64 dl)∧w'.cell? ⟨g,10,none⟩=some (.int .i64 tl)∧w'.cell? ⟨g,11,none⟩=some (.bool sl)
theorem AMAt.out {w:World} {b:Nat} {L:List Nat} {s:St} {x:I4} {tt mx:W4} {bk dl tl:Int} {sl:Bool} {W:World} (h:AMAt w b L s x tt mx bk dl tl sl W):IdC w.heap.size x W∧ChC (w.heap.size+1) tt mx bk dl tl sl W :=
 ⟨idc_row h.hA,⟨by rw [cell_of_row _ _ _ _ _ _ h.hB]; rfl,by rw [cell_of_row _ _ _ _ _ _ h.hB]; rfl,by rw [cell_of_row _ _ _ _ _ _ h.hB]; rfl,by rw [cell_of_row _ _ _ _ _ _ h.hB]; rfl⟩,⟨by rw [cell_of_row _ _ _ _ _ _ h.hB]; rfl,by rw [cell_of_row _ _ _ _ _ _ h.hB]; rfl,by rw [cell_of_row _ _ _ _ _ _ h.hB]; rfl,by rw [cell_of_row _ _ _ _ _ _ h.hB]; rfl⟩,by rw [cell_of_row _ _ _ _ _ _ h.hB]; rfl,by rw [cell_of_row _ _ _ _ _ _ h.hB]; rfl,by rw [cell_of_row _ _ _ _ _ _ h.hB]; rfl,by rw [cell_of_row _ _ _ _ _ _ h.hB]; rfl⟩
theorem reg16 {w:World} {df:W4} {g:Nat} {t0 t1 t2 t3 t4 t5 t6 t7 t8 t9 t10 t11 t12 t14 t15 t16 t17 t18 t19 t20 t21 t22 t23 t24 t25 t26 t27 t28 t29 t30 t31 t32 t33 t34 t35 t36 t37 t38 t39 t40 t41 t42 t43 t44 t45 t46 t47 t48 t49 t50 t51 t52 t53 t54 t55 t56 t57 t58 t59 t60 t61 t62 t63 t64 t65 t66 t67 t68 t69 t70 t71 t72 t73 t74 t75 t76 t77 t78 t79 t80 t81 t82 t83 t84 t85 t86 t87 t88 t89 t90 t91 t92 t93 t94 t95:Value} {K:Act→World→Prop} {Q:Exit→Act→World→Prop} (hc:Cel4 g df w) (hne:df≠(0,0,0,0))
  (hK : K { tmps := #[t0, t1, t2, t3, t4, t5, t6, t7, t8, t9, t10, t11, t12, .pointer (some ⟨g, 0, none⟩), t14, t15, t16, t17, t18, t19, t20, t21, t22, t23, t24, t25, t26, t27, t28, t29, t30, t31, t32, t33, t34, t35, t36, t37, t38, t39, t40, t41, t42, t43, t44, t45, t46, t47, t48, t49, t50, t51, t52, t53, t54, t55, t56, t57, t58, t59, t60, t61, t62, t63, t64, t65, t66, t67, t68, t69, t70, t71, t72, t73, t74, .bool false, .agg #[.int .u64 df.1, .int .u64 df.2.1, .int .u64 df.2.2.1, .int .u64 df.2.2.2], .agg #[.int .u64 0, .int .u64 0, .int .u64 0, .int .u64 0], .bool false, t79, t80, t81, t82, t83, t84, t85, t86, t87, t88, t89, t90, t91, t92, t93, t94, t95], defers := [] } w) : Code.wp Tryz.prog (Code.region 16 #[{ dst := some 76, op := Op.load 24 (Operand.tmp 13), type := 24, pos := "alloc.go:123", after := #[], guard := none }, { dst := some 77, op := Op.build 24 #[], type := 24, pos := "alloc.go:123", after := #[], guard := none }, { dst := some 78, op := Op.binOp BinOp.eql 24 (Operand.tmp 76) (Operand.tmp 77) 24, type := 4, pos := "alloc.go:123", after := #[{ on := 0, ground := Ground.data }, { on := 1, ground := Ground.data }], guard := none }, { dst := some 75, op := Op.assign (Operand.tmp 78), type := 4, pos := "alloc.go:123", after := #[{ on := 2, ground := Ground.data }], guard := none }] false) (Exit.then K Q) { tmps := #[t0, t1, t2, t3, t4, t5, t6, t7, t8, t9, t10, t11, t12, .pointer (some ⟨g, 0, none⟩), t14, t15, t16, t17, t18, t19, t20, t21, t22, t23, t24, t25, t26, t27, t28, t29, t30, t31, t32, t33, t34, t35, t36, t37, t38, t39, t40, t41, t42, t43, t44, t45, t46, t47, t48, t49, t50, t51, t52, t53, t54, t55, t56, t57, t58, t59, t60, t61, t62, t63, t64, t65, t66, t67, t68, t69, t70, t71, t72, t73, t74, t75, t76, t77, t78, t79, t80, t81, t82, t83, t84, t85, t86, t87, t88, t89, t90, t91, t92, t93, t94, t95], defers := [] } w := by
 obtain ⟨c0,c1,c2,c3⟩:=hc
 have hEU:∀ w,(Op.equalIn 10000 24 (.agg #[.int .u64 df.1,.int .u64 df.2.1,.int .u64 df.2.2.1,.int .u64 df.2.2.2]) (.agg #[.int .u64 0,.int .u64 0,.int .u64 0,.int .u64 0])).run Tryz.prog w = .ok false w:=fun w=>by
  have:=eqU df (0,0,0,0) w
  rw [decide_eq_false hne] at this
  exact this
 have HK:=Lib.hid hK
 clear hK
 go_wp2_with fail
 exact HK.out
theorem modify_new (w:World) (b:Nat) (s:St) (L:List Nat) (f:Nat) (bk dl tl:Nat) (x:I4) (tt mx:W4) (sl:Bool) (hx:∀ n∈x.l,0≤n∧n < 9223372036854775808) (h1:1≤x.1) (h2:1≤x.2.1) (hto:tt.Ok) (hmx:mx.Ok) (h:SRep w b s L) (hf:s.Fit f) (hm:f < 100000000) (hd:dl≠0) (hbl:bk+dl≤1099511627776) (htl:tl≤1099511627776)
  (hE:∀ w,(Op.equalIn 10000 34 (idV x) (idV (0,0,0,0))).run Tryz.prog w = .ok false w) (hg:uCmp tt oneW≤0) (hp0:(pend s x).1=0) (hs0:uSubC tt (cur s x)=0) (hne:uSubS tt (cur s x)≠(0,0,0,0))
  (hc0:uAddC (enc s x) (uSubS tt (cur s x))=0) (hcmp:uCmp (uAddS (enc s x) (uSubS tt (cur s x))) mx≤0)
  (hU:underE (keyL 26 [((bk+dl:Nat):Int)]) (((s.setAmt (aAll x) (uAddS (enc s x) (uSubS tt (cur s x)))).put (aKey 30 x) (rowB [((1:Nat):Int),((bk+dl:Nat):Int)])).setAmt (aKey 31 x) (uSubS tt (cur s x))).ents = [])
  (h27:(((((s.setAmt (aAll x) (uAddS (enc s x) (uSubS tt (cur s x)))).put (aKey 30 x) (rowB [((1:Nat):Int),((bk+dl:Nat):Int)])).setAmt (aKey 31 x) (uSubS tt (cur s x)))).put (keyL 26 [((bk+dl:Nat):Int),0]) (rowB x.l)).int K27=0) :
  Calls Tryz.prog 19 #[.pointer (some ⟨b,0,none⟩),idV x,chV tt mx bk dl tl sl] w (RetSt w b L (.tuple #[.int .i64 ((bk+dl:Nat):Int),.int .i64 0]) (growS s x (uAddS (enc s x) (uSubS tt (cur s x))) (uSubS tt (cur s x)) (bk+dl))):=by
 have hxo:x.Ok:=fun n hn=>(hx n hn).2
 have hx0:=hx x.2.2.1 (by simp)
 have hx3:=hx x.2.2.2 (by simp)
 have hM0:=AMAt.start h x tt mx bk dl tl sl
 have HFM:Hid (∀ W,AMAt w b L s x tt mx bk dl tl sl W→IdC w.heap.size x W∧ChC (w.heap.size+1) tt mx bk dl tl sl W):=fun W hM=>hM.out
 have HMADE:Hid (∀ W,AMAt w b L s x tt mx bk dl tl sl W→Calls Tryz.prog 66 #[.pointer (some ⟨b,0,none⟩)] W fun e W'=>e = .returned (.bool true)∧W=W'):=fun W hM=>made_at W b true hM.hs.cell0
 have HGOOD:Hid (∀ W,AMAt w b L s x tt mx bk dl tl sl W→Calls Tryz.prog 67 #[idV x] W fun e W'=>e = .returned (.bool true)∧AMAt w b L s x tt mx bk dl tl sl W'):=fun W hM=>(good_yes x h1 h2 hx0.1 hx3.1 W hE).mono fun e W' ⟨he,hb⟩=>⟨he,hM.below hb⟩
 have HBL:Hid (∀ W:World,Calls Tryz.prog 68 #[.slice (some ⟨W.heap.size,0,none⟩) 3 3] (W.alloc (.cells #[.int .i64 bk,.int .i64 dl,.int .i64 tl] 3)) fun e W'=>e = .returned (.bool true)∧W.alloc (.cells #[.int .i64 bk,.int .i64 dl,.int .i64 tl] 3)=W'):=fun W=>ablocks_yes _ W.heap.size 3 [(bk:Int),dl,tl] (by simp) (fun j z hj=>by
  rw [cell_of_row _ _ _ _ _ _ (heap_alloc_new W (.cells #[.int .i64 bk,.int .i64 dl,.int .i64 tl] 3))]
  match j,hj with
  | 0,hj=>cases hj; rfl
  | 1,hj=>cases hj; rfl
  | 2,hj=>cases hj; rfl) (fun n hn=>by
  simp only [List.mem_cons,List.not_mem_nil,or_false] at hn
  rcases hn with rfl | rfl | rfl <;> omega)
 have HWG:Hid (∀ W,AMAt w b L s x tt mx bk dl tl sl W→Calls Tryz.prog 69 #[uV tt] W fun e W'=>e = .returned (.bool true)∧AMAt w b L s x tt mx bk dl tl sl W'):=fun W hM=>(wgood_any tt hto W).mono fun e W' ⟨he,hb⟩=>⟨by rw [he,decide_eq_true hg],hM.below hb⟩
 have HPE:Hid (∀ W,AMAt w b L s x tt mx bk dl tl sl W→Calls Tryz.prog 20 #[.pointer (some ⟨b,0,none⟩),idV x] W fun e W'=>e = .returned (.tuple #[.int .i64 0,uV (pend s x).2.1,.int .i64 (pend s x).2.2])∧AMAt w b L s x tt mx bk dl tl sl W'):=fun W hM=>(pending_any W _ s x hxo (ReadAt.made hM.hs hf (by omega))).mono fun e W' ⟨he,hb⟩=>⟨by rw [he,hp0]; rfl,hM.below hb⟩
 have HCU:Hid (∀ W,AMAt w b L s x tt mx bk dl tl sl W→Calls Tryz.prog 18 #[.pointer (some ⟨b,0,none⟩),idV x] W fun e W'=>e = .returned (uV (cur s x))∧AMAt w b L s x tt mx bk dl tl sl W'):=fun W hM=>(current_any W _ s x hxo (ReadAt.made hM.hs hf (by omega))).mono fun e W' ⟨he,hb⟩=>⟨he,hM.below hb⟩
 have HSU:Hid (∀ W,AMAt w b L s x tt mx bk dl tl sl W→Calls Tryz.prog 71 #[uV tt,uV (cur s x)] W fun e W'=>e = .returned (.tuple #[uV (uSubS tt (cur s x)),.bool true])∧AMAt w b L s x tt mx bk dl tl sl W'):=fun W hM=>by
  have:=usub_any tt (cur s x) hto (toAmt_ok _) W
  rw [if_pos hs0,hs0] at this
  exact this.mono fun e W' ⟨he,hb⟩=>⟨he,hM.below hb⟩
 have HMK:Hid (∀ W,AMAt w b L s x tt mx bk dl tl sl W→Calls Tryz.prog 73 #[.pointer (some ⟨b,0,none⟩)] W fun e W'=>e = .returned (.int .i64 s.past.length)∧W=W'):=fun W hM=>mark_any W b s L hM.hs
 have HGR:Hid (∀ W,AMAt w b L s x tt mx bk dl tl sl W→Calls Tryz.prog 70 #[idV x,.pointer (some ⟨b,0,none⟩),chV tt mx bk dl tl sl,uV (uSubS tt (cur s x))] W fun e W'=>e = .returned (.tuple #[.int .i64 ((bk+dl:Nat):Int),.int .i64 0])∧RetSt w b L (.tuple #[.int .i64 ((bk+dl:Nat):Int),.int .i64 0]) (growS s x (uAddS (enc s x) (uSubS tt (cur s x))) (uSubS tt (cur s x)) (bk+dl)) e W'):=fun W hM =>
  (grow_new W b s L f bk dl tl x tt mx (uSubS tt (cur s x)) sl hx hmx (uSub_ok _ _) hM.hs hf hm hd hbl hc0 hcmp hU h27).mono fun e W' hR=>⟨hR.1,hR.of_below hM.hb⟩
 have HNE:=Lib.hid hne
 have HM0:=Lib.hid hM0
 obtain ⟨⟨i0,i1,i2,i3⟩,⟨c0,c1,c2,c3⟩,⟨c4,c5,c6,c7⟩,c8,c9,c10,c11⟩:=hM0.out
 clear hM0 h hf hU h27 hc0 hcmp hx hxo hmx hto hm hd hbl htl hE hg hp0 hs0 hne h1 h2 hx0 hx3
 generalize RetSt w b L (.tuple #[.int .i64 ((bk+dl:Nat):Int),.int .i64 0]) (growS s x (uAddS (enc s x) (uSubS tt (cur s x))) (uSubS tt (cur s x)) (bk+dl))=R at *
 generalize ((bk+dl:Nat):Int)=bd at *
 generalize uSubS tt (cur s x)=df at *
 generalize cur s x=cu at *
 generalize (pend s x).2.1=p1 at *
 generalize (pend s x).2.2=p2 at *
 go_enter Tryz.func19,Tryz.ntmps19
 go_wp2_with fail
 generalize ((w.alloc (.cells (idL x) 34)).alloc (.cells (chL tt mx bk dl tl sl) 36))=w1 at *
 refine Calls.mono (HMADE.out _ HM0.out) ?_
 rintro e w' ⟨rfl,rfl⟩
 go_wp2_with fail
 refine Calls.mono (HGOOD.out _ HM0.out) ?_
 rintro e w2 ⟨rfl,hM2⟩
 have HM2:=Lib.hid hM2
 have HB2:=Lib.hid (HBL.out w2)
 clear i0 i1 i2 i3 c0 c1 c2 c3 c4 c5 c6 c7 c8 c9 c10 c11
 obtain ⟨⟨i0,i1,i2,i3⟩,⟨c0,c1,c2,c3⟩,⟨c4,c5,c6,c7⟩,c8,c9,c10,c11⟩:=hM2.out
 clear hM2 HMADE HGOOD HBL
 go_wp2_with fail
 refine Calls.mono HB2.out ?_
 rintro e w' ⟨rfl,rfl⟩
 have HM3:=Lib.hid (HM2.out.alloc (.cells #[.int .i64 bk,.int .i64 dl,.int .i64 tl] 3))
 clear i0 i1 i2 i3 c0 c1 c2 c3 c4 c5 c6 c7 c8 c9 c10 c11
 obtain ⟨⟨i0,i1,i2,i3⟩,⟨c0,c1,c2,c3⟩,⟨c4,c5,c6,c7⟩,c8,c9,c10,c11⟩:=HM3.out.out
 clear HB2
 go_wp2_with fail
 refine Calls.mono (HWG.out _ HM3.out) ?_
 rintro e w4 ⟨rfl,hM4⟩
 have HM4:=Lib.hid hM4
 clear i0 i1 i2 i3 c0 c1 c2 c3 c4 c5 c6 c7 c8 c9 c10 c11
 obtain ⟨⟨i0,i1,i2,i3⟩,⟨c0,c1,c2,c3⟩,⟨c4,c5,c6,c7⟩,c8,c9,c10,c11⟩:=hM4.out
 clear hM4 HWG HM3 HM2
 go_wp2_with fail
 refine Calls.mono (HPE.out _ HM4.out) ?_
 rintro e w5 ⟨rfl,hM5⟩
 have HM5:=Lib.hid (hM5.alloc (.cells (uL p1) 24))
 clear i0 i1 i2 i3 c0 c1 c2 c3 c4 c5 c6 c7 c8 c9 c10 c11
 obtain ⟨⟨i0,i1,i2,i3⟩,⟨c0,c1,c2,c3⟩,⟨c4,c5,c6,c7⟩,c8,c9,c10,c11⟩:=HM5.out.out
 clear hM5 HPE HM4
 have HC5:=Lib.hid (HCU.out _ HM5.out)
 clear HCU HM5
 go_wp2_with fail
 refine Calls.mono HC5.out ?_
 rintro e w6 ⟨rfl,hM6⟩
 have HM6:=Lib.hid (hM6.alloc (.cells (uL cu) 24))
 clear i0 i1 i2 i3 c0 c1 c2 c3 c4 c5 c6 c7 c8 c9 c10 c11
 obtain ⟨⟨i0,i1,i2,i3⟩,⟨c0,c1,c2,c3⟩,⟨c4,c5,c6,c7⟩,c8,c9,c10,c11⟩:=HM6.out.out
 obtain ⟨_,⟨k0,k1,k2,k3⟩,_⟩:=hM6.out
 have HS6:=Lib.hid (HSU.out _ HM6.out)
 clear hM6 HC5 HSU
 go_wp2_with fail
 refine Calls.mono HS6.out ?_
 rintro e w7 ⟨rfl,hM7⟩
 have HM7:=Lib.hid (hM7.alloc (.cells (uL df) 24))
 clear i0 i1 i2 i3 c0 c1 c2 c3 c4 c5 c6 c7 c8 c9 c10 c11
 obtain ⟨⟨i0,i1,i2,i3⟩,⟨c0,c1,c2,c3⟩,⟨c4,c5,c6,c7⟩,c8,c9,c10,c11⟩:=HM7.out.out
 have HK7:=Lib.hid (HMK.out _ HM7.out)
 have HG7:=Lib.hid (HGR.out _ HM7.out)
 clear hM7 HS6 HMK HGR
 go_upto_region 16 with (fail)
 refine reg16 (df:=df) (g:=w7.heap.size) (cel4_row (heap_alloc_new w7 (.cells (uL df) 24))) HNE.out ?_
 go_wp2_with fail
 refine Calls.mono HK7.out ?_
 rintro e w' ⟨rfl,rfl⟩
 go_wp2_with fail
 refine Calls.mono HG7.out ?_
 rintro e w8 ⟨rfl,hR⟩
 have HR:=Lib.hid hR
 clear hR HG7 HK7
 go_wp2_with fail
 exact HR.out
theorem eqIdI (a b c d a' b' c' d':Int) (w:World):(Op.equalIn 10000 34 (.agg #[.int .i64 a,.int .i64 b,.int .i64 c,.int .i64 d]) (.agg #[.int .i64 a',.int .i64 b',.int .i64 c',.int .i64 d'])).run Tryz.prog w = .ok (a == a' && (b == b' && (c == c' && d == d'))) w:=by
 have u3:=Tryz.underlying3
 have a3:=Tryz.isAgg3
 have z3:=Tryz.sizeOf3
 have hS:Tryz.prog.underlying 34=some (.struct (Tryz.prog.fieldsOf 34)):=by kernel_rfl
 have hp:Tryz.prog.stoodInHeld 34=false:=by kernel_rfl
 rw [show (10000:Nat)=9999+1 from rfl,run_equalIn_agg w 9999 34 _ _ hS hp]
 simp only [Program.fieldsOf,Tryz.underlying34]
 go_simp
 by_cases h1:a=a' <;> by_cases h2:b=b' <;> by_cases h3:c=c' <;> by_cases h4:d=d' <;> simp [h1,h2,h3,h4]
def aGd (x:I4):Bool:=decide (1≤x.1) && (decide (1≤x.2.1) && (decide (0≤x.2.2.1) && decide (0≤x.2.2.2)))
theorem agood_any (x:I4) (w:World):Calls Tryz.prog 67 #[idV x] w fun e w'=>e = .returned (.bool (aGd x))∧Below w.heap.size w w':=by
 have hb:=bl_alloc (Below.refl _ w) (.cells (idL x) 34)
 obtain ⟨q0,q1,q2,q3⟩:=idc_row (heap_alloc_new w (.cells (idL x) 34))
 have hE:=fun w=>eqIdI x.1 x.2.1 x.2.2.1 x.2.2.2 0 0 0 0 w
 have HG:Hid (aGd x=(decide (1≤x.1) && (decide (1≤x.2.1) && (decide (0≤x.2.2.1) && decide (0≤x.2.2.2))))):=rfl
 generalize aGd x=G at *
 by_cases h0:x.1=0∧x.2.1=0∧x.2.2.1=0∧x.2.2.2=0
 ·obtain ⟨h1,h2,h3,h4⟩:=h0
  have hG:G=false:=by rw [HG.out,h1]; rfl
  have hE':∀ w,(Op.equalIn 10000 34 (.agg #[.int .i64 x.1,.int .i64 x.2.1,.int .i64 x.2.2.1,.int .i64 x.2.2.2]) (.agg #[.int .i64 0,.int .i64 0,.int .i64 0,.int .i64 0])).run Tryz.prog w = .ok true w:=fun w=>by rw [hE w,h1,h2,h3,h4]; rfl
  clear hE h1 h2 h3 h4
  go_enter Tryz.func67,Tryz.ntmps67
  go_wp2_with fail
  go_ret
  exact ⟨by rw [hG]; rfl,hb⟩
 ·have hE':∀ w,(Op.equalIn 10000 34 (.agg #[.int .i64 x.1,.int .i64 x.2.1,.int .i64 x.2.2.1,.int .i64 x.2.2.2]) (.agg #[.int .i64 0,.int .i64 0,.int .i64 0,.int .i64 0])).run Tryz.prog w = .ok false w:=fun w=>by
   rw [hE w]
   congr 1
   rw [Bool.eq_false_iff]
   intro h
   simp only [Bool.and_eq_true,beq_iff_eq] at h
   exact h0 ⟨h.1,h.2.1,h.2.2.1,h.2.2.2⟩
  clear hE h0
  have HB:=Lib.hid hb
  clear hb
  generalize ha:decide ((1:Int)≤x.1)=A at *
  generalize hb:decide ((1:Int)≤x.2.1)=B at *
  generalize hc:decide ((0:Int)≤x.2.2.1)=C at *
  generalize hd:decide ((0:Int)≤x.2.2.2)=D at *
  cases A with
  | false =>
   go_enter Tryz.func67,Tryz.ntmps67
   go_wp2_with fail
   go_ret
   exact ⟨by rw [HG.out]; rfl,HB.out⟩
  | true =>
   cases B with
   | false =>
    go_enter Tryz.func67,Tryz.ntmps67
    go_wp2_with fail
    go_ret
    exact ⟨by rw [HG.out]; rfl,HB.out⟩
   | true =>
    cases C with
    | false =>
     go_enter Tryz.func67,Tryz.ntmps67
     go_wp2_with fail
     go_ret
     exact ⟨by rw [HG.out]; rfl,HB.out⟩
    | true =>
     go_enter Tryz.func67,Tryz.ntmps67
     go_wp2_with fail
     go_ret
     exact ⟨by rw [HG.out]; rfl,HB.out⟩
def blkB (n:Int):Bool:=decide (n < 0) || decide (1099511627776 < n)
def blkOk (l:List Int):Bool:=!l.any blkB
theorem ablocks_any (w:World) (g c:Nat) (l:List Int) (hl:l.length < 1000000) (h:LieAt w g l):Calls Tryz.prog 68 #[.slice (some ⟨g,0,none⟩) l.length c] w fun e w'=>e = .returned (.bool (blkOk l))∧w=w':=by
 have HC:Hid (∀ k,k < l.length→∃ n:Int,l[k]? = some n∧w.cell? ⟨g,k,none⟩=some (.int .i64 n)):=fun k hk=>⟨l[k],List.getElem?_eq_getElem hk,h k _ (List.getElem?_eq_getElem hk)⟩
 have hl2:(l.length:Int) < 9223372036854775807:=by omega
 have HBAD:Hid (∀ (k:Nat) (n:Int),l[k]? = some n→blkB n=true→blkOk l=false):=fun k n hk hb=>by
  unfold blkOk
  rw [List.any_eq_true.2 ⟨n,List.mem_of_getElem? hk,hb⟩]; rfl
 have HALL:Hid ((∀ (j:Nat),j < l.length→∀ n:Int,l[j]? = some n→blkB n=false)→blkOk l=true):=fun hj=>by
  unfold blkOk
  rw [Bool.not_eq_true',Bool.eq_false_iff]
  intro he
  obtain ⟨n,hn,hb⟩:=List.any_eq_true.1 he
  obtain ⟨j,hjl,hjn⟩:=List.getElem_of_mem hn
  rw [hj j hjl n (by rw [List.getElem?_eq_getElem hjl,hjn])] at hb
  cases hb
 clear h hl
 generalize blkOk l=R at *
 generalize hml:l.length=m at *
 go_enter Tryz.func68,Tryz.ntmps68
 go_wp2_with fail
 go_loopw [7] (fun iv wr=>∃ k:Nat,iv = .int .i64 k∧k≤m∧w=wr∧∀ j,j < k→∀ n:Int,l[j]? = some n→blkB n=false) (fun iv _=>m - (intOf iv).toNat)
 case atStart=>exact ⟨0,rfl,by omega,rfl,fun j hj=>absurd hj (Nat.not_lt_zero j)⟩
 case round =>
  obtain ⟨k,rfl,hk,rfl,hall⟩:=hrel
  have HA:=Lib.hid hall
  clear hall
  by_cases hlt:k < m
  ·obtain ⟨n,hn,hc⟩:=HC.out k hlt
   have HN:=Lib.hid hn
   clear hn
   by_cases h1:n < 0
   ·have hd:decide (n < 0)=true:=decide_eq_true h1
    have hR:R=false:=HBAD.out k n HN.out (by unfold blkB; rw [hd]; rfl)
    clear h1 HBAD HALL
    go_wp2_with fail
    go_ret
    exact ⟨by rw [hR]; rfl,rfl⟩
   ·have hd:decide (n < 0)=false:=decide_eq_false h1
    by_cases h2:(1099511627776:Int) < n
    ·have hd2:decide ((1099511627776:Int) < n)=true:=decide_eq_true h2
     have hR:R=false:=HBAD.out k n HN.out (by unfold blkB; rw [hd,hd2]; rfl)
     clear h1 h2 HBAD HALL
     go_wp2_with fail
     go_ret
     exact ⟨by rw [hR]; rfl,rfl⟩
    ·have hd2:decide ((1099511627776:Int) < n)=false:=decide_eq_false h2
     have HB:Hid (blkB n=false):=by unfold blkB; rw [hd,hd2]; rfl
     clear h1 h2
     go_wp2_with fail
     go_roundw
     case rel=>exact ⟨k+1,by go_num,by omega,by first | rfl | trivial,fun j hj n' hn'=>by
      rcases Nat.lt_succ_iff_lt_or_eq.1 hj with h | h
      ·exact HA.out j h n' hn'
      ·subst h
       rw [HN.out] at hn'
       cases hn'
       exact HB.out⟩
     case measure=>simp [intOf]; omega
  ·obtain rfl:k=m:=by omega
   have hR:R=true:=HALL.out HA.out
   clear HALL HBAD
   go_wp2_with fail
   go_ret
   exact ⟨by rw [hR]; rfl,rfl⟩
theorem HV.mark {h:Hand} {w W:World} {s:St} {rs:List (Nat × Obj)} (hV:HV h w s rs W) (hon:h.on=true):Calls Tryz.prog 73 #[.pointer h.ptr] W fun e w'=>e = .returned (.int .i64 s.past.length)∧HV h w s rs w':=by
 obtain ⟨L',h1,h2,h3⟩:=hV.on
 rcases h1 with ⟨_,b,hp,hS⟩ | ⟨h0,_⟩
 ·have hp':h.ptr=some ⟨b,0,none⟩:=hp
  rw [hp']
  exact (mark_any W b s L' hS).mono fun e w' ⟨he,hw⟩=>⟨he,by subst hw; exact hV⟩
 ·rw [show h.on=false from h0] at hon; cases hon
theorem HV.made {h:Hand} {w W:World} {s:St} {rs:List (Nat × Obj)} (hV:HV h w s rs W) (hon:h.on=true):Calls Tryz.prog 66 #[.pointer h.ptr] W fun e w'=>e = .returned (.bool true)∧HV h w s rs w':=by
 obtain ⟨L',h1,h2,h3⟩:=hV.on
 rcases h1 with ⟨_,b,hp,hS⟩ | ⟨h0,_⟩
 ·have hp':h.ptr=some ⟨b,0,none⟩:=hp
  rw [hp']
  exact (made_at W b true hS.cell0).mono fun e w' ⟨he,hw⟩=>⟨he,by subst hw; exact hV⟩
 ·rw [show h.on=false from h0] at hon; cases hon
theorem HV.undo {h:Hand} {w W:World} {s:St} {rs:List (Nat × Obj)} (hV:HV h w s rs W) (hon:h.on=true) (m:Nat) (hm:m≤s.past.length) (hz:s.size < 1000000000000):Calls Tryz.prog 74 #[.pointer h.ptr,.int .i64 m] W fun e w'=>(∃ b,e = .returned (.bool b))∧HV h w (s.undo m) rs w' :=
 QV.callE hV fun L' h1 _=>by
  have:=undo_q W ⟨h.ptr,h.on,L'⟩ s m h1 hm hz
  have e:Hand.st ⟨h.ptr,h.on,L'⟩ s (s.undo m)=s.undo m:=by unfold Hand.st; rw [show (Hand.mk h.ptr h.on L').on=true from hon]; rfl
  rw [e] at this
  exact this
end Go.Proofs.YtnkilceibkkjlaaGreat
