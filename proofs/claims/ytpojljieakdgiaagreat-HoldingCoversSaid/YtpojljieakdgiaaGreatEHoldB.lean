/- What is proved here: a holding written, by the program. Its conditions: sizes. -/
import Derived.Test.YtpojljieakdgiaaGreatEHoldA
set_option maxRecDepth 100000
set_option maxHeartbeats 16000000
namespace Go.Proofs.YtpojljieakdgiaaGreat
open Go.RowKit
theorem rg_load4 {ops:Array Oper} {o:Oper} {a:Act} {w:World} {K:Value→World→Prop} {x:Operand} {g k:Nat} {r:W4} (hg:Region.wanted o (yielded ops a.tmps)=true) (ho:o.op = .load 28 x)
  (hx:a.eval x = .pointer (some ⟨g,k,none⟩)) (hc:w.cell? ⟨g,k,none⟩=some (.int .u64 r.1)∧w.cell? ⟨g,k+1,none⟩=some (.int .u64 r.2.1)∧w.cell? ⟨g,k+2,none⟩=some (.int .u64 r.2.2.1)∧w.cell? ⟨g,k+3,none⟩=some (.int .u64 r.2.2.2)) (hk:K (uV r) w):rgDo Tryz.prog ops o a w K:=by
 refine rg_value hg ?_ hk
 obtain ⟨c0,c1,c2,c3⟩:=hc
 unfold execOp
 simp only [ho,hx]
 go_simp
theorem rg_held0 {ops:Array Oper} {o:Oper} {a:Act} {w:World} {K:Value→World→Prop} {x:Operand} {g:Nat} (hg:Region.wanted o (yielded ops a.tmps)=true) (ho:o.op = .fieldAddr 110 x 0) (hx:a.eval x = .pointer (some ⟨g,0,none⟩)) (hk:K (.pointer (some ⟨g,0,none⟩)) w):rgDo Tryz.prog ops o a w K:=by
 refine rg_value hg ?_ hk
 unfold execOp
 simp only [ho,hx]
 go_simp
theorem rg_held1 {ops:Array Oper} {o:Oper} {a:Act} {w:World} {K:Value→World→Prop} {x:Operand} {g:Nat} (hg:Region.wanted o (yielded ops a.tmps)=true) (ho:o.op = .fieldAddr 110 x 1) (hx:a.eval x = .pointer (some ⟨g,0,none⟩)) (hk:K (.pointer (some ⟨g,4,none⟩)) w):rgDo Tryz.prog ops o a w K:=by
 refine rg_value hg ?_ hk
 unfold execOp
 simp only [ho,hx]
 go_simp
theorem QV.h8 {R:World→List Nat→St→Prop} {w W:World} {L:List Nat} {s:St} {rs:List (Nat × Obj)} (h:QV R w L s rs W) {g:Nat} {d f:W4} (hm:(g,hO d f)∈rs):W.heap[g]? = some (.cells (wL d f) 110 (0,0)):=h.row hm
theorem keyI_any (t:Nat) (ht1:1≤t) (ht2:t≤255) (a b:Int) (ha:I63 a) (hb:I63 b) (W:World) (v:Value) (hv:IntsAt W v [a,b]):Calls Tryz.prog 86 #[.int .i64 t,v] W fun e w'=>e = .returned (.string (keyL t [a,b]))∧Below W.heap.size W w' :=
 key_any t ht1 ht2 v [a,b] W hv (by simp) (fun n hn=>by
  simp only [List.mem_cons,List.not_mem_nil,or_false] at hn
  rcases hn with rfl | rfl
  ·exact ha
  ·exact hb)
def Hand.wrD (h:Hand) (s:St) (a t:Int) (d:W4):St:=h.st s (s.setAmt (keyL 10 [a,t]) d)
def Hand.wr (h:Hand) (s:St) (a t:Int) (d f:W4):St:=h.st (h.wrD s a t d) ((h.wrD s a t d).setAmt (keyL 11 [a,t]) (if d=(0,0,0,0) then (0,0,0,0) else f))
theorem Hand.wr_fit {h:Hand} {s:St} {f0:Nat} (hf:s.Fit f0) (a t:Int) (d f:W4):(h.wr s a t d f).Fit (f0+4):=by
 have h1:(h.wrD s a t d).Fit (f0+2):=Hand.st_fit (hf.mono (by omega)) (hf.setAmt _ _)
 exact Hand.st_fit (h1.mono (by omega)) (h1.setAmt _ _)
theorem hwrite0_q (w:World) (h:Hand) (s s1 s2:St) (a t:Int) (d f:W4) (k1 k2:ByteArray) (f0:W4)
  (hE:d=(0,0,0,0)→f0=(0,0,0,0)) (hE2:d≠(0,0,0,0)→f0=f)
  (HK1:Hid (∀ W v,IntsAt W v [a,t]→Calls Tryz.prog 86 #[.int .i64 10,v] W fun e w'=>e = .returned (.string k1)∧Below W.heap.size W w'))
  (HK2:Hid (∀ W v,IntsAt W v [a,t]→Calls Tryz.prog 86 #[.int .i64 11,v] W fun e w'=>e = .returned (.string k2)∧Below W.heap.size W w'))
  (HS1:Hid (∀ rs W,HV h w s rs W→Calls Tryz.prog 75 #[.pointer h.ptr,.string k1,uV d] W fun e W'=>e = .returned (.tuple #[])∧HV h w s1 rs W'))
  (HS2:Hid (∀ rs W,HV h w s1 rs W→Calls Tryz.prog 75 #[.pointer h.ptr,.string k2,uV f0] W fun e W'=>e = .returned (.tuple #[])∧HV h w s2 rs W'))
  (hq0:QSt w h s) :
  Calls Tryz.prog 61 #[hV d f,.pointer h.ptr,.int .i64 a,.int .i64 t] w fun e w'=>e = .returned (.tuple #[])∧QOn w h s2 w':=by
 have hq:=(HV.start hq0).alloc (hO d f)
 by_cases hd0:d=(0,0,0,0)
 ·obtain rfl:=hE hd0
  subst hd0
  have hE0:∀ w,(Op.equalIn 10000 28 (.agg #[.int .u64 0,.int .u64 0,.int .u64 0,.int .u64 0]) (.agg #[.int .u64 0,.int .u64 0,.int .u64 0,.int .u64 0])).run Tryz.prog w = .ok true w:=fun w=>eqU (0,0,0,0) (0,0,0,0) w
  have hq1:HV h w s [(w.heap.size,hO (0,0,0,0) (0,0,0,0))] (w.alloc z8):=(HV.start hq0).alloc z8
  clear hq hE hE2 hq0
  go_enter Tryz.func61,Tryz.ntmps61
  go_wp2_with fail
  go_upto_region 3 with fail
  generalize w.alloc z8=W0 at *
  have HQ1:=Lib.hid hq1
  have HB0:=Lib.hid (bl_drew (Below.refl W0.heap.size W0))
  clear hq1
  refine wp_region_rely_tail 7 [[],[],[],[1,2],[1,2,3],[],[5],[0,1,2,3,4,5,6]]
   [rgC (Below W0.heap.size W0),rgV 0 (.pointer h.ptr),rgV 1 (.int .i64 a),rgV 2 (.int .i64 t),rgI 3 ([a,t]),rgV 4 (.string k1),rgV 5 (.pointer (some ⟨w.heap.size,0,none⟩)),rgV 6 (uV (0,0,0,0))] _ (by kernel_rfl) (by kernel_rfl) (by decide) (by kernel_rfl) (by kernel_rfl)
   (fun vs=>by simp only [rgAct,rgPut,List.setIfInBounds_toArray,List.set_cons_zero,List.set_cons_succ]; exact rfl)
   ⟨fun _ _ _ hb h=>bl_then h hb,rgV_st,rgV_st,rgV_st,rgI_st,rgV_st,rgV_st,rgV_st,trivial⟩ ?_ ?_ ?_
  ·refine rgAll_yes rfl HB0.out ?_
   iterate 7 refine rgAll_no rfl ?_
   exact trivial
  ·refine ⟨?_,?_,?_,?_,?_,?_,?_,trivial⟩
   ·rintro vs w1 ⟨_,_⟩ K hK
    refine rg_move rfl (.inl rfl) rfl (hK _ _ (.inl (Below.refl _ _)) ?_)
    exact rgNew_one 1 rfl fun _=>rfl
   ·rintro vs w1 ⟨_,_⟩ K hK
    refine rg_move rfl (.inl rfl) rfl (hK _ _ (.inl (Below.refl _ _)) ?_)
    exact rgNew_one 2 rfl fun _=>rfl
   ·rintro vs w1 ⟨_,_⟩ K hK
    refine rg_move rfl (.inl rfl) rfl (hK _ _ (.inl (Below.refl _ _)) ?_)
    exact rgNew_one 3 rfl fun _=>rfl
   ·rintro vs w1 ⟨_,e1,e2,_⟩ K hK
    refine rg_ints2 rfl rfl (rg1 e1) (rg1 e2) (hK _ _ (.inl (bl_alloc (Below.refl _ _) _)) ?_)
    iterate 4 refine rgNew_no rfl ?_
    refine rgNew_yes rfl (fun _=>two_ints _ _ _) ?_
    iterate 3 refine rgNew_no rfl ?_
    exact trivial
   ·rintro vs w1 ⟨_,_,_,i3,_⟩ K hK
    refine rg_fn rfl rfl rfl (by kernel_rfl) rfl (Calls.mono (HK1.out _ _ i3) ?_)
    rintro e w2 ⟨rfl,hb⟩
    refine ⟨_,rfl,hK _ _ (.inl hb) ?_⟩
    exact rgNew_one 5 rfl fun _=>rfl
   ·rintro vs w1 ⟨_,_⟩ K hK
    refine rg_held0 rfl rfl rfl (hK _ _ (.inl (Below.refl _ _)) ?_)
    exact rgNew_one 6 rfl fun _=>rfl
   ·rintro vs w1 ⟨hC,e5,_⟩ K hK
    refine rg_load4 rfl rfl (rg1 e5) (row8 ((HQ1.out.below hC).h8 (d:=(0,0,0,0)) (f:=(0,0,0,0)) (by simp))).1 (hK _ _ (.inl (Below.refl _ _)) ?_)
    exact rgNew_one 7 rfl fun _=>rfl
  ·intro vs w1 hA
   obtain ⟨hC,e0,e1,e2,i3,e4,e5,e6,_⟩:=hA
   have e0:=rg1 e0
   have e1:=rg1 e1
   have e2:=rg1 e2
   have e4:=rg1 e4
   have e5:=rg1 e5
   have e6:=rg1 e6
   refine rgTail_cons ?_
   refine rg_fn rfl rfl rfl (by kernel_rfl) (show [vs 0,vs 4,vs 6]=_ from by rw [e0,e4,e6]) (Calls.mono (HS1.out _ _ (HQ1.out.below hC)) ?_)
   rintro e w2 ⟨rfl,hq2⟩
   refine ⟨_,rfl,?_⟩
   refine rgTail_nil ?_
   simp only [rgSet,Nat.reduceEqDiff,↓reduceIte,e0,e1,e2,e4,e5,e6]
   generalize vs 3=v3 at *
   clear e0 e1 e2 e4 e5 e6 i3 hC HK1 HS1 HB0 HQ1
   have HQ2:=Lib.hid hq2
   have HB1:=Lib.hid (bl_drew (Below.refl w2.heap.size w2))
   clear hq2
   go_upto_region 4 with fail
   refine wp_region_rely_tail 7 [[],[],[],[1,2],[1,2,3],[],[5],[0,1,2,3,4,5,6]]
    [rgC (Below w2.heap.size w2),rgV 0 (.pointer h.ptr),rgV 1 (.int .i64 a),rgV 2 (.int .i64 t),rgI 3 ([a,t]),rgV 4 (.string k2),rgV 5 (.pointer (some ⟨w.heap.size,4,none⟩)),rgV 6 (uV (0,0,0,0))] _ (by kernel_rfl) (by kernel_rfl) (by decide) (by kernel_rfl) (by kernel_rfl)
    (fun vs=>by simp only [rgAct,rgPut,List.setIfInBounds_toArray,List.set_cons_zero,List.set_cons_succ]; exact rfl)
    ⟨fun _ _ _ hb h=>bl_then h hb,rgV_st,rgV_st,rgV_st,rgI_st,rgV_st,rgV_st,rgV_st,trivial⟩ ?_ ?_ ?_
   ·refine rgAll_yes rfl HB1.out ?_
    iterate 7 refine rgAll_no rfl ?_
    exact trivial
   ·refine ⟨?_,?_,?_,?_,?_,?_,?_,trivial⟩
    ·rintro vs w1 ⟨_,_⟩ K hK
     refine rg_move rfl (.inl rfl) rfl (hK _ _ (.inl (Below.refl _ _)) ?_)
     exact rgNew_one 1 rfl fun _=>rfl
    ·rintro vs w1 ⟨_,_⟩ K hK
     refine rg_move rfl (.inl rfl) rfl (hK _ _ (.inl (Below.refl _ _)) ?_)
     exact rgNew_one 2 rfl fun _=>rfl
    ·rintro vs w1 ⟨_,_⟩ K hK
     refine rg_move rfl (.inl rfl) rfl (hK _ _ (.inl (Below.refl _ _)) ?_)
     exact rgNew_one 3 rfl fun _=>rfl
    ·rintro vs w1 ⟨_,e1,e2,_⟩ K hK
     refine rg_ints2 rfl rfl (rg1 e1) (rg1 e2) (hK _ _ (.inl (bl_alloc (Below.refl _ _) _)) ?_)
     iterate 4 refine rgNew_no rfl ?_
     refine rgNew_yes rfl (fun _=>two_ints _ _ _) ?_
     iterate 3 refine rgNew_no rfl ?_
     exact trivial
    ·rintro vs w1 ⟨_,_,_,i3,_⟩ K hK
     refine rg_fn rfl rfl rfl (by kernel_rfl) rfl (Calls.mono (HK2.out _ _ i3) ?_)
     rintro e w2 ⟨rfl,hb⟩
     refine ⟨_,rfl,hK _ _ (.inl hb) ?_⟩
     exact rgNew_one 5 rfl fun _=>rfl
    ·rintro vs w1 ⟨_,_⟩ K hK
     refine rg_held1 rfl rfl rfl (hK _ _ (.inl (Below.refl _ _)) ?_)
     exact rgNew_one 6 rfl fun _=>rfl
    ·rintro vs w1 ⟨hC,e5,_⟩ K hK
     refine rg_load4 rfl rfl (rg1 e5) (row8 ((HQ2.out.below hC).h8 (d:=(0,0,0,0)) (f:=(0,0,0,0)) (by simp))).2.1 (hK _ _ (.inl (Below.refl _ _)) ?_)
     exact rgNew_one 7 rfl fun _=>rfl
   ·intro vs w1 hA
    obtain ⟨hC,e0,e1,e2,i3,e4,e5,e6,_⟩:=hA
    have e0:=rg1 e0
    have e1:=rg1 e1
    have e2:=rg1 e2
    have e4:=rg1 e4
    have e5:=rg1 e5
    have e6:=rg1 e6
    refine rgTail_cons ?_
    refine rg_fn rfl rfl rfl (by kernel_rfl) (show [vs 0,vs 4,vs 6]=_ from by rw [e0,e4,e6]) (Calls.mono (HS2.out _ _ (HQ2.out.below hC)) ?_)
    rintro e w2 ⟨rfl,hq2⟩
    refine ⟨_,rfl,?_⟩
    refine rgTail_nil ?_
    simp only [rgSet,Nat.reduceEqDiff,↓reduceIte,e0,e1,e2,e4,e5,e6]
    clear e0 e1 e2 e4 e5 e6 i3
    have HD:=Lib.hid hq2.done
    clear hq2 HK2 HS2 HB1 HQ2
    generalize vs 3=v3b at *
    go_end0
    exact ⟨rfl,HD.out⟩
 ·obtain rfl:=hE2 hd0
  have hE0:∀ w,(Op.equalIn 10000 28 (uV d) (.agg #[.int .u64 0,.int .u64 0,.int .u64 0,.int .u64 0])).run Tryz.prog w = .ok false w:=fun w=>by
   have:=eqU d (0,0,0,0) w
   rwa [decide_eq_false hd0] at this
  have hq1:=hq
  clear hq hE hE2 hd0 hq0
  go_enter Tryz.func61,Tryz.ntmps61
  go_wp2_with fail
  go_upto_region 3 with fail
  generalize w.alloc (hO d f0)=W0 at *
  have HQ1:=Lib.hid hq1
  have HB0:=Lib.hid (bl_drew (Below.refl W0.heap.size W0))
  clear hq1
  refine wp_region_rely_tail 7 [[],[],[],[1,2],[1,2,3],[],[5],[0,1,2,3,4,5,6]]
   [rgC (Below W0.heap.size W0),rgV 0 (.pointer h.ptr),rgV 1 (.int .i64 a),rgV 2 (.int .i64 t),rgI 3 ([a,t]),rgV 4 (.string k1),rgV 5 (.pointer (some ⟨w.heap.size,0,none⟩)),rgV 6 (uV d)] _ (by kernel_rfl) (by kernel_rfl) (by decide) (by kernel_rfl) (by kernel_rfl)
   (fun vs=>by simp only [rgAct,rgPut,List.setIfInBounds_toArray,List.set_cons_zero,List.set_cons_succ]; exact rfl)
   ⟨fun _ _ _ hb h=>bl_then h hb,rgV_st,rgV_st,rgV_st,rgI_st,rgV_st,rgV_st,rgV_st,trivial⟩ ?_ ?_ ?_
  ·refine rgAll_yes rfl HB0.out ?_
   iterate 7 refine rgAll_no rfl ?_
   exact trivial
  ·refine ⟨?_,?_,?_,?_,?_,?_,?_,trivial⟩
   ·rintro vs w1 ⟨_,_⟩ K hK
    refine rg_move rfl (.inl rfl) rfl (hK _ _ (.inl (Below.refl _ _)) ?_)
    exact rgNew_one 1 rfl fun _=>rfl
   ·rintro vs w1 ⟨_,_⟩ K hK
    refine rg_move rfl (.inl rfl) rfl (hK _ _ (.inl (Below.refl _ _)) ?_)
    exact rgNew_one 2 rfl fun _=>rfl
   ·rintro vs w1 ⟨_,_⟩ K hK
    refine rg_move rfl (.inl rfl) rfl (hK _ _ (.inl (Below.refl _ _)) ?_)
    exact rgNew_one 3 rfl fun _=>rfl
   ·rintro vs w1 ⟨_,e1,e2,_⟩ K hK
    refine rg_ints2 rfl rfl (rg1 e1) (rg1 e2) (hK _ _ (.inl (bl_alloc (Below.refl _ _) _)) ?_)
    iterate 4 refine rgNew_no rfl ?_
    refine rgNew_yes rfl (fun _=>two_ints _ _ _) ?_
    iterate 3 refine rgNew_no rfl ?_
    exact trivial
   ·rintro vs w1 ⟨_,_,_,i3,_⟩ K hK
    refine rg_fn rfl rfl rfl (by kernel_rfl) rfl (Calls.mono (HK1.out _ _ i3) ?_)
    rintro e w2 ⟨rfl,hb⟩
    refine ⟨_,rfl,hK _ _ (.inl hb) ?_⟩
    exact rgNew_one 5 rfl fun _=>rfl
   ·rintro vs w1 ⟨_,_⟩ K hK
    refine rg_held0 rfl rfl rfl (hK _ _ (.inl (Below.refl _ _)) ?_)
    exact rgNew_one 6 rfl fun _=>rfl
   ·rintro vs w1 ⟨hC,e5,_⟩ K hK
    refine rg_load4 rfl rfl (rg1 e5) (row8 ((HQ1.out.below hC).h8 (d:=d) (f:=f0) (by simp))).1 (hK _ _ (.inl (Below.refl _ _)) ?_)
    exact rgNew_one 7 rfl fun _=>rfl
  ·intro vs w1 hA
   obtain ⟨hC,e0,e1,e2,i3,e4,e5,e6,_⟩:=hA
   have e0:=rg1 e0
   have e1:=rg1 e1
   have e2:=rg1 e2
   have e4:=rg1 e4
   have e5:=rg1 e5
   have e6:=rg1 e6
   refine rgTail_cons ?_
   refine rg_fn rfl rfl rfl (by kernel_rfl) (show [vs 0,vs 4,vs 6]=_ from by rw [e0,e4,e6]) (Calls.mono (HS1.out _ _ (HQ1.out.below hC)) ?_)
   rintro e w2 ⟨rfl,hq2⟩
   refine ⟨_,rfl,?_⟩
   refine rgTail_nil ?_
   simp only [rgSet,Nat.reduceEqDiff,↓reduceIte,e0,e1,e2,e4,e5,e6]
   generalize vs 3=v3 at *
   clear e0 e1 e2 e4 e5 e6 i3 hC HK1 HS1 HB0 HQ1
   have HQ2:=Lib.hid hq2
   have HB1:=Lib.hid (bl_drew (Below.refl w2.heap.size w2))
   clear hq2
   go_upto_region 4 with fail
   refine wp_region_rely_tail 7 [[],[],[],[1,2],[1,2,3],[],[5],[0,1,2,3,4,5,6]]
    [rgC (Below w2.heap.size w2),rgV 0 (.pointer h.ptr),rgV 1 (.int .i64 a),rgV 2 (.int .i64 t),rgI 3 ([a,t]),rgV 4 (.string k2),rgV 5 (.pointer (some ⟨w.heap.size,4,none⟩)),rgV 6 (uV f0)] _ (by kernel_rfl) (by kernel_rfl) (by decide) (by kernel_rfl) (by kernel_rfl)
    (fun vs=>by simp only [rgAct,rgPut,List.setIfInBounds_toArray,List.set_cons_zero,List.set_cons_succ]; exact rfl)
    ⟨fun _ _ _ hb h=>bl_then h hb,rgV_st,rgV_st,rgV_st,rgI_st,rgV_st,rgV_st,rgV_st,trivial⟩ ?_ ?_ ?_
   ·refine rgAll_yes rfl HB1.out ?_
    iterate 7 refine rgAll_no rfl ?_
    exact trivial
   ·refine ⟨?_,?_,?_,?_,?_,?_,?_,trivial⟩
    ·rintro vs w1 ⟨_,_⟩ K hK
     refine rg_move rfl (.inl rfl) rfl (hK _ _ (.inl (Below.refl _ _)) ?_)
     exact rgNew_one 1 rfl fun _=>rfl
    ·rintro vs w1 ⟨_,_⟩ K hK
     refine rg_move rfl (.inl rfl) rfl (hK _ _ (.inl (Below.refl _ _)) ?_)
     exact rgNew_one 2 rfl fun _=>rfl
    ·rintro vs w1 ⟨_,_⟩ K hK
     refine rg_move rfl (.inl rfl) rfl (hK _ _ (.inl (Below.refl _ _)) ?_)
     exact rgNew_one 3 rfl fun _=>rfl
    ·rintro vs w1 ⟨_,e1,e2,_⟩ K hK
     refine rg_ints2 rfl rfl (rg1 e1) (rg1 e2) (hK _ _ (.inl (bl_alloc (Below.refl _ _) _)) ?_)
     iterate 4 refine rgNew_no rfl ?_
     refine rgNew_yes rfl (fun _=>two_ints _ _ _) ?_
     iterate 3 refine rgNew_no rfl ?_
     exact trivial
    ·rintro vs w1 ⟨_,_,_,i3,_⟩ K hK
     refine rg_fn rfl rfl rfl (by kernel_rfl) rfl (Calls.mono (HK2.out _ _ i3) ?_)
     rintro e w2 ⟨rfl,hb⟩
     refine ⟨_,rfl,hK _ _ (.inl hb) ?_⟩
     exact rgNew_one 5 rfl fun _=>rfl
    ·rintro vs w1 ⟨_,_⟩ K hK
     refine rg_held1 rfl rfl rfl (hK _ _ (.inl (Below.refl _ _)) ?_)
     exact rgNew_one 6 rfl fun _=>rfl
    ·rintro vs w1 ⟨hC,e5,_⟩ K hK
     refine rg_load4 rfl rfl (rg1 e5) (row8 ((HQ2.out.below hC).h8 (d:=d) (f:=f0) (by simp))).2.1 (hK _ _ (.inl (Below.refl _ _)) ?_)
     exact rgNew_one 7 rfl fun _=>rfl
   ·intro vs w1 hA
    obtain ⟨hC,e0,e1,e2,i3,e4,e5,e6,_⟩:=hA
    have e0:=rg1 e0
    have e1:=rg1 e1
    have e2:=rg1 e2
    have e4:=rg1 e4
    have e5:=rg1 e5
    have e6:=rg1 e6
    refine rgTail_cons ?_
    refine rg_fn rfl rfl rfl (by kernel_rfl) (show [vs 0,vs 4,vs 6]=_ from by rw [e0,e4,e6]) (Calls.mono (HS2.out _ _ (HQ2.out.below hC)) ?_)
    rintro e w2 ⟨rfl,hq2⟩
    refine ⟨_,rfl,?_⟩
    refine rgTail_nil ?_
    simp only [rgSet,Nat.reduceEqDiff,↓reduceIte,e0,e1,e2,e4,e5,e6]
    clear e0 e1 e2 e4 e5 e6 i3
    have HD:=Lib.hid hq2.done
    clear hq2 HK2 HS2 HB1 HQ2
    generalize vs 3=v3b at *
    go_end0
    exact ⟨rfl,HD.out⟩
theorem hwrite_q (w:World) (h:Hand) (s:St) (f0:Nat) (a t:Int) (d f:W4) (ha:I63 a) (ht:I63 t) (hq:QSt w h s) (hf:s.Fit f0) (hm:f0 < 10000000000) :
  Calls Tryz.prog 61 #[hV d f,.pointer h.ptr,.int .i64 a,.int .i64 t] w fun e w'=>e = .returned (.tuple #[])∧QOn w h (h.wr s a t d f) w':=by
 have h1:(h.wrD s a t d).Fit (f0+2):=Hand.st_fit (hf.mono (by omega)) (hf.setAmt _ _)
 exact hwrite0_q w h s (h.wrD s a t d) (h.wr s a t d f) a t d f (keyL 10 [a,t]) (keyL 11 [a,t]) (if d=(0,0,0,0) then (0,0,0,0) else f) (fun e=>if_pos e) (fun e=>if_neg e)
  (keyI_any 10 (by decide) (by decide) a t ha ht) (keyI_any 11 (by decide) (by decide) a t ha ht) (fun rs W hW=>hW.cset (Nat.lt_of_le_of_lt hf.size (by omega)) _ _) (fun rs W hW=>hW.cset (Nat.lt_of_le_of_lt h1.size (by omega)) _ _) hq
end Go.Proofs.YtpojljieakdgiaaGreat
