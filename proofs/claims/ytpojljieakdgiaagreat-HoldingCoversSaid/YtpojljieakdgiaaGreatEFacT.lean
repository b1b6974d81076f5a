/- What is proved here: package factor of the program: Good, Worth, factor, Grow, Move. Their condition: words below 2^64. factor's own factor of the program. Its condition: an amount of shares, a fraction as the magnitude. -/
import Derived.Test.YtpojljieakdgiaaGreatEMUp
set_option maxRecDepth 100000
set_option maxHeartbeats 16000000
namespace Go.Proofs.YtpojljieakdgiaaGreat
open Go.RowKit
theorem uCmp_le0 {x y:W4}:uCmp x y≤0↔uN x≤uN y:=by
 unfold uCmp
 split
 ·omega
 ·split <;> omega
theorem uCmp_gt0 {x y:W4}:0 < uCmp x y↔uN y < uN x:=by
 have:=uCmp_le0 (x:=x) (y:=y)
 omega
theorem VP.p0 {w wr:World} {l:List W4} {n:Nat} {g:Nat} {x:W4} {ps:List (Nat × W4)} (h:VP w l n ((g,x) :: ps) wr):wr.heap[g]? = some (.cells (uL x) 28 (0,0)):=(h.p g x (by simp)).2
theorem VP.p1 {w wr:World} {l:List W4} {n:Nat} {g g':Nat} {x x':W4} {ps:List (Nat × W4)} (h:VP w l n ((g',x') :: (g,x) :: ps) wr):wr.heap[g]? = some (.cells (uL x) 28 (0,0)):=(h.p g x (by simp)).2
theorem sq_nat:uN sqW=1000000000000000000000000000000000000:=uN_of (by decide)
theorem sq_ok:sqW.Ok:=uOf_ok _
def goodB (d f m:W4):Bool:=decide (uN d < M128) && (decide (uN f≤1000000000000000000000000000000000000) && decide (uN m≤1000000000000000000))
def worthN (d f m:W4):Nat:=uN d*uN f*uN m / 1000000000000000000000000000000000000
def worthW (d f m:W4):W4:=if goodB d f m then uOf (worthN d f m) else (0,0,0,0)
def facN (w d m:W4):Nat:=uN w*1000000000000000000000000000000000000 / (uN d*uN m)
def facB (w d m:W4):Bool:=decide (0 < facN w d m) && decide (facN w d m≤1000000000000000000000000000000000000)
def facW (w d m:W4):W4:=if facB w d m then uOf (facN w d m) else (0,0,0,0)
theorem fgood_any (d f m:W4) (hd:d.Ok) (hf:f.Ok) (hm:m.Ok) (w:World):Calls Tryz.prog 131 #[uV d,uV f,uV m] w fun e w'=>e = .returned (.bool (goodB d f m))∧Below w.heap.size w w':=by
 have HV:=Lib.hid (VAt.start w [d,f,m]).drew
 have HF:Hid (∀ W,Calls Tryz.prog 74 #[uV f,uV sqW] W fun e w'=>e = .returned (.int .i64 (uCmp f sqW))∧Below W.heap.size W w'):=ucmp_any f sqW hf sq_ok
 have HA:Hid (∀ W,Calls Tryz.prog 25 #[uV d] W fun e w'=>e = .returned (.bool (decide (uN d < M128)))∧Below W.heap.size W w'):=wamount_any d hd
 have HM:Hid (∀ W,Calls Tryz.prog 102 #[uV m] W fun e w'=>e = .returned (.bool (decide (uN m≤1000000000000000000)))∧Below W.heap.size W w'):=fun W=>by
  have h1:decide (uN m≤1000000000000000000)=decide (uCmp m oneW≤0):=decide_eq_decide.2 (by rw [uCmp_le0,one_nat])
  rw [h1]
  exact wgood_any m hm W
 have HB:Hid (decide (uCmp f sqW≤0)=decide (uN f≤1000000000000000000000000000000000000)):=by
  exact decide_eq_decide.2 (by rw [uCmp_le0,sq_nat])
 have HG:Hid (goodB d f m=(decide (uN d < M128) && (decide (uN f≤1000000000000000000000000000000000000) && decide (uN m≤1000000000000000000)))):=rfl
 rw [HG.out]
 generalize decide (uN d < M128)=A at *
 generalize decide (uN f≤1000000000000000000000000000000000000)=B at *
 generalize decide (uN m≤1000000000000000000)=c at *
 clear HG
 cases A with
 | false =>
  go_enter Tryz.func131,Tryz.ntmps131
  go_wp2_with fail
  go_upto_region 1 with fail
  refine wp_region_rely [[],[0],[0,1],[0,1,2],[0,1,2],[0,1,2,3,4],[0,1,2,3,4,5],[0,1,2,3,4,5,6],[0,1,2,3,4,5,6,7],[0,1,2,3,4,5,6,7,8],[0,1,2,3,4,5,6,7,8,9],[0,1,2,3,4,5,6,7,8,9,10],[0,1,2,3,4,5,6,7,8,9,10,11]]
   [rgC (VAt w [d,f,m]),rgV 0 (uV d),rgV 1 (.bool false),rgV 2 (.bool false),rgV 3 (undef),rgV 4 (undef),rgV 5 (undef),rgV 6 (undef),rgV 7 (.bool false),rgV 8 (.bool false),rgV 9 (undef),rgV 10 (undef),rgV 11 (.bool false),rgV 12 (.bool false)] _ (by kernel_rfl) (by kernel_rfl) (by kernel_rfl)
   (fun vs=>by simp only [rgAct,rgPut,List.setIfInBounds_toArray,List.set_cons_zero,List.set_cons_succ]; exact rfl)
   ⟨fun _ _ _ hb h=>h.below hb,rgV_st,rgV_st,rgV_st,rgV_st,rgV_st,rgV_st,rgV_st,rgV_st,rgV_st,rgV_st,rgV_st,rgV_st,rgV_st,trivial⟩ ?_ ?_ ?_
  ·refine rgAll_yes rfl HV.out ?_
   iterate 13 refine rgAll_no rfl ?_
   exact trivial
  ·refine ⟨?_,?_,?_,?_,?_,?_,?_,?_,?_,?_,?_,?_,?_,trivial⟩
   ·rintro vs w1 ⟨hC,_⟩ K hK
    refine rg_loadU rfl rfl rfl (hC.r 0 d rfl) (hK _ _ (.inl (Below.refl _ _)) ?_)
    exact rgNew_one 1 rfl fun _=>rfl
   ·rintro vs w1 ⟨_,e0,_⟩ K hK
    refine rg_fn rfl rfl rfl (by kernel_rfl) (show [vs 0]=_ from by rw [rg1 e0]) (Calls.mono (HA.out _) ?_)
    rintro e w2 ⟨rfl,hb⟩
    refine ⟨_,rfl,hK _ _ (.inl hb) ?_⟩
    exact rgNew_one 2 rfl fun _=>rfl
   ·rintro vs w1 ⟨_,_,e1,_⟩ K hK
    refine rg_move rfl (.inl rfl) (rg1 e1) (hK _ _ (.inl (Below.refl _ _)) ?_)
    exact rgNew_one 3 rfl fun _=>rfl
   ·rintro vs w1 ⟨_,_,_,e2,_⟩ K hK
    refine rg_out (rg_unwanted rfl rfl rfl (rg1 e2) rfl) (hK _ _ (.inl (Below.refl _ _)) ?_)
    exact rgNew_one 4 rfl fun _=>rfl
   ·rintro vs w1 ⟨_,_,_,e2,_⟩ K hK
    refine rg_out (rg_unwanted rfl rfl rfl (rg1 e2) rfl) (hK _ _ (.inl (Below.refl _ _)) ?_)
    exact rgNew_one 5 rfl fun _=>rfl
   ·rintro vs w1 ⟨_,_,_,e2,_,_,_⟩ K hK
    refine rg_out (rg_unwanted rfl rfl rfl (rg1 e2) rfl) (hK _ _ (.inl (Below.refl _ _)) ?_)
    exact rgNew_one 6 rfl fun _=>rfl
   ·rintro vs w1 ⟨_,_,_,e2,_,_,_,_⟩ K hK
    refine rg_out (rg_unwanted rfl rfl rfl (rg1 e2) rfl) (hK _ _ (.inl (Below.refl _ _)) ?_)
    exact rgNew_one 7 rfl fun _=>rfl
   ·rintro vs w1 ⟨_,_,_,e2,_,_,_,_,_⟩ K hK
    refine rg_pick rfl rfl (rg1 e2) rfl (hK _ _ (.inl (Below.refl _ _)) ?_)
    exact rgNew_one 8 rfl fun _=>rfl
   ·rintro vs w1 ⟨_,_,_,_,_,_,_,_,e7,_⟩ K hK
    refine rg_move rfl (.inl rfl) (rg1 e7) (hK _ _ (.inl (Below.refl _ _)) ?_)
    exact rgNew_one 9 rfl fun _=>rfl
   ·rintro vs w1 ⟨_,_,_,_,_,_,_,_,_,e8,_⟩ K hK
    refine rg_out (rg_unwanted rfl rfl rfl (rg1 e8) rfl) (hK _ _ (.inl (Below.refl _ _)) ?_)
    exact rgNew_one 10 rfl fun _=>rfl
   ·rintro vs w1 ⟨_,_,_,_,_,_,_,_,_,e8,_,_⟩ K hK
    refine rg_out (rg_unwanted rfl rfl rfl (rg1 e8) rfl) (hK _ _ (.inl (Below.refl _ _)) ?_)
    exact rgNew_one 11 rfl fun _=>rfl
   ·rintro vs w1 ⟨_,_,_,_,_,_,_,_,_,e8,_,_,_⟩ K hK
    refine rg_pick rfl rfl (rg1 e8) rfl (hK _ _ (.inl (Below.refl _ _)) ?_)
    exact rgNew_one 12 rfl fun _=>rfl
   ·rintro vs w1 ⟨_,_,_,_,_,_,_,_,_,_,_,_,e11,_⟩ K hK
    refine rg_move rfl (.inr rfl) (rg1 e11) (hK _ _ (.inl (Below.refl _ _)) ?_)
    exact rgNew_one 13 rfl fun _=>rfl
  ·intro vs w1 hA
   obtain ⟨hC,e0,e1,e2,e3,e4,e5,e6,e7,e8,e9,e10,e11,e12,_⟩:=hA
   have e0:=rg1 e0
   have e1:=rg1 e1
   have e2:=rg1 e2
   have e3:=rg1 e3
   have e4:=rg1 e4
   have e5:=rg1 e5
   have e6:=rg1 e6
   have e7:=rg1 e7
   have e8:=rg1 e8
   have e9:=rg1 e9
   have e10:=rg1 e10
   have e11:=rg1 e11
   have e12:=rg1 e12
   simp only [e0,e1,e2,e3,e4,e5,e6,e7,e8,e9,e10,e11,e12]
   have HB:=Lib.hid hC.b
   go_wp2_with fail
   go_ret
   exact ⟨rfl,HB.out⟩
 | true=>cases B with
  | false =>
   go_enter Tryz.func131,Tryz.ntmps131
   go_wp2_with fail
   go_upto_region 1 with fail
   refine wp_region_rely [[],[0],[0,1],[0,1,2],[0,1,2],[0,1,2,3,4],[0,1,2,3,4,5],[0,1,2,3,4,5,6],[0,1,2,3,4,5,6,7],[0,1,2,3,4,5,6,7,8],[0,1,2,3,4,5,6,7,8,9],[0,1,2,3,4,5,6,7,8,9,10],[0,1,2,3,4,5,6,7,8,9,10,11]]
    [rgC (VAt w [d,f,m]),rgV 0 (uV d),rgV 1 (.bool true),rgV 2 (.bool true),rgV 3 (uV f),rgV 4 (uV sqW),rgV 5 (.int .i64 (uCmp f sqW)),rgV 6 (.bool false),rgV 7 (.bool false),rgV 8 (.bool false),rgV 9 (undef),rgV 10 (undef),rgV 11 (.bool false),rgV 12 (.bool false)] _ (by kernel_rfl) (by kernel_rfl) (by kernel_rfl)
    (fun vs=>by simp only [rgAct,rgPut,List.setIfInBounds_toArray,List.set_cons_zero,List.set_cons_succ]; exact rfl)
    ⟨fun _ _ _ hb h=>h.below hb,rgV_st,rgV_st,rgV_st,rgV_st,rgV_st,rgV_st,rgV_st,rgV_st,rgV_st,rgV_st,rgV_st,rgV_st,rgV_st,trivial⟩ ?_ ?_ ?_
   ·refine rgAll_yes rfl HV.out ?_
    iterate 13 refine rgAll_no rfl ?_
    exact trivial
   ·refine ⟨?_,?_,?_,?_,?_,?_,?_,?_,?_,?_,?_,?_,?_,trivial⟩
    ·rintro vs w1 ⟨hC,_⟩ K hK
     refine rg_loadU rfl rfl rfl (hC.r 0 d rfl) (hK _ _ (.inl (Below.refl _ _)) ?_)
     exact rgNew_one 1 rfl fun _=>rfl
    ·rintro vs w1 ⟨_,e0,_⟩ K hK
     refine rg_fn rfl rfl rfl (by kernel_rfl) (show [vs 0]=_ from by rw [rg1 e0]) (Calls.mono (HA.out _) ?_)
     rintro e w2 ⟨rfl,hb⟩
     refine ⟨_,rfl,hK _ _ (.inl hb) ?_⟩
     exact rgNew_one 2 rfl fun _=>rfl
    ·rintro vs w1 ⟨_,_,e1,_⟩ K hK
     refine rg_move rfl (.inl rfl) (rg1 e1) (hK _ _ (.inl (Below.refl _ _)) ?_)
     exact rgNew_one 3 rfl fun _=>rfl
    ·rintro vs w1 ⟨hC,_,_,e2,_⟩ K hK
     refine rg_loadU (rg_wanted rfl rfl rfl (rg1 e2)) rfl rfl (hC.r 1 f rfl) (hK _ _ (.inl (Below.refl _ _)) ?_)
     exact rgNew_one 4 rfl fun _=>rfl
    ·rintro vs w1 ⟨_,_,_,e2,_⟩ K hK
     refine rg_fn (rg_wanted rfl rfl rfl (rg1 e2)) rfl rfl (by kernel_rfl) rfl (Calls.mono (square_any _) ?_)
     rintro e w2 ⟨rfl,hb⟩
     refine ⟨_,rfl,hK _ _ (.inl hb) ?_⟩
     exact rgNew_one 5 rfl fun _=>rfl
    ·rintro vs w1 ⟨_,_,_,e2,e3,e4,_⟩ K hK
     refine rg_fn (rg_wanted rfl rfl rfl (rg1 e2)) rfl rfl (by kernel_rfl) (show [vs 3,vs 4]=_ from by rw [rg1 e3,rg1 e4]) (Calls.mono (HF.out _) ?_)
     rintro e w2 ⟨rfl,hb⟩
     refine ⟨_,rfl,hK _ _ (.inl hb) ?_⟩
     exact rgNew_one 6 rfl fun _=>rfl
    ·rintro vs w1 ⟨_,_,_,e2,_,_,e5,_⟩ K hK
     refine rg_leq0 (rg_wanted rfl rfl rfl (rg1 e2)) rfl (rg1 e5) HB.out (hK _ _ (.inl (Below.refl _ _)) ?_)
     exact rgNew_one 7 rfl fun _=>rfl
    ·rintro vs w1 ⟨_,_,_,e2,_,_,_,e6,_⟩ K hK
     refine rg_pick rfl rfl (rg1 e2) (rg1 e6) (hK _ _ (.inl (Below.refl _ _)) ?_)
     exact rgNew_one 8 rfl fun _=>rfl
    ·rintro vs w1 ⟨_,_,_,_,_,_,_,_,e7,_⟩ K hK
     refine rg_move rfl (.inl rfl) (rg1 e7) (hK _ _ (.inl (Below.refl _ _)) ?_)
     exact rgNew_one 9 rfl fun _=>rfl
    ·rintro vs w1 ⟨_,_,_,_,_,_,_,_,_,e8,_⟩ K hK
     refine rg_out (rg_unwanted rfl rfl rfl (rg1 e8) rfl) (hK _ _ (.inl (Below.refl _ _)) ?_)
     exact rgNew_one 10 rfl fun _=>rfl
    ·rintro vs w1 ⟨_,_,_,_,_,_,_,_,_,e8,_,_⟩ K hK
     refine rg_out (rg_unwanted rfl rfl rfl (rg1 e8) rfl) (hK _ _ (.inl (Below.refl _ _)) ?_)
     exact rgNew_one 11 rfl fun _=>rfl
    ·rintro vs w1 ⟨_,_,_,_,_,_,_,_,_,e8,_,_,_⟩ K hK
     refine rg_pick rfl rfl (rg1 e8) rfl (hK _ _ (.inl (Below.refl _ _)) ?_)
     exact rgNew_one 12 rfl fun _=>rfl
    ·rintro vs w1 ⟨_,_,_,_,_,_,_,_,_,_,_,_,e11,_⟩ K hK
     refine rg_move rfl (.inr rfl) (rg1 e11) (hK _ _ (.inl (Below.refl _ _)) ?_)
     exact rgNew_one 13 rfl fun _=>rfl
   ·intro vs w1 hA
    obtain ⟨hC,e0,e1,e2,e3,e4,e5,e6,e7,e8,e9,e10,e11,e12,_⟩:=hA
    have e0:=rg1 e0
    have e1:=rg1 e1
    have e2:=rg1 e2
    have e3:=rg1 e3
    have e4:=rg1 e4
    have e5:=rg1 e5
    have e6:=rg1 e6
    have e7:=rg1 e7
    have e8:=rg1 e8
    have e9:=rg1 e9
    have e10:=rg1 e10
    have e11:=rg1 e11
    have e12:=rg1 e12
    simp only [e0,e1,e2,e3,e4,e5,e6,e7,e8,e9,e10,e11,e12]
    have HB:=Lib.hid hC.b
    go_wp2_with fail
    go_ret
    exact ⟨rfl,HB.out⟩
  | true =>
   go_enter Tryz.func131,Tryz.ntmps131
   go_wp2_with fail
   go_upto_region 1 with fail
   refine wp_region_rely [[],[0],[0,1],[0,1,2],[0,1,2],[0,1,2,3,4],[0,1,2,3,4,5],[0,1,2,3,4,5,6],[0,1,2,3,4,5,6,7],[0,1,2,3,4,5,6,7,8],[0,1,2,3,4,5,6,7,8,9],[0,1,2,3,4,5,6,7,8,9,10],[0,1,2,3,4,5,6,7,8,9,10,11]]
    [rgC (VAt w [d,f,m]),rgV 0 (uV d),rgV 1 (.bool true),rgV 2 (.bool true),rgV 3 (uV f),rgV 4 (uV sqW),rgV 5 (.int .i64 (uCmp f sqW)),rgV 6 (.bool true),rgV 7 (.bool true),rgV 8 (.bool true),rgV 9 (uV m),rgV 10 (.bool c),rgV 11 (.bool c),rgV 12 (.bool c)] _ (by kernel_rfl) (by kernel_rfl) (by kernel_rfl)
    (fun vs=>by simp only [rgAct,rgPut,List.setIfInBounds_toArray,List.set_cons_zero,List.set_cons_succ]; exact rfl)
    ⟨fun _ _ _ hb h=>h.below hb,rgV_st,rgV_st,rgV_st,rgV_st,rgV_st,rgV_st,rgV_st,rgV_st,rgV_st,rgV_st,rgV_st,rgV_st,rgV_st,trivial⟩ ?_ ?_ ?_
   ·refine rgAll_yes rfl HV.out ?_
    iterate 13 refine rgAll_no rfl ?_
    exact trivial
   ·refine ⟨?_,?_,?_,?_,?_,?_,?_,?_,?_,?_,?_,?_,?_,trivial⟩
    ·rintro vs w1 ⟨hC,_⟩ K hK
     refine rg_loadU rfl rfl rfl (hC.r 0 d rfl) (hK _ _ (.inl (Below.refl _ _)) ?_)
     exact rgNew_one 1 rfl fun _=>rfl
    ·rintro vs w1 ⟨_,e0,_⟩ K hK
     refine rg_fn rfl rfl rfl (by kernel_rfl) (show [vs 0]=_ from by rw [rg1 e0]) (Calls.mono (HA.out _) ?_)
     rintro e w2 ⟨rfl,hb⟩
     refine ⟨_,rfl,hK _ _ (.inl hb) ?_⟩
     exact rgNew_one 2 rfl fun _=>rfl
    ·rintro vs w1 ⟨_,_,e1,_⟩ K hK
     refine rg_move rfl (.inl rfl) (rg1 e1) (hK _ _ (.inl (Below.refl _ _)) ?_)
     exact rgNew_one 3 rfl fun _=>rfl
    ·rintro vs w1 ⟨hC,_,_,e2,_⟩ K hK
     refine rg_loadU (rg_wanted rfl rfl rfl (rg1 e2)) rfl rfl (hC.r 1 f rfl) (hK _ _ (.inl (Below.refl _ _)) ?_)
     exact rgNew_one 4 rfl fun _=>rfl
    ·rintro vs w1 ⟨_,_,_,e2,_⟩ K hK
     refine rg_fn (rg_wanted rfl rfl rfl (rg1 e2)) rfl rfl (by kernel_rfl) rfl (Calls.mono (square_any _) ?_)
     rintro e w2 ⟨rfl,hb⟩
     refine ⟨_,rfl,hK _ _ (.inl hb) ?_⟩
     exact rgNew_one 5 rfl fun _=>rfl
    ·rintro vs w1 ⟨_,_,_,e2,e3,e4,_⟩ K hK
     refine rg_fn (rg_wanted rfl rfl rfl (rg1 e2)) rfl rfl (by kernel_rfl) (show [vs 3,vs 4]=_ from by rw [rg1 e3,rg1 e4]) (Calls.mono (HF.out _) ?_)
     rintro e w2 ⟨rfl,hb⟩
     refine ⟨_,rfl,hK _ _ (.inl hb) ?_⟩
     exact rgNew_one 6 rfl fun _=>rfl
    ·rintro vs w1 ⟨_,_,_,e2,_,_,e5,_⟩ K hK
     refine rg_leq0 (rg_wanted rfl rfl rfl (rg1 e2)) rfl (rg1 e5) HB.out (hK _ _ (.inl (Below.refl _ _)) ?_)
     exact rgNew_one 7 rfl fun _=>rfl
    ·rintro vs w1 ⟨_,_,_,e2,_,_,_,e6,_⟩ K hK
     refine rg_pick rfl rfl (rg1 e2) (rg1 e6) (hK _ _ (.inl (Below.refl _ _)) ?_)
     exact rgNew_one 8 rfl fun _=>rfl
    ·rintro vs w1 ⟨_,_,_,_,_,_,_,_,e7,_⟩ K hK
     refine rg_move rfl (.inl rfl) (rg1 e7) (hK _ _ (.inl (Below.refl _ _)) ?_)
     exact rgNew_one 9 rfl fun _=>rfl
    ·rintro vs w1 ⟨hC,_,_,_,_,_,_,_,_,e8,_⟩ K hK
     refine rg_loadU (rg_wanted rfl rfl rfl (rg1 e8)) rfl rfl (hC.r 2 m rfl) (hK _ _ (.inl (Below.refl _ _)) ?_)
     exact rgNew_one 10 rfl fun _=>rfl
    ·rintro vs w1 ⟨_,_,_,_,_,_,_,_,_,e8,e9,_⟩ K hK
     refine rg_fn (rg_wanted rfl rfl rfl (rg1 e8)) rfl rfl (by kernel_rfl) (show [vs 9]=_ from by rw [rg1 e9]) (Calls.mono (HM.out _) ?_)
     rintro e w2 ⟨rfl,hb⟩
     refine ⟨_,rfl,hK _ _ (.inl hb) ?_⟩
     exact rgNew_one 11 rfl fun _=>rfl
    ·rintro vs w1 ⟨_,_,_,_,_,_,_,_,_,e8,_,e10,_⟩ K hK
     refine rg_pick rfl rfl (rg1 e8) (rg1 e10) (hK _ _ (.inl (Below.refl _ _)) ?_)
     exact rgNew_one 12 rfl fun _=>rfl
    ·rintro vs w1 ⟨_,_,_,_,_,_,_,_,_,_,_,_,e11,_⟩ K hK
     refine rg_move rfl (.inr rfl) (rg1 e11) (hK _ _ (.inl (Below.refl _ _)) ?_)
     exact rgNew_one 13 rfl fun _=>rfl
   ·intro vs w1 hA
    obtain ⟨hC,e0,e1,e2,e3,e4,e5,e6,e7,e8,e9,e10,e11,e12,_⟩:=hA
    have e0:=rg1 e0
    have e1:=rg1 e1
    have e2:=rg1 e2
    have e3:=rg1 e3
    have e4:=rg1 e4
    have e5:=rg1 e5
    have e6:=rg1 e6
    have e7:=rg1 e7
    have e8:=rg1 e8
    have e9:=rg1 e9
    have e10:=rg1 e10
    have e11:=rg1 e11
    have e12:=rg1 e12
    simp only [e0,e1,e2,e3,e4,e5,e6,e7,e8,e9,e10,e11,e12]
    have HB:=Lib.hid hC.b
    go_wp2_with fail
    go_ret
    exact ⟨rfl,HB.out⟩
theorem good_iff {d f m:W4}:goodB d f m=true↔uN d < M128∧uN f≤1000000000000000000000000000000000000∧uN m≤1000000000000000000:=by
 unfold goodB; simp only [Bool.and_eq_true,decide_eq_true_eq]
theorem worth_le {d f m:W4} (h:goodB d f m=true):worthN d f m≤uN d*1000000000000000000:=by
 obtain ⟨_,h2,h3⟩:=good_iff.1 h
 unfold worthN
 refine Nat.div_le_of_le_mul ?_
 have h4:uN d*uN f*uN m≤uN d*1000000000000000000000000000000000000*1000000000000000000:=Nat.mul_le_mul (Nat.mul_le_mul (Nat.le_refl _) h2) h3
 have h5:uN d*1000000000000000000000000000000000000*1000000000000000000=1000000000000000000000000000000000000*(uN d*1000000000000000000):=by
  rw [Nat.mul_comm (uN d),Nat.mul_assoc]
 omega
theorem worth_dn {d f m:W4} (h:goodB d f m=true):mulB d f=true∧dnW (mulW d f) m sqW=worthW d f m∧dnB (mulW d f) m sqW=true:=by
 obtain ⟨h1,h2,h3⟩:=good_iff.1 h
 have hw:=worth_le h
 have hlt:uN d*uN f < 115792089237316195423570985008687907853269984665640564039457584007913129639936:=by
  have:uN d*uN f≤M128*1000000000000000000000000000000000000:=Nat.mul_le_mul (Nat.le_of_lt h1) h2
  unfold M128 at *; omega
 have hfit:worthN d f m < 115792089237316195423570985008687907853269984665640564039457584007913129639936:=by unfold M128 at *; omega
 have hq:uN (mulW d f)*uN m / uN sqW=worthN d f m:=by
  unfold mulW worthN
  rw [if_pos hlt,uN_of hlt,sq_nat]
 have h0:uN sqW≠0:=by rw [sq_nat]; decide
 refine ⟨decide_eq_true hlt,?_,?_⟩
 ·unfold dnW worthW toW W256
  rw [if_neg h0,hq,if_pos hfit,if_pos h]
 ·unfold dnB toB W256
  rw [hq,decide_eq_true h0,decide_eq_true hfit]; rfl
theorem worthW_ok (d f m:W4):(worthW d f m).Ok:=by
 unfold worthW; split
 ·exact uOf_ok _
 ·exact u0_ok
theorem worth_not {d f m:W4} (h:goodB d f m=false):worthW d f m=(0,0,0,0):=by
 unfold worthW; rw [if_neg (by rw [h]; decide)]
theorem worth_nat {d f m:W4} (h:goodB d f m=true):uN (worthW d f m)=worthN d f m:=by
 have hw:=worth_le h
 obtain ⟨h1,_,_⟩:=good_iff.1 h
 unfold worthW
 rw [if_pos h,uN_of (by unfold M128 at *; omega)]
theorem mulW_ok (x y:W4):(mulW x y).Ok:=by
 unfold mulW; split
 ·exact uOf_ok _
 ·exact u0_ok
theorem fworth_any (d f m:W4) (hd:d.Ok) (hf:f.Ok) (hm:m.Ok) (w:World):Calls Tryz.prog 70 #[uV d,uV f,uV m] w fun e w'=>e = .returned (.tuple #[uV (worthW d f m),.bool (goodB d f m)])∧Below w.heap.size w w':=by
 have HV:=Lib.hid (VAt.vr (l:=[d,f,m]) (VAt.start w [d,f,m,(0,0,0,0)])).vp
 have HG:Hid (∀ W,VP w [d,f,m] 3 [] W→Calls Tryz.prog 131 #[uV d,uV f,uV m] W fun e w'=>e = .returned (.bool (goodB d f m))∧VP w [d,f,m] 3 [] w'):=fun W hW =>
  (fgood_any d f m hd hf hm W).mono fun e w' ⟨he,hb⟩=>⟨he,hW.below hb⟩
 have HM:Hid (∀ W,VP w [d,f,m] 3 [] W→Calls Tryz.prog 132 #[uV d,uV f] W fun e w'=>e = .returned (.tuple #[uV (mulW d f),.bool (mulB d f)])∧VP w [d,f,m] 3 [] w'):=fun W hW =>
  (umul_any d f hd hf W).mono fun e w' ⟨he,hb⟩=>⟨he,hW.below hb⟩
 have HD:Hid (∀ W,Calls Tryz.prog 103 #[uV (mulW d f),uV m,uV sqW] W fun e w'=>e = .returned (.tuple #[uV (dnW (mulW d f) m sqW),.bool (dnB (mulW d f) m sqW)])∧Below W.heap.size W w') :=
  mdn_any _ m sqW (mulW_ok d f) hm sq_ok
 have HW0:Hid (goodB d f m=false→worthW d f m=(0,0,0,0)):=worth_not
 have HW1:Hid (goodB d f m=true→mulB d f=true∧dnW (mulW d f) m sqW=worthW d f m∧dnB (mulW d f) m sqW=true):=worth_dn
 generalize worthW d f m=u at *
 generalize goodB d f m=g at *
 generalize mulW d f=x at *
 generalize mulB d f=xb at *
 generalize hv:dnW x m sqW=v at *
 generalize hvb:dnB x m sqW=vb at *
 clear hv hvb
 go_enter Tryz.func70,Tryz.ntmps70
 go_wp2_with fail
 refine Calls.mono (HG.out _ HV.out) ?_
 rintro e w3 ⟨rfl,hV3⟩
 obtain ⟨z,z0,z1,z2,z3,z4,z5,z6,z7⟩:=hV3.vr.zc
 obtain ⟨a0,a1,a2,a3,_⟩:=row4 hV3.r0
 obtain ⟨b0,b1,b2,b3,_⟩:=row4 (hV3.r 1 f rfl)
 have HV3:=Lib.hid hV3
 clear hV3 HV HG
 cases g with
 | false =>
  obtain rfl:=HW0.out rfl
  have HR:=Lib.hid (HV3.out.vr.res (0,0,0,0))
  go_wp2_with fail
  refine bodyPost_ret (results_cell_row2 rfl _ _ (w.heap.size+3) 28 (uL (0,0,0,0)) (0,0) _ rfl HR.out.2 Tryz.underlying28 rfl (by kernel_rfl)) rfl ?_
  exact ⟨rfl,HR.out.1⟩
 | true =>
  obtain ⟨rfl,rfl,rfl⟩:=HW1.out rfl
  go_wp2_with fail
  refine Calls.mono (HM.out _ HV3.out) ?_
  rintro e w4 ⟨rfl,hV4⟩
  have HV4:=Lib.hid (hV4.alloc x).drew
  clear hV4 z0 z1 z2 z3 z4 z5 z6 z7 a0 a1 a2 a3 b0 b1 b2 b3 HV3 HM HW0 HW1
  go_wp2_with fail
  go_upto_region 4 with fail
  refine wp_region_rely [[],[],[],[0,1,2],[0,1,2,3],[0,1,2,3],[0,1,2,3,4,5],[0,1,2,3,4,5,6]]
   [rgC (VP w [d,f,m] 3 [(w4.heap.size,x)]),rgV 0 (uV x),rgV 1 (uV m),rgV 2 (uV sqW),rgV 3 (.tuple #[uV v,.bool true]),rgV 4 (uV v),rgV 5 (.bool true),rgV 7 (.bool true),rgR 6 (w.heap.size+3) (v)] _ (by kernel_rfl) (by kernel_rfl) (by kernel_rfl)
   (fun vs=>by simp only [rgAct,rgPut,List.setIfInBounds_toArray,List.set_cons_zero,List.set_cons_succ]; exact rfl)
   ⟨fun _ _ _ hb h=>h.below hb,rgV_st,rgV_st,rgV_st,rgV_st,rgV_st,rgV_st,rgV_st,rgR_st,trivial⟩ ?_ ?_ ?_
  ·refine rgAll_yes rfl HV4.out ?_
   iterate 8 refine rgAll_no rfl ?_
   exact trivial
  ·refine ⟨?_,?_,?_,?_,?_,?_,?_,?_,trivial⟩
   ·rintro vs w1 ⟨hC,_⟩ K hK
    refine rg_loadU rfl rfl rfl hC.p0 (hK _ _ (.inl (Below.refl _ _)) ?_)
    exact rgNew_one 1 rfl fun _=>rfl
   ·rintro vs w1 ⟨hC,_⟩ K hK
    refine rg_loadU rfl rfl rfl (hC.r 2 m rfl) (hK _ _ (.inl (Below.refl _ _)) ?_)
    exact rgNew_one 2 rfl fun _=>rfl
   ·rintro vs w1 ⟨_,_⟩ K hK
    refine rg_fn rfl rfl rfl (by kernel_rfl) rfl (Calls.mono (square_any _) ?_)
    rintro e w2 ⟨rfl,hb⟩
    refine ⟨_,rfl,hK _ _ (.inl hb) ?_⟩
    exact rgNew_one 3 rfl fun _=>rfl
   ·rintro vs w1 ⟨_,e0,e1,e2,_⟩ K hK
    refine rg_fn rfl rfl rfl (by kernel_rfl) (show [vs 0,vs 1,vs 2]=_ from by rw [rg1 e0,rg1 e1,rg1 e2]) (Calls.mono (HD.out _) ?_)
    rintro e w2 ⟨rfl,hb⟩
    refine ⟨_,rfl,hK _ _ (.inl hb) ?_⟩
    exact rgNew_one 4 rfl fun _=>rfl
   ·rintro vs w1 ⟨_,_,_,_,e3,_⟩ K hK
    refine rg_extract rfl rfl (rg1 e3) rfl (hK _ _ (.inl (Below.refl _ _)) ?_)
    exact rgNew_one 5 rfl fun _=>rfl
   ·rintro vs w1 ⟨_,_,_,_,e3,_⟩ K hK
    refine rg_extract rfl rfl (rg1 e3) rfl (hK _ _ (.inl (Below.refl _ _)) ?_)
    exact rgNew_one 6 rfl fun _=>rfl
   ·rintro vs w1 ⟨hC,_,_,_,_,e4,_,_⟩ K hK
    refine rg_storeU rfl rfl rfl (rg1 e4) hC.vr.z.choose_spec (hK _ _ (.inr ?_) ?_)
    ·refine rgStay_yes rfl (fun hC _=>hC.put _) ?_
     iterate 6 refine rgStay_yes rfl (fun h _=>h) ?_
     iterate 2 refine rgStay_no rfl ?_
     exact trivial
    ·iterate 8 refine rgNew_no rfl ?_
     refine rgNew_yes rfl (fun _=>setRow_heap _ _ _ _ _ _ hC.vr.z.choose_spec) ?_
     exact trivial
   ·rintro vs w1 ⟨_,_,_,_,_,_,e5,_,_⟩ K hK
    refine rg_move rfl (.inr rfl) (rg1 e5) (hK _ _ (.inl (Below.refl _ _)) ?_)
    exact rgNew_one 7 rfl fun _=>rfl
  ·intro vs w1 hA
   obtain ⟨hC,e0,e1,e2,e3,e4,e5,e7,t6,_⟩:=hA
   have e0:=rg1 e0
   have e1:=rg1 e1
   have e2:=rg1 e2
   have e3:=rg1 e3
   have e4:=rg1 e4
   have e5:=rg1 e5
   have e7:=rg1 e7
   simp only [e0,e1,e2,e3,e4,e5,e7]
   have HR:=Lib.hid t6
   have HB:=Lib.hid hC.b
   go_wp2_with fail
   refine bodyPost_ret (results_cell_row2 rfl _ _ (w.heap.size+3) 28 (uL v) (0,0) _ rfl HR.out Tryz.underlying28 rfl (by kernel_rfl)) rfl ?_
   exact ⟨rfl,HB.out⟩
theorem rg_fnv {P:Program} {ops:Array Oper} {o:Oper} {a:Act} {w:World} {K:Value→World→Prop} {c:Call} {f:FuncId} {args full:List Value} {cap:Array Value} {x:Operand} (hg:Region.wanted o (yielded ops a.tmps)=true) (ho:o.op = .call c) (hc:c.callee = .value x) (hx:a.eval x = .func (.func f) #[] cap) (hf:rgFn P f=true) (ha:c.args.toList.map a.eval=args) (hfull:args ++ cap.toList=full)
  (hk:Calls P f full.toArray w fun e w'=>∃ v,e = .returned v∧K v w'):rgDo P ops o a w K:=by
 refine rg_call hg ?_ hk
 have ha':c.args.map a.eval=args.toArray:=by rw [← ha,← Array.toList_map]
 have hf':args.toArray ++ cap=full.toArray:=by rw [← hfull]; simp
 unfold execOp
 simp [ho,resolve,hc,ha',hx,Deferred.ofValue,invoke,hf',run_fn hf]
theorem rg_loadB {ops:Array Oper} {o:Oper} {a:Act} {w:World} {K:Value→World→Prop} {x:Operand} {g k:Nat} {b:Bool} (hg:Region.wanted o (yielded ops a.tmps)=true) (ho:o.op = .load 4 x) (hx:a.eval x = .pointer (some ⟨g,k,none⟩)) (hc:w.cell? ⟨g,k,none⟩=some (.bool b)) (hk:K (.bool b) w):rgDo Tryz.prog ops o a w K:=by
 refine rg_value hg ?_ hk
 unfold execOp
 simp only [ho,hx]
 go_simp
abbrev bRow (b:Bool):Obj:=.cells #[.bool b] 4
theorem bcell {w:World} {g:Nat} {b:Bool} (h:w.heap[g]? = some (bRow b)):w.cell? ⟨g,0,none⟩=some (.bool b)∧w.frozen? ⟨g,0,none⟩=false:=by
 refine ⟨?_,?_⟩
 ·rw [cell_of_row _ _ _ _ _ _ h]; rfl
 ·simp [World.frozen?,h]
theorem bset_same {w:World} {g:Nat} {b:Bool} (h:w.heap[g]? = some (bRow b)):w.setCell ⟨g,0,none⟩ (.bool b)=w:=by
 rw [setCell_eq_setRow w g 0 _ _ _ _ h]
 exact setRow_self w g _ _ _ h
theorem ftimes_any (a b:W4) (ha:a.Ok) (hb:b.Ok) (hfit:mulB a b=true) (g:Nat) (w:World) (hg:w.heap[g]? = some (bRow true)):Calls Tryz.prog 189 #[uV a,uV b,.pointer (some ⟨g,0,none⟩)] w fun e w'=>e = .returned (uV (mulW a b))∧Below w.heap.size w w':=by
 have HV:=Lib.hid (VAt.vr (l:=[a,b]) (VAt.start w [a,b,(0,0,0,0)])).vp
 have HM:Hid (∀ W,VP w [a,b] 2 [] W→Calls Tryz.prog 132 #[uV a,uV b] W fun e w'=>e = .returned (.tuple #[uV (mulW a b),.bool true])∧VP w [a,b] 2 [] w'):=fun W hW=>by
  rw [← hfit]
  exact (umul_any a b ha hb W).mono fun e w' ⟨he,hb⟩=>⟨he,hW.below hb⟩
 have HGR:Hid (∀ W,Below w.heap.size w W→W.heap[g]? = some (bRow true)):=fun W hW=>(hW.block _ (lt_of_at hg)).trans hg
 have hlt:=lt_of_at hg
 generalize mulW a b=x at *
 clear hg hfit
 go_enter Tryz.func189,Tryz.ntmps189
 go_wp2_with fail
 refine Calls.mono (HM.out _ HV.out) ?_
 rintro e w4 ⟨rfl,hV4⟩
 have hV5:=hV4.alloc x
 obtain ⟨x0,x1,x2,x3,_⟩:=row4 hV5.p0
 obtain ⟨g0,g1⟩:=bcell (HGR.out _ hV5.b)
 have hset:=bset_same (HGR.out _ hV5.b)
 obtain ⟨z,z0,z1,z2,z3,z4,z5,z6,z7⟩:=hV5.vr.zc
 have HR:=Lib.hid (hV5.vr.res x)
 clear hV4 hV5 HV HM HGR
 go_wp2_with fail
 refine bodyPost_ret (results_cell_row rfl _ _ (w.heap.size+2) 28 (uL x) (0,0) _ rfl HR.out.2 Tryz.underlying28 rfl (by kernel_rfl)) rfl ?_
 exact ⟨rfl,HR.out.1⟩
theorem fac_dn {w d m:W4} (hd:uN d < M128) (hm:uN m≤1000000000000000000):mulB d m=true ∧
  (dnB w sqW (mulW d m)=false→facB w d m=false)∧(dnW w sqW (mulW d m)=(0,0,0,0)→facB w d m=false)∧(0 < uCmp (dnW w sqW (mulW d m)) sqW→facB w d m=false) ∧
  (dnB w sqW (mulW d m)=true→dnW w sqW (mulW d m)≠(0,0,0,0)→¬ 0 < uCmp (dnW w sqW (mulW d m)) sqW→facB w d m=true∧facW w d m=dnW w sqW (mulW d m))∧(facB w d m=false→facW w d m=(0,0,0,0)):=by
 have hlt:uN d*uN m < 115792089237316195423570985008687907853269984665640564039457584007913129639936:=by
  have:uN d*uN m≤M128*1000000000000000000:=Nat.mul_le_mul (Nat.le_of_lt hd) hm
  unfold M128 at *; omega
 have hx:uN (mulW d m)=uN d*uN m:=by unfold mulW; rw [if_pos hlt,uN_of hlt]
 have hN:facN w d m=uN w*uN sqW / uN (mulW d m):=by unfold facN; rw [hx,sq_nat]
 have h5:facB w d m=false→facW w d m=(0,0,0,0):=fun h=>by unfold facW; rw [if_neg (by rw [h]; decide)]
 refine ⟨decide_eq_true hlt,?_⟩
 unfold dnB dnW
 by_cases h0:uN (mulW d m)=0
 ·have hz:facN w d m=0:=by rw [hN,h0,Nat.div_zero]
  have hf:facB w d m=false:=by unfold facB; rw [hz]; rfl
  rw [if_pos h0]
  exact ⟨fun _=>hf,fun _=>hf,fun _=>hf,fun _ h=>absurd rfl h,h5⟩
 ·rw [if_neg h0,decide_eq_true h0,Bool.true_and,← hN]
  unfold toB toW W256
  by_cases hb:facN w d m < 115792089237316195423570985008687907853269984665640564039457584007913129639936
  ·rw [if_pos hb,decide_eq_true hb]
   refine ⟨fun h=>(by cases h),fun h => ?_,fun h => ?_,fun _ h1 h2 => ?_,h5⟩
   ·have:=u0_iff.1 h
    rw [uN_of hb] at this
    unfold facB; rw [this]; rfl
   ·rw [uCmp_gt0,uN_of hb,sq_nat] at h
    unfold facB
    rw [decide_eq_false (show ¬ facN w d m≤1000000000000000000000000000000000000 by omega),Bool.and_false]
   ·rw [uCmp_gt0,uN_of hb,sq_nat] at h2
    have h1':facN w d m≠0:=fun e=>h1 (by rw [e]; rfl)
    have:facB w d m=true:=by
     unfold facB
     rw [decide_eq_true (show 0 < facN w d m by omega),decide_eq_true (show facN w d m≤1000000000000000000000000000000000000 by omega)]; rfl
    exact ⟨this,by unfold facW; rw [if_pos this]⟩
  ·rw [if_neg hb,decide_eq_false hb]
   have hf:facB w d m=false:=by
    unfold facB
    rw [decide_eq_false (show ¬ facN w d m≤1000000000000000000000000000000000000 by omega),Bool.and_false]
   exact ⟨fun _=>hf,fun _=>hf,fun _=>hf,fun h=>(by cases h),h5⟩
theorem allocs_size:∀ (l:List W4) (w:World),(allocs w l).heap.size=w.heap.size+l.length
 | [],_=>rfl
 | x :: l,w=>by rw [allocs,allocs_size l,World.size_alloc,List.length_cons]; omega
structure FcAt (w:World) (l:List W4) (wr:World):Prop where
 v:VP w l 3 [] wr
 t:wr.heap[w.heap.size+4]? = some (bRow true)
theorem FcAt.below {w wr w':World} {l:List W4} (h:FcAt w l wr) (hb:Below wr.heap.size wr w'):FcAt w l w':=⟨h.v.below hb,(hb.block _ (lt_of_at h.t)).trans h.t⟩
theorem FcAt.keep {w wr:World} {l:List W4} {q:W4} {g:Nat} (h:FcAt w l wr) (hg:w.heap.size+5≤g):FcAt w l (wr.setRow g (uL q)) :=
 ⟨⟨h.v.vr.keep (by omega),fun _ _ hx=>by cases hx⟩,(setRow_other _ _ _ _ (by omega)).trans h.t⟩
theorem FcAt.lt {w wr:World} {l:List W4} (h:FcAt w l wr):w.heap.size+4 < wr.heap.size:=lt_of_at h.t
theorem FcAt.start {w wr:World} {x y m:W4} (h:VP w [x,y,m] 3 [] wr) (hs:wr.heap.size=w.heap.size+4):FcAt w [x,y,m] (wr.alloc (bRow true)):=by
 refine ⟨h.below (bl_alloc (Below.refl _ _) _),?_⟩
 rw [← hs]; exact heap_alloc_new wr _
structure FcQ (w:World) (l:List W4) (g:Nat) (f:W4) (wr:World):Prop where
 v:VP w l 3 [(g,f)] wr
 t:wr.heap[w.heap.size+4]? = some (bRow true)
theorem FcQ.below {w wr w':World} {l:List W4} {g:Nat} {f:W4} (h:FcQ w l g f wr) (hb:Below wr.heap.size wr w'):FcQ w l g f w':=⟨h.v.below hb,(hb.block _ (lt_of_at h.t)).trans h.t⟩
theorem FcQ.p {w wr:World} {l:List W4} {g:Nat} {f:W4} (h:FcQ w l g f wr):wr.heap[g]? = some (.cells (uL f) 28 (0,0)):=h.v.p0
theorem ffac_any (x d m:W4) (hx:x.Ok) (hd:d.Ok) (hm:m.Ok) (hda:uN d < M128) (hmg:uN m≤1000000000000000000) (w:World):Calls Tryz.prog 124 #[uV x,uV d,uV m] w fun e w'=>e = .returned (.tuple #[uV (facW x d m),.bool (facB x d m)])∧Below w.heap.size w w':=by
 have hV:=VAt.vr (l:=[x,d,m]) (VAt.start w [x,d,m,(0,0,0,0)])
 have HC:=Lib.hid ((FcAt.start hV.vp (allocs_size _ _)).below (bl_drew (Below.refl _ _)))
 obtain ⟨hfit,p1,p2,p3,p4,p5⟩:=fac_dn (w:=x) hda hmg
 have HT:Hid (∀ W,FcAt w [x,d,m] W→Calls Tryz.prog 189 #[uV d,uV m,.pointer (some ⟨w.heap.size+1+1+1+1,0,none⟩)] W fun e w'=>e = .returned (uV (mulW d m))∧Below W.heap.size W w'):=fun W hW=>ftimes_any d m hd hm hfit _ W hW.t
 have HD:Hid (∀ W,Calls Tryz.prog 103 #[uV x,uV sqW,uV (mulW d m)] W fun e w'=>e = .returned (.tuple #[uV (dnW x sqW (mulW d m)),.bool (dnB x sqW (mulW d m))])∧Below W.heap.size W w'):=mdn_any x sqW _ hx sq_ok (mulW_ok d m)
 have hfo:=dnW_ok x sqW (mulW d m)
 generalize facW x d m=u at *
 generalize facB x d m=v at *
 generalize dnW x sqW (mulW d m)=f at *
 generalize dnB x sqW (mulW d m)=b at *
 generalize mulW d m=dm at *
 have HF:Hid (∀ W,Calls Tryz.prog 74 #[uV f,uV sqW] W fun e w'=>e = .returned (.int .i64 (uCmp f sqW))∧Below W.heap.size W w'):=ucmp_any f sqW hfo sq_ok
 have HP:=Lib.hid (And.intro p1 (And.intro p2 (And.intro p3 (And.intro p4 p5))))
 clear p1 p2 p3 p4 p5 hfit hda hmg hV
 go_enter Tryz.func124,Tryz.ntmps124
 go_wp2_with fail
 go_upto_region 3 with fail
 refine wp_region_rely [[],[],[],[],[],[1,2,3,4],[0,1,2,3,4,5],[0,1,2,3,4,5,6],[0,1,2,3,4,5,6,7],[0,1,2,3,4,5,6,7],[],[0,1,2,3,4,5,6,7,8,10],[0,1,2,3,4,5,6,7,8,9,10,11]]
  [rgC (FcAt w [x,d,m]),rgV 0 (uV x),rgV 1 (uV sqW),rgV 2 (.func (.func 189) #[] #[.pointer (some ⟨w.heap.size+1+1+1+1,0,none⟩)]),rgV 3 (uV d),rgV 4 (uV m),rgV 5 (uV dm),rgV 6 (.tuple #[uV f,.bool b]),rgV 7 (.tuple #[uV f,.bool b]),rgV 8 (uV f),rgV 9 (.bool b),rgP 10 (w.heap.size+5),rgV 12 (.bool b),rgS 10 11 (f)] _ (by kernel_rfl) (by kernel_rfl) (by kernel_rfl)
  (fun vs=>by simp only [rgAct,rgPut,List.setIfInBounds_toArray,List.set_cons_zero,List.set_cons_succ]; exact rfl)
  ⟨fun _ _ _ hb h=>h.below hb,rgV_st,rgV_st,rgV_st,rgV_st,rgV_st,rgV_st,rgV_st,rgV_st,rgV_st,rgV_st,rgP_st,rgV_st,rgS_st,trivial⟩ ?_ ?_ ?_
 ·refine rgAll_yes rfl HC.out ?_
  iterate 13 refine rgAll_no rfl ?_
  exact trivial
 ·refine ⟨?_,?_,?_,?_,?_,?_,?_,?_,?_,?_,?_,?_,?_,trivial⟩
  ·rintro vs w1 ⟨hC,_⟩ K hK
   refine rg_loadU rfl rfl rfl hC.v.r0 (hK _ _ (.inl (Below.refl _ _)) ?_)
   exact rgNew_one 1 rfl fun _=>rfl
  ·rintro vs w1 ⟨_,_⟩ K hK
   refine rg_fn rfl rfl rfl (by kernel_rfl) rfl (Calls.mono (square_any _) ?_)
   rintro e w2 ⟨rfl,hb⟩
   refine ⟨_,rfl,hK _ _ (.inl hb) ?_⟩
   exact rgNew_one 2 rfl fun _=>rfl
  ·rintro vs w1 ⟨_,_⟩ K hK
   refine rg_move rfl (.inl rfl) rfl (hK _ _ (.inl (Below.refl _ _)) ?_)
   exact rgNew_one 3 rfl fun _=>rfl
  ·rintro vs w1 ⟨hC,_⟩ K hK
   refine rg_loadU rfl rfl rfl (hC.v.r 1 d rfl) (hK _ _ (.inl (Below.refl _ _)) ?_)
   exact rgNew_one 4 rfl fun _=>rfl
  ·rintro vs w1 ⟨hC,_⟩ K hK
   refine rg_loadU rfl rfl rfl (hC.v.r 2 m rfl) (hK _ _ (.inl (Below.refl _ _)) ?_)
   exact rgNew_one 5 rfl fun _=>rfl
  ·rintro vs w1 ⟨hC,_,e2,e3,e4,_⟩ K hK
   refine rg_fnv (full:=[uV d,uV m,.pointer (some ⟨w.heap.size+1+1+1+1,0,none⟩)]) rfl rfl rfl (rg1 e2) (by kernel_rfl) (show [vs 3,vs 4]=_ from by rw [rg1 e3,rg1 e4]) rfl (Calls.mono (HT.out _ hC) ?_)
   rintro e w2 ⟨rfl,hb⟩
   refine ⟨_,rfl,hK _ _ (.inl hb) ?_⟩
   exact rgNew_one 6 rfl fun _=>rfl
  ·rintro vs w1 ⟨_,e0,e1,_,_,_,e5,_⟩ K hK
   refine rg_fn rfl rfl rfl (by kernel_rfl) (show [vs 0,vs 1,vs 5]=_ from by rw [rg1 e0,rg1 e1,rg1 e5]) (Calls.mono (HD.out _) ?_)
   rintro e w2 ⟨rfl,hb⟩
   refine ⟨_,rfl,hK _ _ (.inl hb) ?_⟩
   exact rgNew_one 7 rfl fun _=>rfl
  ·rintro vs w1 ⟨_,_,_,_,_,_,_,e6,_⟩ K hK
   refine rg_move rfl (.inl rfl) (rg1 e6) (hK _ _ (.inl (Below.refl _ _)) ?_)
   exact rgNew_one 8 rfl fun _=>rfl
  ·rintro vs w1 ⟨_,_,_,_,_,_,_,_,e7,_⟩ K hK
   refine rg_extract rfl rfl (rg1 e7) rfl (hK _ _ (.inl (Below.refl _ _)) ?_)
   exact rgNew_one 9 rfl fun _=>rfl
  ·rintro vs w1 ⟨_,_,_,_,_,_,_,_,e7,_⟩ K hK
   refine rg_extract rfl rfl (rg1 e7) rfl (hK _ _ (.inl (Below.refl _ _)) ?_)
   exact rgNew_one 10 rfl fun _=>rfl
  ·rintro vs w1 ⟨hC,_⟩ K hK
   refine rg_allocU rfl rfl (hK _ _ (.inl (bl_alloc (Below.refl _ _) _)) ?_)
   iterate 11 refine rgNew_no rfl ?_
   refine rgNew_yes rfl (fun _=>⟨_,_,rfl,hC.lt,heap_alloc_new _ _⟩) ?_
   iterate 2 refine rgNew_no rfl ?_
   exact trivial
  ·rintro vs w1 ⟨hC,_,_,_,_,_,_,_,_,e8,⟨_,_,e10,h10,g10⟩,_⟩ K hK
   refine rg_storeU rfl rfl (rg1 e10) (rg1 e8) g10 (hK _ _ (.inr ?_) ?_)
   ·refine rgStay_yes rfl (fun hC _=>hC.keep h10) ?_
    iterate 10 refine rgStay_yes rfl (fun h _=>h) ?_
    refine rgStay_yes rfl (fun h _=>rgP_put h) ?_
    iterate 2 refine rgStay_no rfl ?_
    exact trivial
   ·iterate 13 refine rgNew_no rfl ?_
    refine rgNew_yes rfl (fun _=>⟨_,_,by show [vs 10,undef]=_; rw [rg1 e10],setRow_heap _ _ _ _ _ _ g10⟩) ?_
    exact trivial
  ·rintro vs w1 ⟨_,_,_,_,_,_,_,_,_,_,e9,_,_,_⟩ K hK
   refine rg_move rfl (.inr rfl) (rg1 e9) (hK _ _ (.inl (Below.refl _ _)) ?_)
   exact rgNew_one 12 rfl fun _=>rfl
 ·intro vs w1 hA
  obtain ⟨hC,e0,e1,e2,e3,e4,e5,e6,e7,e8,e9,⟨p10,_,e10,h10,g10⟩,e12,s11,_⟩:=hA
  have e0:=rg1 e0
  have e1:=rg1 e1
  have e2:=rg1 e2
  have e3:=rg1 e3
  have e4:=rg1 e4
  have e5:=rg1 e5
  have e6:=rg1 e6
  have e7:=rg1 e7
  have e8:=rg1 e8
  have e9:=rg1 e9
  have e10:=rg1 e10
  have e12:=rg1 e12
  have s11:=rgS_at s11 e10
  simp only [e0,e1,e2,e3,e4,e5,e6,e7,e8,e9,e10,e12]
  have HQ:Hid (FcQ w [x,d,m] p10 f w1.drew):=⟨(hC.v.more (by omega) s11).drew,hC.t⟩
  clear e0 e1 e2 e3 e4 e5 e6 e7 e8 e9 e10 e12 g10 s11 hC HC HT HD
  cases b with
  | false =>
   have hv:=HP.out.1 rfl
   have hu:=HP.out.2.2.2.2 hv
   subst hv hu
   clear HP
   go_wp2_with fail
   go_upto_region 4 with fail
   refine wp_region_rely [[],[0],[0,1],[0,1,2],[0,1,2,3],[0,1,2,3,4],[0,1,2,3,4,5],[0,1,2,3,4,5,6],[0,1,2,3,4,5,6],[0,1,2,3,4,5,6,7,8],[0,1,2,3,4,5,6,7,8,9],[0,1,2,3,4,5,6,7,8,9,10],[0,1,2,3,4,5,6,7,8,9,10,11],[0,1,2,3,4,5,6,7,8,9,10,11],[0,1,2,3,4,5,6,7,8,9,10,11,12,13],[0,1,2,3,4,5,6,7,8,9,10,11,12,13,14],[0,1,2,3,4,5,6,7,8,9,10,11,12,13,14,15]]
    [rgC (FcQ w [x,d,m] p10 f),rgV 0 (.bool true),rgV 1 (.bool false),rgV 2 (.bool false),rgV 3 (.bool false),rgV 4 (.bool (!false)),rgV 5 (.bool (!false)),rgV 6 (.bool (!false)),rgV 7 (undef),rgV 8 (undef),rgV 9 (undef),rgV 10 (.bool true),rgV 11 (.bool true),rgV 12 (undef),rgV 13 (undef),rgV 14 (undef),rgV 15 (undef),rgV 16 (.bool true)] _ (by kernel_rfl) (by kernel_rfl) (by kernel_rfl)
    (fun vs=>by simp only [rgAct,rgPut,List.setIfInBounds_toArray,List.set_cons_zero,List.set_cons_succ]; exact rfl)
    ⟨fun _ _ _ hb h=>h.below hb,rgV_st,rgV_st,rgV_st,rgV_st,rgV_st,rgV_st,rgV_st,rgV_st,rgV_st,rgV_st,rgV_st,rgV_st,rgV_st,rgV_st,rgV_st,rgV_st,rgV_st,trivial⟩ ?_ ?_ ?_
   ·refine rgAll_yes rfl HQ.out ?_
    iterate 17 refine rgAll_no rfl ?_
    exact trivial
   ·refine ⟨?_,?_,?_,?_,?_,?_,?_,?_,?_,?_,?_,?_,?_,?_,?_,?_,?_,trivial⟩
    ·rintro vs w1 ⟨hC,_⟩ K hK
     refine rg_loadB rfl rfl rfl (bcell hC.t).1 (hK _ _ (.inl (Below.refl _ _)) ?_)
     exact rgNew_one 1 rfl fun _=>rfl
    ·rintro vs w1 ⟨_,e0,_⟩ K hK
     refine rg_not rfl rfl (rg1 e0) (hK _ _ (.inl (Below.refl _ _)) ?_)
     exact rgNew_one 2 rfl fun _=>rfl
    ·rintro vs w1 ⟨_,_,e1,_⟩ K hK
     refine rg_move rfl (.inl rfl) (rg1 e1) (hK _ _ (.inl (Below.refl _ _)) ?_)
     exact rgNew_one 3 rfl fun _=>rfl
    ·rintro vs w1 ⟨_,_,_,e2,_⟩ K hK
     refine rg_move (rg_wanted rfl rfl rfl (rg1 e2)) (.inl rfl) rfl (hK _ _ (.inl (Below.refl _ _)) ?_)
     exact rgNew_one 4 rfl fun _=>rfl
    ·rintro vs w1 ⟨_,_,_,e2,e3,_⟩ K hK
     refine rg_not (rg_wanted rfl rfl rfl (rg1 e2)) rfl (rg1 e3) (hK _ _ (.inl (Below.refl _ _)) ?_)
     exact rgNew_one 5 rfl fun _=>rfl
    ·rintro vs w1 ⟨_,_,_,e2,_,e4,_⟩ K hK
     refine rg_pick rfl rfl (rg1 e2) (rg1 e4) (hK _ _ (.inl (Below.refl _ _)) ?_)
     exact rgNew_one 6 rfl fun _=>rfl
    ·rintro vs w1 ⟨_,_,_,_,_,_,e5,_⟩ K hK
     refine rg_move rfl (.inl rfl) (rg1 e5) (hK _ _ (.inl (Below.refl _ _)) ?_)
     exact rgNew_one 7 rfl fun _=>rfl
    ·rintro vs w1 ⟨_,_,_,_,_,_,_,e6,_⟩ K hK
     refine rg_out (rg_unwanted rfl rfl rfl (rg1 e6) rfl) (hK _ _ (.inl (Below.refl _ _)) ?_)
     exact rgNew_one 8 rfl fun _=>rfl
    ·rintro vs w1 ⟨_,_,_,_,_,_,_,e6,_⟩ K hK
     refine rg_out (rg_unwanted rfl rfl rfl (rg1 e6) rfl) (hK _ _ (.inl (Below.refl _ _)) ?_)
     exact rgNew_one 9 rfl fun _=>rfl
    ·rintro vs w1 ⟨_,_,_,_,_,_,_,e6,_,_,_⟩ K hK
     refine rg_out (rg_unwanted rfl rfl rfl (rg1 e6) rfl) (hK _ _ (.inl (Below.refl _ _)) ?_)
     exact rgNew_one 10 rfl fun _=>rfl
    ·rintro vs w1 ⟨_,_,_,_,_,_,_,e6,_,_,_,_⟩ K hK
     refine rg_pick rfl rfl (rg1 e6) rfl (hK _ _ (.inl (Below.refl _ _)) ?_)
     exact rgNew_one 11 rfl fun _=>rfl
    ·rintro vs w1 ⟨_,_,_,_,_,_,_,_,_,_,_,e10,_⟩ K hK
     refine rg_move rfl (.inl rfl) (rg1 e10) (hK _ _ (.inl (Below.refl _ _)) ?_)
     exact rgNew_one 12 rfl fun _=>rfl
    ·rintro vs w1 ⟨_,_,_,_,_,_,_,_,_,_,_,_,e11,_⟩ K hK
     refine rg_out (rg_unwanted rfl rfl rfl (rg1 e11) rfl) (hK _ _ (.inl (Below.refl _ _)) ?_)
     exact rgNew_one 13 rfl fun _=>rfl
    ·rintro vs w1 ⟨_,_,_,_,_,_,_,_,_,_,_,_,e11,_⟩ K hK
     refine rg_out (rg_unwanted rfl rfl rfl (rg1 e11) rfl) (hK _ _ (.inl (Below.refl _ _)) ?_)
     exact rgNew_one 14 rfl fun _=>rfl
    ·rintro vs w1 ⟨_,_,_,_,_,_,_,_,_,_,_,_,e11,_,_,_⟩ K hK
     refine rg_out (rg_unwanted rfl rfl rfl (rg1 e11) rfl) (hK _ _ (.inl (Below.refl _ _)) ?_)
     exact rgNew_one 15 rfl fun _=>rfl
    ·rintro vs w1 ⟨_,_,_,_,_,_,_,_,_,_,_,_,e11,_,_,_,_⟩ K hK
     refine rg_out (rg_unwanted rfl rfl rfl (rg1 e11) rfl) (hK _ _ (.inl (Below.refl _ _)) ?_)
     exact rgNew_one 16 rfl fun _=>rfl
    ·rintro vs w1 ⟨_,_,_,_,_,_,_,_,_,_,_,_,e11,_,_,_,_,_⟩ K hK
     refine rg_pick rfl rfl (rg1 e11) rfl (hK _ _ (.inl (Below.refl _ _)) ?_)
     exact rgNew_one 17 rfl fun _=>rfl
   ·intro vs w1 hA
    obtain ⟨hC,e0,e1,e2,e3,e4,e5,e6,e7,e8,e9,e10,e11,e12,e13,e14,e15,e16,_⟩:=hA
    have e0:=rg1 e0
    have e1:=rg1 e1
    have e2:=rg1 e2
    have e3:=rg1 e3
    have e4:=rg1 e4
    have e5:=rg1 e5
    have e6:=rg1 e6
    have e7:=rg1 e7
    have e8:=rg1 e8
    have e9:=rg1 e9
    have e10:=rg1 e10
    have e11:=rg1 e11
    have e12:=rg1 e12
    have e13:=rg1 e13
    have e14:=rg1 e14
    have e15:=rg1 e15
    have e16:=rg1 e16
    simp only [e0,e1,e2,e3,e4,e5,e6,e7,e8,e9,e10,e11,e12,e13,e14,e15,e16]
    have HR:=Lib.hid (hC.v.vr.res (0,0,0,0))
    obtain ⟨z,z0,z1,z2,z3,z4,z5,z6,z7⟩:=hC.v.vr.zc
    clear hC
    go_wp2_with fail
    refine bodyPost_ret (results_cell_row2 rfl _ _ (w.heap.size+3) 28 (uL (0,0,0,0)) (0,0) _ rfl HR.out.2 Tryz.underlying28 rfl (by kernel_rfl)) rfl ?_
    exact ⟨rfl,HR.out.1⟩
  | true =>
   by_cases hz:f=(0,0,0,0)
   ·have hv:=HP.out.2.1 hz
    have hu:=HP.out.2.2.2.2 hv
    have hz0:=decide_eq_true hz
    subst hv hu
    clear HP
    go_wp2_with fail
    go_upto_region 4 with fail
    refine wp_region_rely [[],[0],[0,1],[0,1,2],[0,1,2,3],[0,1,2,3,4],[0,1,2,3,4,5],[0,1,2,3,4,5,6],[0,1,2,3,4,5,6],[0,1,2,3,4,5,6,7,8],[0,1,2,3,4,5,6,7,8,9],[0,1,2,3,4,5,6,7,8,9,10],[0,1,2,3,4,5,6,7,8,9,10,11],[0,1,2,3,4,5,6,7,8,9,10,11],[0,1,2,3,4,5,6,7,8,9,10,11,12,13],[0,1,2,3,4,5,6,7,8,9,10,11,12,13,14],[0,1,2,3,4,5,6,7,8,9,10,11,12,13,14,15]]
     [rgC (FcQ w [x,d,m] p10 f),rgV 0 (.bool true),rgV 1 (.bool false),rgV 2 (.bool false),rgV 3 (.bool true),rgV 4 (.bool (!true)),rgV 5 (.bool (!true)),rgV 6 (.bool (!true)),rgV 7 (uV f),rgV 8 (uV (0,0,0,0)),rgV 9 (.bool true),rgV 10 (.bool true),rgV 11 (.bool true),rgV 12 (undef),rgV 13 (undef),rgV 14 (undef),rgV 15 (undef),rgV 16 (.bool true)] _ (by kernel_rfl) (by kernel_rfl) (by kernel_rfl)
     (fun vs=>by simp only [rgAct,rgPut,List.setIfInBounds_toArray,List.set_cons_zero,List.set_cons_succ]; exact rfl)
     ⟨fun _ _ _ hb h=>h.below hb,rgV_st,rgV_st,rgV_st,rgV_st,rgV_st,rgV_st,rgV_st,rgV_st,rgV_st,rgV_st,rgV_st,rgV_st,rgV_st,rgV_st,rgV_st,rgV_st,rgV_st,trivial⟩ ?_ ?_ ?_
    ·refine rgAll_yes rfl HQ.out ?_
     iterate 17 refine rgAll_no rfl ?_
     exact trivial
    ·refine ⟨?_,?_,?_,?_,?_,?_,?_,?_,?_,?_,?_,?_,?_,?_,?_,?_,?_,trivial⟩
     ·rintro vs w1 ⟨hC,_⟩ K hK
      refine rg_loadB rfl rfl rfl (bcell hC.t).1 (hK _ _ (.inl (Below.refl _ _)) ?_)
      exact rgNew_one 1 rfl fun _=>rfl
     ·rintro vs w1 ⟨_,e0,_⟩ K hK
      refine rg_not rfl rfl (rg1 e0) (hK _ _ (.inl (Below.refl _ _)) ?_)
      exact rgNew_one 2 rfl fun _=>rfl
     ·rintro vs w1 ⟨_,_,e1,_⟩ K hK
      refine rg_move rfl (.inl rfl) (rg1 e1) (hK _ _ (.inl (Below.refl _ _)) ?_)
      exact rgNew_one 3 rfl fun _=>rfl
     ·rintro vs w1 ⟨_,_,_,e2,_⟩ K hK
      refine rg_move (rg_wanted rfl rfl rfl (rg1 e2)) (.inl rfl) rfl (hK _ _ (.inl (Below.refl _ _)) ?_)
      exact rgNew_one 4 rfl fun _=>rfl
     ·rintro vs w1 ⟨_,_,_,e2,e3,_⟩ K hK
      refine rg_not (rg_wanted rfl rfl rfl (rg1 e2)) rfl (rg1 e3) (hK _ _ (.inl (Below.refl _ _)) ?_)
      exact rgNew_one 5 rfl fun _=>rfl
     ·rintro vs w1 ⟨_,_,_,e2,_,e4,_⟩ K hK
      refine rg_pick rfl rfl (rg1 e2) (rg1 e4) (hK _ _ (.inl (Below.refl _ _)) ?_)
      exact rgNew_one 6 rfl fun _=>rfl
     ·rintro vs w1 ⟨_,_,_,_,_,_,e5,_⟩ K hK
      refine rg_move rfl (.inl rfl) (rg1 e5) (hK _ _ (.inl (Below.refl _ _)) ?_)
      exact rgNew_one 7 rfl fun _=>rfl
     ·rintro vs w1 ⟨hC,_,_,_,_,_,_,e6,_⟩ K hK
      refine rg_loadU (rg_wanted rfl rfl rfl (rg1 e6)) rfl rfl hC.p (hK _ _ (.inl (Below.refl _ _)) ?_)
      exact rgNew_one 8 rfl fun _=>rfl
     ·rintro vs w1 ⟨_,_,_,_,_,_,_,e6,_⟩ K hK
      refine rg_build0 (rg_wanted rfl rfl rfl (rg1 e6)) rfl (hK _ _ (.inl (Below.refl _ _)) ?_)
      exact rgNew_one 9 rfl fun _=>rfl
     ·rintro vs w1 ⟨_,_,_,_,_,_,_,e6,e7,e8,_⟩ K hK
      refine rg_eqlU (rg_wanted rfl rfl rfl (rg1 e6)) rfl (rg1 e7) (rg1 e8) hz0 (hK _ _ (.inl (Below.refl _ _)) ?_)
      exact rgNew_one 10 rfl fun _=>rfl
     ·rintro vs w1 ⟨_,_,_,_,_,_,_,e6,_,_,e9,_⟩ K hK
      refine rg_pick rfl rfl (rg1 e6) (rg1 e9) (hK _ _ (.inl (Below.refl _ _)) ?_)
      exact rgNew_one 11 rfl fun _=>rfl
     ·rintro vs w1 ⟨_,_,_,_,_,_,_,_,_,_,_,e10,_⟩ K hK
      refine rg_move rfl (.inl rfl) (rg1 e10) (hK _ _ (.inl (Below.refl _ _)) ?_)
      exact rgNew_one 12 rfl fun _=>rfl
     ·rintro vs w1 ⟨_,_,_,_,_,_,_,_,_,_,_,_,e11,_⟩ K hK
      refine rg_out (rg_unwanted rfl rfl rfl (rg1 e11) rfl) (hK _ _ (.inl (Below.refl _ _)) ?_)
      exact rgNew_one 13 rfl fun _=>rfl
     ·rintro vs w1 ⟨_,_,_,_,_,_,_,_,_,_,_,_,e11,_⟩ K hK
      refine rg_out (rg_unwanted rfl rfl rfl (rg1 e11) rfl) (hK _ _ (.inl (Below.refl _ _)) ?_)
      exact rgNew_one 14 rfl fun _=>rfl
     ·rintro vs w1 ⟨_,_,_,_,_,_,_,_,_,_,_,_,e11,_,_,_⟩ K hK
      refine rg_out (rg_unwanted rfl rfl rfl (rg1 e11) rfl) (hK _ _ (.inl (Below.refl _ _)) ?_)
      exact rgNew_one 15 rfl fun _=>rfl
     ·rintro vs w1 ⟨_,_,_,_,_,_,_,_,_,_,_,_,e11,_,_,_,_⟩ K hK
      refine rg_out (rg_unwanted rfl rfl rfl (rg1 e11) rfl) (hK _ _ (.inl (Below.refl _ _)) ?_)
      exact rgNew_one 16 rfl fun _=>rfl
     ·rintro vs w1 ⟨_,_,_,_,_,_,_,_,_,_,_,_,e11,_,_,_,_,_⟩ K hK
      refine rg_pick rfl rfl (rg1 e11) rfl (hK _ _ (.inl (Below.refl _ _)) ?_)
      exact rgNew_one 17 rfl fun _=>rfl
    ·intro vs w1 hA
     obtain ⟨hC,e0,e1,e2,e3,e4,e5,e6,e7,e8,e9,e10,e11,e12,e13,e14,e15,e16,_⟩:=hA
     have e0:=rg1 e0
     have e1:=rg1 e1
     have e2:=rg1 e2
     have e3:=rg1 e3
     have e4:=rg1 e4
     have e5:=rg1 e5
     have e6:=rg1 e6
     have e7:=rg1 e7
     have e8:=rg1 e8
     have e9:=rg1 e9
     have e10:=rg1 e10
     have e11:=rg1 e11
     have e12:=rg1 e12
     have e13:=rg1 e13
     have e14:=rg1 e14
     have e15:=rg1 e15
     have e16:=rg1 e16
     simp only [e0,e1,e2,e3,e4,e5,e6,e7,e8,e9,e10,e11,e12,e13,e14,e15,e16]
     have HR:=Lib.hid (hC.v.vr.res (0,0,0,0))
     obtain ⟨z,z0,z1,z2,z3,z4,z5,z6,z7⟩:=hC.v.vr.zc
     clear hC
     go_wp2_with fail
     refine bodyPost_ret (results_cell_row2 rfl _ _ (w.heap.size+3) 28 (uL (0,0,0,0)) (0,0) _ rfl HR.out.2 Tryz.underlying28 rfl (by kernel_rfl)) rfl ?_
     exact ⟨rfl,HR.out.1⟩
   ·have hz0:=decide_eq_false hz
    by_cases hgt:0 < uCmp f sqW
    ·have hv:=HP.out.2.2.1 hgt
     have hu:=HP.out.2.2.2.2 hv
     have hc:=decide_eq_true hgt
     subst hv hu
     clear HP
     go_wp2_with fail
     go_upto_region 4 with fail
     refine wp_region_rely [[],[0],[0,1],[0,1,2],[0,1,2,3],[0,1,2,3,4],[0,1,2,3,4,5],[0,1,2,3,4,5,6],[0,1,2,3,4,5,6],[0,1,2,3,4,5,6,7,8],[0,1,2,3,4,5,6,7,8,9],[0,1,2,3,4,5,6,7,8,9,10],[0,1,2,3,4,5,6,7,8,9,10,11],[0,1,2,3,4,5,6,7,8,9,10,11],[0,1,2,3,4,5,6,7,8,9,10,11,12,13],[0,1,2,3,4,5,6,7,8,9,10,11,12,13,14],[0,1,2,3,4,5,6,7,8,9,10,11,12,13,14,15]]
      [rgC (FcQ w [x,d,m] p10 f),rgV 0 (.bool true),rgV 1 (.bool false),rgV 2 (.bool false),rgV 3 (.bool true),rgV 4 (.bool (!true)),rgV 5 (.bool (!true)),rgV 6 (.bool (!true)),rgV 7 (uV f),rgV 8 (uV (0,0,0,0)),rgV 9 (.bool false),rgV 10 (.bool false),rgV 11 (.bool false),rgV 12 (uV f),rgV 13 (uV sqW),rgV 14 (.int .i64 (uCmp f sqW)),rgV 15 (.bool true),rgV 16 (.bool true)] _ (by kernel_rfl) (by kernel_rfl) (by kernel_rfl)
      (fun vs=>by simp only [rgAct,rgPut,List.setIfInBounds_toArray,List.set_cons_zero,List.set_cons_succ]; exact rfl)
      ⟨fun _ _ _ hb h=>h.below hb,rgV_st,rgV_st,rgV_st,rgV_st,rgV_st,rgV_st,rgV_st,rgV_st,rgV_st,rgV_st,rgV_st,rgV_st,rgV_st,rgV_st,rgV_st,rgV_st,rgV_st,trivial⟩ ?_ ?_ ?_
     ·refine rgAll_yes rfl HQ.out ?_
      iterate 17 refine rgAll_no rfl ?_
      exact trivial
     ·refine ⟨?_,?_,?_,?_,?_,?_,?_,?_,?_,?_,?_,?_,?_,?_,?_,?_,?_,trivial⟩
      ·rintro vs w1 ⟨hC,_⟩ K hK
       refine rg_loadB rfl rfl rfl (bcell hC.t).1 (hK _ _ (.inl (Below.refl _ _)) ?_)
       exact rgNew_one 1 rfl fun _=>rfl
      ·rintro vs w1 ⟨_,e0,_⟩ K hK
       refine rg_not rfl rfl (rg1 e0) (hK _ _ (.inl (Below.refl _ _)) ?_)
       exact rgNew_one 2 rfl fun _=>rfl
      ·rintro vs w1 ⟨_,_,e1,_⟩ K hK
       refine rg_move rfl (.inl rfl) (rg1 e1) (hK _ _ (.inl (Below.refl _ _)) ?_)
       exact rgNew_one 3 rfl fun _=>rfl
      ·rintro vs w1 ⟨_,_,_,e2,_⟩ K hK
       refine rg_move (rg_wanted rfl rfl rfl (rg1 e2)) (.inl rfl) rfl (hK _ _ (.inl (Below.refl _ _)) ?_)
       exact rgNew_one 4 rfl fun _=>rfl
      ·rintro vs w1 ⟨_,_,_,e2,e3,_⟩ K hK
       refine rg_not (rg_wanted rfl rfl rfl (rg1 e2)) rfl (rg1 e3) (hK _ _ (.inl (Below.refl _ _)) ?_)
       exact rgNew_one 5 rfl fun _=>rfl
      ·rintro vs w1 ⟨_,_,_,e2,_,e4,_⟩ K hK
       refine rg_pick rfl rfl (rg1 e2) (rg1 e4) (hK _ _ (.inl (Below.refl _ _)) ?_)
       exact rgNew_one 6 rfl fun _=>rfl
      ·rintro vs w1 ⟨_,_,_,_,_,_,e5,_⟩ K hK
       refine rg_move rfl (.inl rfl) (rg1 e5) (hK _ _ (.inl (Below.refl _ _)) ?_)
       exact rgNew_one 7 rfl fun _=>rfl
      ·rintro vs w1 ⟨hC,_,_,_,_,_,_,e6,_⟩ K hK
       refine rg_loadU (rg_wanted rfl rfl rfl (rg1 e6)) rfl rfl hC.p (hK _ _ (.inl (Below.refl _ _)) ?_)
       exact rgNew_one 8 rfl fun _=>rfl
      ·rintro vs w1 ⟨_,_,_,_,_,_,_,e6,_⟩ K hK
       refine rg_build0 (rg_wanted rfl rfl rfl (rg1 e6)) rfl (hK _ _ (.inl (Below.refl _ _)) ?_)
       exact rgNew_one 9 rfl fun _=>rfl
      ·rintro vs w1 ⟨_,_,_,_,_,_,_,e6,e7,e8,_⟩ K hK
       refine rg_eqlU (rg_wanted rfl rfl rfl (rg1 e6)) rfl (rg1 e7) (rg1 e8) hz0 (hK _ _ (.inl (Below.refl _ _)) ?_)
       exact rgNew_one 10 rfl fun _=>rfl
      ·rintro vs w1 ⟨_,_,_,_,_,_,_,e6,_,_,e9,_⟩ K hK
       refine rg_pick rfl rfl (rg1 e6) (rg1 e9) (hK _ _ (.inl (Below.refl _ _)) ?_)
       exact rgNew_one 11 rfl fun _=>rfl
      ·rintro vs w1 ⟨_,_,_,_,_,_,_,_,_,_,_,e10,_⟩ K hK
       refine rg_move rfl (.inl rfl) (rg1 e10) (hK _ _ (.inl (Below.refl _ _)) ?_)
       exact rgNew_one 12 rfl fun _=>rfl
      ·rintro vs w1 ⟨hC,_,_,_,_,_,_,_,_,_,_,_,e11,_⟩ K hK
       refine rg_loadU (rg_wanted rfl rfl rfl (rg1 e11)) rfl rfl hC.p (hK _ _ (.inl (Below.refl _ _)) ?_)
       exact rgNew_one 13 rfl fun _=>rfl
      ·rintro vs w1 ⟨_,_,_,_,_,_,_,_,_,_,_,_,e11,_⟩ K hK
       refine rg_fn (rg_wanted rfl rfl rfl (rg1 e11)) rfl rfl (by kernel_rfl) rfl (Calls.mono (square_any _) ?_)
       rintro e w2 ⟨rfl,hb⟩
       refine ⟨_,rfl,hK _ _ (.inl hb) ?_⟩
       exact rgNew_one 14 rfl fun _=>rfl
      ·rintro vs w1 ⟨_,_,_,_,_,_,_,_,_,_,_,_,e11,e12,e13,_⟩ K hK
       refine rg_fn (rg_wanted rfl rfl rfl (rg1 e11)) rfl rfl (by kernel_rfl) (show [vs 12,vs 13]=_ from by rw [rg1 e12,rg1 e13]) (Calls.mono (HF.out _) ?_)
       rintro e w2 ⟨rfl,hb⟩
       refine ⟨_,rfl,hK _ _ (.inl hb) ?_⟩
       exact rgNew_one 15 rfl fun _=>rfl
      ·rintro vs w1 ⟨_,_,_,_,_,_,_,_,_,_,_,_,e11,_,_,e14,_⟩ K hK
       refine rg_gtr0 (rg_wanted rfl rfl rfl (rg1 e11)) rfl (rg1 e14) hc (hK _ _ (.inl (Below.refl _ _)) ?_)
       exact rgNew_one 16 rfl fun _=>rfl
      ·rintro vs w1 ⟨_,_,_,_,_,_,_,_,_,_,_,_,e11,_,_,_,e15,_⟩ K hK
       refine rg_pick rfl rfl (rg1 e11) (rg1 e15) (hK _ _ (.inl (Below.refl _ _)) ?_)
       exact rgNew_one 17 rfl fun _=>rfl
     ·intro vs w1 hA
      obtain ⟨hC,e0,e1,e2,e3,e4,e5,e6,e7,e8,e9,e10,e11,e12,e13,e14,e15,e16,_⟩:=hA
      have e0:=rg1 e0
      have e1:=rg1 e1
      have e2:=rg1 e2
      have e3:=rg1 e3
      have e4:=rg1 e4
      have e5:=rg1 e5
      have e6:=rg1 e6
      have e7:=rg1 e7
      have e8:=rg1 e8
      have e9:=rg1 e9
      have e10:=rg1 e10
      have e11:=rg1 e11
      have e12:=rg1 e12
      have e13:=rg1 e13
      have e14:=rg1 e14
      have e15:=rg1 e15
      have e16:=rg1 e16
      simp only [e0,e1,e2,e3,e4,e5,e6,e7,e8,e9,e10,e11,e12,e13,e14,e15,e16]
      have HR:=Lib.hid (hC.v.vr.res (0,0,0,0))
      obtain ⟨z,z0,z1,z2,z3,z4,z5,z6,z7⟩:=hC.v.vr.zc
      clear hC
      go_wp2_with fail
      refine bodyPost_ret (results_cell_row2 rfl _ _ (w.heap.size+3) 28 (uL (0,0,0,0)) (0,0) _ rfl HR.out.2 Tryz.underlying28 rfl (by kernel_rfl)) rfl ?_
      exact ⟨rfl,HR.out.1⟩
    ·obtain ⟨hv,hu⟩:=HP.out.2.2.2.1 rfl hz (Int.not_lt.1 hgt)
     have hc:=decide_eq_false hgt
     obtain rfl:=hv
     obtain rfl:=hu.symm
     clear HP
     go_wp2_with fail
     go_upto_region 4 with fail
     refine wp_region_rely [[],[0],[0,1],[0,1,2],[0,1,2,3],[0,1,2,3,4],[0,1,2,3,4,5],[0,1,2,3,4,5,6],[0,1,2,3,4,5,6],[0,1,2,3,4,5,6,7,8],[0,1,2,3,4,5,6,7,8,9],[0,1,2,3,4,5,6,7,8,9,10],[0,1,2,3,4,5,6,7,8,9,10,11],[0,1,2,3,4,5,6,7,8,9,10,11],[0,1,2,3,4,5,6,7,8,9,10,11,12,13],[0,1,2,3,4,5,6,7,8,9,10,11,12,13,14],[0,1,2,3,4,5,6,7,8,9,10,11,12,13,14,15]]
      [rgC (FcQ w [x,d,m] p10 f),rgV 0 (.bool true),rgV 1 (.bool false),rgV 2 (.bool false),rgV 3 (.bool true),rgV 4 (.bool (!true)),rgV 5 (.bool (!true)),rgV 6 (.bool (!true)),rgV 7 (uV f),rgV 8 (uV (0,0,0,0)),rgV 9 (.bool false),rgV 10 (.bool false),rgV 11 (.bool false),rgV 12 (uV f),rgV 13 (uV sqW),rgV 14 (.int .i64 (uCmp f sqW)),rgV 15 (.bool false),rgV 16 (.bool false)] _ (by kernel_rfl) (by kernel_rfl) (by kernel_rfl)
      (fun vs=>by simp only [rgAct,rgPut,List.setIfInBounds_toArray,List.set_cons_zero,List.set_cons_succ]; exact rfl)
      ⟨fun _ _ _ hb h=>h.below hb,rgV_st,rgV_st,rgV_st,rgV_st,rgV_st,rgV_st,rgV_st,rgV_st,rgV_st,rgV_st,rgV_st,rgV_st,rgV_st,rgV_st,rgV_st,rgV_st,rgV_st,trivial⟩ ?_ ?_ ?_
     ·refine rgAll_yes rfl HQ.out ?_
      iterate 17 refine rgAll_no rfl ?_
      exact trivial
     ·refine ⟨?_,?_,?_,?_,?_,?_,?_,?_,?_,?_,?_,?_,?_,?_,?_,?_,?_,trivial⟩
      ·rintro vs w1 ⟨hC,_⟩ K hK
       refine rg_loadB rfl rfl rfl (bcell hC.t).1 (hK _ _ (.inl (Below.refl _ _)) ?_)
       exact rgNew_one 1 rfl fun _=>rfl
      ·rintro vs w1 ⟨_,e0,_⟩ K hK
       refine rg_not rfl rfl (rg1 e0) (hK _ _ (.inl (Below.refl _ _)) ?_)
       exact rgNew_one 2 rfl fun _=>rfl
      ·rintro vs w1 ⟨_,_,e1,_⟩ K hK
       refine rg_move rfl (.inl rfl) (rg1 e1) (hK _ _ (.inl (Below.refl _ _)) ?_)
       exact rgNew_one 3 rfl fun _=>rfl
      ·rintro vs w1 ⟨_,_,_,e2,_⟩ K hK
       refine rg_move (rg_wanted rfl rfl rfl (rg1 e2)) (.inl rfl) rfl (hK _ _ (.inl (Below.refl _ _)) ?_)
       exact rgNew_one 4 rfl fun _=>rfl
      ·rintro vs w1 ⟨_,_,_,e2,e3,_⟩ K hK
       refine rg_not (rg_wanted rfl rfl rfl (rg1 e2)) rfl (rg1 e3) (hK _ _ (.inl (Below.refl _ _)) ?_)
       exact rgNew_one 5 rfl fun _=>rfl
      ·rintro vs w1 ⟨_,_,_,e2,_,e4,_⟩ K hK
       refine rg_pick rfl rfl (rg1 e2) (rg1 e4) (hK _ _ (.inl (Below.refl _ _)) ?_)
       exact rgNew_one 6 rfl fun _=>rfl
      ·rintro vs w1 ⟨_,_,_,_,_,_,e5,_⟩ K hK
       refine rg_move rfl (.inl rfl) (rg1 e5) (hK _ _ (.inl (Below.refl _ _)) ?_)
       exact rgNew_one 7 rfl fun _=>rfl
      ·rintro vs w1 ⟨hC,_,_,_,_,_,_,e6,_⟩ K hK
       refine rg_loadU (rg_wanted rfl rfl rfl (rg1 e6)) rfl rfl hC.p (hK _ _ (.inl (Below.refl _ _)) ?_)
       exact rgNew_one 8 rfl fun _=>rfl
      ·rintro vs w1 ⟨_,_,_,_,_,_,_,e6,_⟩ K hK
       refine rg_build0 (rg_wanted rfl rfl rfl (rg1 e6)) rfl (hK _ _ (.inl (Below.refl _ _)) ?_)
       exact rgNew_one 9 rfl fun _=>rfl
      ·rintro vs w1 ⟨_,_,_,_,_,_,_,e6,e7,e8,_⟩ K hK
       refine rg_eqlU (rg_wanted rfl rfl rfl (rg1 e6)) rfl (rg1 e7) (rg1 e8) hz0 (hK _ _ (.inl (Below.refl _ _)) ?_)
       exact rgNew_one 10 rfl fun _=>rfl
      ·rintro vs w1 ⟨_,_,_,_,_,_,_,e6,_,_,e9,_⟩ K hK
       refine rg_pick rfl rfl (rg1 e6) (rg1 e9) (hK _ _ (.inl (Below.refl _ _)) ?_)
       exact rgNew_one 11 rfl fun _=>rfl
      ·rintro vs w1 ⟨_,_,_,_,_,_,_,_,_,_,_,e10,_⟩ K hK
       refine rg_move rfl (.inl rfl) (rg1 e10) (hK _ _ (.inl (Below.refl _ _)) ?_)
       exact rgNew_one 12 rfl fun _=>rfl
      ·rintro vs w1 ⟨hC,_,_,_,_,_,_,_,_,_,_,_,e11,_⟩ K hK
       refine rg_loadU (rg_wanted rfl rfl rfl (rg1 e11)) rfl rfl hC.p (hK _ _ (.inl (Below.refl _ _)) ?_)
       exact rgNew_one 13 rfl fun _=>rfl
      ·rintro vs w1 ⟨_,_,_,_,_,_,_,_,_,_,_,_,e11,_⟩ K hK
       refine rg_fn (rg_wanted rfl rfl rfl (rg1 e11)) rfl rfl (by kernel_rfl) rfl (Calls.mono (square_any _) ?_)
       rintro e w2 ⟨rfl,hb⟩
       refine ⟨_,rfl,hK _ _ (.inl hb) ?_⟩
       exact rgNew_one 14 rfl fun _=>rfl
      ·rintro vs w1 ⟨_,_,_,_,_,_,_,_,_,_,_,_,e11,e12,e13,_⟩ K hK
       refine rg_fn (rg_wanted rfl rfl rfl (rg1 e11)) rfl rfl (by kernel_rfl) (show [vs 12,vs 13]=_ from by rw [rg1 e12,rg1 e13]) (Calls.mono (HF.out _) ?_)
       rintro e w2 ⟨rfl,hb⟩
       refine ⟨_,rfl,hK _ _ (.inl hb) ?_⟩
       exact rgNew_one 15 rfl fun _=>rfl
      ·rintro vs w1 ⟨_,_,_,_,_,_,_,_,_,_,_,_,e11,_,_,e14,_⟩ K hK
       refine rg_gtr0 (rg_wanted rfl rfl rfl (rg1 e11)) rfl (rg1 e14) hc (hK _ _ (.inl (Below.refl _ _)) ?_)
       exact rgNew_one 16 rfl fun _=>rfl
      ·rintro vs w1 ⟨_,_,_,_,_,_,_,_,_,_,_,_,e11,_,_,_,e15,_⟩ K hK
       refine rg_pick rfl rfl (rg1 e11) (rg1 e15) (hK _ _ (.inl (Below.refl _ _)) ?_)
       exact rgNew_one 17 rfl fun _=>rfl
     ·intro vs w1 hA
      obtain ⟨hC,e0,e1,e2,e3,e4,e5,e6,e7,e8,e9,e10,e11,e12,e13,e14,e15,e16,_⟩:=hA
      have e0:=rg1 e0
      have e1:=rg1 e1
      have e2:=rg1 e2
      have e3:=rg1 e3
      have e4:=rg1 e4
      have e5:=rg1 e5
      have e6:=rg1 e6
      have e7:=rg1 e7
      have e8:=rg1 e8
      have e9:=rg1 e9
      have e10:=rg1 e10
      have e11:=rg1 e11
      have e12:=rg1 e12
      have e13:=rg1 e13
      have e14:=rg1 e14
      have e15:=rg1 e15
      have e16:=rg1 e16
      simp only [e0,e1,e2,e3,e4,e5,e6,e7,e8,e9,e10,e11,e12,e13,e14,e15,e16]
      have HR:=Lib.hid (hC.v.vr.res f)
      obtain ⟨z,z0,z1,z2,z3,z4,z5,z6,z7⟩:=hC.v.vr.zc
      obtain ⟨f0,f1,f2,f3,_⟩:=row4 hC.p
      clear hC
      go_wp2_with fail
      refine bodyPost_ret (results_cell_row2 rfl _ _ (w.heap.size+3) 28 (uL f) (0,0) _ rfl HR.out.2 Tryz.underlying28 rfl (by kernel_rfl)) rfl ?_
      exact ⟨rfl,HR.out.1⟩
end Go.Proofs.YtpojljieakdgiaaGreat
