/- What is proved here: alloc.Modify, over a store behind a handle. Conditions: ints below 2^63, words below 2^64, sizes. alloc.Sum where no store was made. Its condition: ints below 2^63. inside a fence, a load may be taken first where the region's other operations keep what it reads: the kit's law for calls (Derived.OrdersHeld), turned to a fence by its own law's moves (Derived.OrdersIn). No program's function is named -/
import Derived.Test.YtnkilceibkkjlaaGreatIAlI
import Derived.Test.YtnkilceibkkjlaaGreatIUndG
import Derived.Test.YtnkilceibkkjlaaGreatILeast
import Derived.Test.YtnkilceibkkjlaaGreatIHistP
import Derived.Sort.CutIn
import Derived.OrdersHeld
import Derived.OrdersIn
import Derived.Shelf.RegionOpen
set_option maxRecDepth 100000
set_option maxHeartbeats 16000000
namespace Go.Proofs.YtnkilceibkkjlaaGreat
open Go.RowKit
def mdUp (s:St) (x:I4) (tt:W4):Bool:=subB tt (cur s x)
def mdY (s:St) (x:I4) (tt:W4):W4:=if mdUp s x tt then subW tt (cur s x) else subW (cur s x) tt
def mdE0 (s:St) (x:I4) (tt:W4) (bk dl tl:Int):Int:=if !(aGd x && blkOk [bk,dl,tl]) then 2 else if !decide (uCmp tt oneW≤0) then 5 else if (pend s x).1≠0 then 16 else if mdUp s x tt && decide (mdY s x tt=(0,0,0,0)) then 17 else 0
def mdTE (s:St) (x:I4) (tt mx:W4) (bk dl tl:Int) (sl:Bool):Int:=if mdUp s x tt then grE s x mx (mdY s x tt) bk.toNat dl.toNat else shE s x (mdY s x tt) bk.toNat tl.toNat sl
def mdTN (s:St) (x:I4) (tt mx:W4) (bk dl tl:Int) (sl:Bool):Nat:=if mdUp s x tt then grN s x mx (mdY s x tt) bk.toNat dl.toNat else shN s x bk.toNat tl.toNat sl
def mdTS (s:St) (x:I4) (tt mx:W4) (bk dl tl:Int) (sl:Bool):St:=if mdUp s x tt then grSt s x tt mx (mdY s x tt) bk.toNat dl.toNat else shSt s x tt (mdY s x tt) bk.toNat tl.toNat sl
def mdE (s:St) (x:I4) (tt mx:W4) (bk dl tl:Int) (sl:Bool):Int:=if mdE0 s x tt bk dl tl=0 then mdTE s x tt mx bk dl tl sl else mdE0 s x tt bk dl tl
def mdN (s:St) (x:I4) (tt mx:W4) (bk dl tl:Int) (sl:Bool):Nat:=if mdE0 s x tt bk dl tl=0 then (if mdTE s x tt mx bk dl tl sl=0 then mdTN s x tt mx bk dl tl sl else 0) else 0
def mdSt (s:St) (x:I4) (tt mx:W4) (bk dl tl:Int) (sl:Bool):St:=if mdE0 s x tt bk dl tl=0 then (if mdTE s x tt mx bk dl tl sl=0 then mdTS s x tt mx bk dl tl sl else (mdTS s x tt mx bk dl tl sl).undo s.past.length) else s
theorem aGd_pos {x:I4} (hg:aGd x=true) (hx:x.Ok):∀ n∈x.l,0≤n∧n < 9223372036854775808:=fun n hn=>by
 refine ⟨?_,hx n hn⟩
 unfold aGd at hg
 simp only [Bool.and_eq_true,decide_eq_true_eq] at hg
 obtain ⟨h1,h2,h3,h4⟩:=hg
 simp only [List.mem_cons,List.not_mem_nil,or_false] at hn
 rcases hn with rfl | rfl | rfl | rfl <;> omega
theorem blkOk_at {bk dl tl:Int} (h:blkOk [bk,dl,tl]=true):(0≤bk∧bk≤1099511627776)∧(0≤dl∧dl≤1099511627776)∧(0≤tl∧tl≤1099511627776):=by
 unfold blkOk blkB at h
 simp only [List.any_cons,List.any_nil,Bool.or_false,Bool.not_eq_true',Bool.or_eq_false_iff,decide_eq_false_iff_not] at h
 omega
structure MdOk (s:St) (x:I4) (tt mx:W4) (bk dl tl:Int) (sl:Bool):Prop where
 eb:(ends s 33 [x.1,x.2.1]).2 < 4611686018427387904
 kg:∀ z∈(waitS2 (grS1 s x (mdY s x tt)) x 1 (mdY s x tt) (bk.toNat+dl.toNat)).ents,z.1.size < 1000000000000
 ks:∀ z∈(waitS2 (shP s x) x 2 (mdY s x tt) (bk.toNat+tl.toNat)).ents,z.1.size < 1000000000000
 ng:(dueS1 (waitS2 (grS1 s x (mdY s x tt)) x 1 (mdY s x tt) (bk.toNat+dl.toNat)) (bk.toNat+dl.toNat) x.l).int K27 < 1000000000000
 ns:(dueS1 (waitS2 (shP s x) x 2 (mdY s x tt) (bk.toNat+tl.toNat)) (bk.toNat+tl.toNat) x.l).int K27 < 1000000000000
 pl:s.past.length≤(mdTS s x tt mx bk dl tl sl).past.length
 sz:(mdTS s x tt mx bk dl tl sl).size < 1000000000000
theorem mdY_ok (s:St) (x:I4) (tt:W4):(mdY s x tt).Ok:=by
 unfold mdY
 split
 ·exact subW_ok _ _
 ·exact subW_ok _ _
theorem amodify_q (w:World) (h:Hand) (s:St) (f:Nat) (bk dl tl:Int) (x:I4) (tt mx:W4) (sl:Bool) (hon:h.on=true) (hxo:x.Ok) (hto:tt.Ok) (hmx:mx.Ok) (hq:QSt w h s) (hf:s.Fit f) (hm:f < 10000000) (hok:aGd x=true→blkOk [bk,dl,tl]=true→MdOk s x tt mx bk dl tl sl) :
  Calls Tryz.prog 19 #[.pointer h.ptr,idV x,chV tt mx bk dl tl sl] w fun e w'=>e = .returned (.tuple #[.int .i64 (mdN s x tt mx bk dl tl sl),.int .i64 (mdE s x tt mx bk dl tl sl)])∧QOn w h (mdSt s x tt mx bk dl tl sl) w':=by
 have hB:=((HV.start hq).alloc (aO x)).alloc (chO tt mx bk dl tl sl)
 simp only [World.size_alloc] at hB
 have hcu:(cur s x).Ok:=toAmt_ok _
 have HMD:Hid (∀ rs W,HV h w s rs W→Calls Tryz.prog 66 #[.pointer h.ptr] W fun e w'=>e = .returned (.bool true)∧HV h w s rs w'):=fun rs W hV=>hV.made hon
 have HGO:Hid (∀ rs W,HV h w s rs W→Calls Tryz.prog 67 #[idV x] W fun e w'=>e = .returned (.bool (aGd x))∧HV h w s rs w'):=fun rs W hV=>(agood_any x W).mono fun e w' ⟨he,hb⟩=>⟨he,hV.below hb⟩
 have HBL:Hid (∀ rs W,HV h w s rs W→Calls Tryz.prog 68 #[.slice (some ⟨W.heap.size,0,none⟩) 3 3] (W.alloc (.cells #[.int .i64 bk,.int .i64 dl,.int .i64 tl] 3)) fun e w'=>e = .returned (.bool (blkOk [bk,dl,tl]))∧HV h w s rs w'):=fun rs W hV =>
  (ablocks_any (W.alloc (.cells #[.int .i64 bk,.int .i64 dl,.int .i64 tl] 3)) W.heap.size 3 [bk,dl,tl] (by simp) (fun j z hj=>by
   rw [cell_of_row _ _ _ _ _ _ (heap_alloc_new W (.cells #[.int .i64 bk,.int .i64 dl,.int .i64 tl] 3))]
   match j,hj with
   | 0,hj=>cases hj; rfl
   | 1,hj=>cases hj; rfl
   | 2,hj=>cases hj; rfl)).mono fun e w' ⟨he,hw⟩=>⟨he,by subst hw; exact hV.below (bl_alloc (Below.refl _ W) _)⟩
 have HWG:Hid (∀ rs W,HV h w s rs W→Calls Tryz.prog 69 #[uV tt] W fun e w'=>e = .returned (.bool (decide (uCmp tt oneW≤0)))∧HV h w s rs w'):=fun rs W hV=>hV.reads fun L' h1=>wgood_any tt hto W
 have HPD:Hid (∀ rs W,HV h w s rs W→Calls Tryz.prog 20 #[.pointer h.ptr,idV x] W fun e w'=>e = .returned (.tuple #[.int .i64 (pend s x).1,uV (pend s x).2.1,.int .i64 (pend s x).2.2])∧HV h w s rs w'):=fun rs W hV=>hV.reads fun L' h1=>pending_any W h.ptr _ x hxo (h1.read hf (by omega))
 have HCU:Hid (∀ rs W,HV h w s rs W→Calls Tryz.prog 18 #[.pointer h.ptr,idV x] W fun e w'=>e = .returned (uV (cur s x))∧HV h w s rs w'):=fun rs W hV=>hV.reads fun L' h1=>current_any W h.ptr s x hxo (h1.read hf (by omega))
 have HSU:Hid (∀ rs W,HV h w s rs W→Calls Tryz.prog 71 #[uV tt,uV (cur s x)] W fun e w'=>e = .returned (.tuple #[uV (subW tt (cur s x)),.bool (subB tt (cur s x))])∧HV h w s rs w'):=fun rs W hV=>hV.reads fun L' h1=>usub_is tt _ hto hcu W
 have HSD:Hid (∀ rs W,HV h w s rs W→Calls Tryz.prog 71 #[uV (cur s x),uV tt] W fun e w'=>e = .returned (.tuple #[uV (subW (cur s x) tt),.bool (subB (cur s x) tt)])∧HV h w s rs w'):=fun rs W hV=>hV.reads fun L' h1=>usub_is _ tt hcu hto W
 have HMK:Hid (∀ rs W,HV h w s rs W→Calls Tryz.prog 73 #[.pointer h.ptr] W fun e w'=>e = .returned (.int .i64 s.past.length)∧HV h w s rs w'):=fun rs W hV=>hV.mark hon
 have HGR:Hid (aGd x=true→blkOk [bk,dl,tl]=true→mdUp s x tt=true→∀ rs W,HV h w s rs W→Calls Tryz.prog 70 #[idV x,.pointer h.ptr,chV tt mx bk dl tl sl,uV (mdY s x tt)] W fun e w'=>e = .returned (.tuple #[.int .i64 (mdTN s x tt mx bk dl tl sl),.int .i64 (mdTE s x tt mx bk dl tl sl)])∧HV h w (mdTS s x tt mx bk dl tl sl) rs w'):=fun hg hb hu rs W hV=>by
  have hk:=hok hg hb
  obtain ⟨⟨k1,k2⟩,⟨k3,k4⟩,k5,k6⟩:=blkOk_at hb
  have e1:mdTN s x tt mx bk dl tl sl=grN s x mx (mdY s x tt) bk.toNat dl.toNat:=if_pos hu
  have e2:mdTE s x tt mx bk dl tl sl=grE s x mx (mdY s x tt) bk.toNat dl.toNat:=if_pos hu
  have e3:mdTS s x tt mx bk dl tl sl=grSt s x tt mx (mdY s x tt) bk.toNat dl.toNat:=if_pos hu
  rw [e1,e2,e3]
  obtain ⟨b,rfl⟩:∃ b:Nat,bk=b:=⟨bk.toNat,by omega⟩
  obtain ⟨d,rfl⟩:∃ b:Nat,dl=b:=⟨dl.toNat,by omega⟩
  rw [Int.toNat_natCast,Int.toNat_natCast]
  refine QV.call hV fun L' h1 => ?_
  exact grow_q W ⟨h.ptr,h.on,L'⟩ s f b d tl x tt mx (mdY s x tt) sl hon (aGd_pos hg hxo) hmx (mdY_ok _ _ _) h1 hf hm (by omega) (by omega) hk.kg hk.ng
 have HSH:Hid (aGd x=true→blkOk [bk,dl,tl]=true→mdUp s x tt=false→∀ rs W,HV h w s rs W→Calls Tryz.prog 72 #[idV x,.pointer h.ptr,chV tt mx bk dl tl sl,uV (mdY s x tt)] W fun e w'=>e = .returned (.tuple #[.int .i64 (mdTN s x tt mx bk dl tl sl),.int .i64 (mdTE s x tt mx bk dl tl sl)])∧HV h w (mdTS s x tt mx bk dl tl sl) rs w'):=fun hg hb hu rs W hV=>by
  have hk:=hok hg hb
  obtain ⟨⟨k1,k2⟩,⟨k3,k4⟩,k5,k6⟩:=blkOk_at hb
  have e1:mdTN s x tt mx bk dl tl sl=shN s x bk.toNat tl.toNat sl:=if_neg (by rw [hu]; decide)
  have e2:mdTE s x tt mx bk dl tl sl=shE s x (mdY s x tt) bk.toNat tl.toNat sl:=if_neg (by rw [hu]; decide)
  have e3:mdTS s x tt mx bk dl tl sl=shSt s x tt (mdY s x tt) bk.toNat tl.toNat sl:=if_neg (by rw [hu]; decide)
  rw [e1,e2,e3]
  obtain ⟨b,rfl⟩:∃ b:Nat,bk=b:=⟨bk.toNat,by omega⟩
  obtain ⟨d,rfl⟩:∃ b:Nat,tl=b:=⟨tl.toNat,by omega⟩
  rw [Int.toNat_natCast,Int.toNat_natCast]
  refine QV.call hV fun L' h1 => ?_
  exact shrink_q W ⟨h.ptr,h.on,L'⟩ s f b d dl x tt mx (mdY s x tt) sl hon (aGd_pos hg hxo) (mdY_ok _ _ _) h1 hf hm (by omega) (by omega) hk.eb hk.ks hk.ns
 have HUN:Hid (aGd x=true→blkOk [bk,dl,tl]=true→∀ rs W,HV h w (mdTS s x tt mx bk dl tl sl) rs W→Calls Tryz.prog 74 #[.pointer h.ptr,.int .i64 s.past.length] W fun e w'=>(∃ b,e = .returned (.bool b))∧HV h w ((mdTS s x tt mx bk dl tl sl).undo s.past.length) rs w'):=fun hg hb rs W hV=>hV.undo hon _ (hok hg hb).pl (hok hg hb).sz
 have HLAW:Hid ((mdE0 s x tt bk dl tl≠0→mdN s x tt mx bk dl tl sl=0∧mdE s x tt mx bk dl tl sl=mdE0 s x tt bk dl tl∧mdSt s x tt mx bk dl tl sl=s)∧(mdE0 s x tt bk dl tl=0→(mdTE s x tt mx bk dl tl sl=0→mdN s x tt mx bk dl tl sl=mdTN s x tt mx bk dl tl sl∧mdE s x tt mx bk dl tl sl=0∧mdSt s x tt mx bk dl tl sl=mdTS s x tt mx bk dl tl sl) ∧
   (mdTE s x tt mx bk dl tl sl≠0→mdN s x tt mx bk dl tl sl=0∧mdE s x tt mx bk dl tl sl=mdTE s x tt mx bk dl tl sl∧mdSt s x tt mx bk dl tl sl=(mdTS s x tt mx bk dl tl sl).undo s.past.length))):=by
  unfold mdN mdE mdSt
  refine ⟨fun h0=>by simp [h0],fun h0=>⟨fun h1=>by simp [h0,h1],fun h1=>by simp [h0,h1]⟩⟩
 have HE0:Hid (mdE0 s x tt bk dl tl=if !(aGd x && blkOk [bk,dl,tl]) then 2 else if !decide (uCmp tt oneW≤0) then 5 else if (pend s x).1≠0 then 16 else if mdUp s x tt && decide (mdY s x tt=(0,0,0,0)) then 17 else 0):=rfl
 have HUP:Hid (subB tt (cur s x)=mdUp s x tt):=rfl
 have HYU:Hid (mdUp s x tt=true→subW tt (cur s x)=mdY s x tt):=fun hu=>(if_pos hu).symm
 have HYD:Hid (mdUp s x tt=false→subW (cur s x) tt=mdY s x tt):=fun hu=>(if_neg (by rw [hu]; decide)).symm
 have HB:=Lib.hid hB
 clear hB hcu hq hf hxo hto hmx hm hon hok
 generalize mdN s x tt mx bk dl tl sl=rN at *
 generalize mdE s x tt mx bk dl tl sl=rE at *
 generalize mdSt s x tt mx bk dl tl sl=rS at *
 generalize (mdTS s x tt mx bk dl tl sl).undo s.past.length=sU at *
 generalize mdTS s x tt mx bk dl tl sl=sT at *
 generalize mdTE s x tt mx bk dl tl sl=te at *
 generalize mdTN s x tt mx bk dl tl sl=tn at *
 generalize mdE0 s x tt bk dl tl=e0 at *
 generalize mdY s x tt=yy at *
 generalize s.past.length=pl at *
 generalize subB (cur s x) tt=db at *
 generalize subW (cur s x) tt=dw at *
 generalize subB tt (cur s x)=ub at *
 generalize subW tt (cur s x)=uw at *
 generalize mdUp s x tt=up at *
 generalize cur s x=cu at *
 generalize (pend s x).2.2=bb at *
 generalize (pend s x).2.1=pa at *
 generalize (pend s x).1=wy at *
 generalize decide (uCmp tt oneW≤0)=gt at *
 generalize aGd x=ag at *
 generalize blkOk [bk,dl,tl]=bo at *
 have HEQ:Hid (∀ w,(Op.equalIn 10000 24 (.agg #[.int .u64 yy.1,.int .u64 yy.2.1,.int .u64 yy.2.2.1,.int .u64 yy.2.2.2]) (.agg #[.int .u64 0,.int .u64 0,.int .u64 0,.int .u64 0])).run Tryz.prog w = .ok (decide (yy=(0,0,0,0))) w):=fun w=>eqU yy (0,0,0,0) w
 have hq0:Program.eqGuardType Tryz.prog Tryz.prog.depth 24=false:=by kernel_rfl
 go_enter Tryz.func19,Tryz.ntmps19
 go_upto_region 1 with fail
 generalize (w.alloc (aO x)).alloc (chO tt mx bk dl tl sl)=w1 at *
 obtain ⟨g,hg⟩:∃ g,g=w.heap.size:=⟨_,rfl⟩
 rw [← hg] at HB ⊢
 clear hg
 go_wp2_with fail
 refine Calls.mono (HMD.out _ _ HB.out) ?_
 rintro e w2 ⟨rfl,hB2⟩
 have HB2:=Lib.hid hB2
 obtain ⟨i0,i1,i2,i3⟩:=idc_row (x:=x) (hB2.row (g:=g) (o:=aO x) (by simp))
 clear hB2 HB HMD
 go_wp2_with fail
 refine Calls.mono (HGO.out _ _ HB2.out) ?_
 rintro e w3 ⟨rfl,hB3⟩
 have HB3:=Lib.hid hB3
 clear hB3 HB2 HGO i0 i1 i2 i3
 cases ag with
 | false =>
  have h2:e0=2:=by rw [HE0.out]; rfl
  have HLL:=Lib.hid (HLAW.out.1 (by rw [h2]; decide))
  have HR:=Lib.hid (HV.done HB3.out)
  clear HLAW HE0 HUP HYU HYD HBL HWG HPD HCU HSU HSD HMK HGR HSH HUN HEQ HB3
  go_wp2_with fail
  exact bodyPost_ret_by (results_tmp2 rfl _ _ _) rfl ⟨by rw [HLL.out.1,HLL.out.2.1,h2]; rfl,by rw [HLL.out.2.2]; exact HR.out⟩
 | true =>
  obtain ⟨a0,a1,a2,a3,b0,b1,b2,b3,x8,y9,za,tb⟩:=chCells (HB3.out.row (g:=g+1) (o:=chO tt mx bk dl tl sl) (by simp))
  go_wp2_with fail
  refine Calls.mono (HBL.out _ _ HB3.out) ?_
  rintro e w4 ⟨rfl,hB4⟩
  have HB4:=Lib.hid hB4
  clear hB4 HB3 HBL a0 a1 a2 a3 b0 b1 b2 b3 x8 y9 za tb
  cases bo with
  | false =>
   have h2:e0=2:=by rw [HE0.out]; rfl
   have HLL:=Lib.hid (HLAW.out.1 (by rw [h2]; decide))
   have HR:=Lib.hid (HV.done HB4.out)
   clear HLAW HE0 HUP HYU HYD HWG HPD HCU HSU HSD HMK HGR HSH HUN HEQ HB4
   go_wp2_with fail
   exact bodyPost_ret_by (results_tmp2 rfl _ _ _) rfl ⟨by rw [HLL.out.1,HLL.out.2.1,h2]; rfl,by rw [HLL.out.2.2]; exact HR.out⟩
  | true =>
   obtain ⟨a0,a1,a2,a3,b0,b1,b2,b3,x8,y9,za,tb⟩:=chCells (HB4.out.row (g:=g+1) (o:=chO tt mx bk dl tl sl) (by simp))
   go_wp2_with fail
   refine Calls.mono (HWG.out _ _ HB4.out) ?_
   rintro e w5 ⟨rfl,hB5⟩
   have HB5:=Lib.hid hB5
   clear hB5 HB4 HWG a0 a1 a2 a3 b0 b1 b2 b3 x8 y9 za tb
   cases gt with
   | false =>
    have h2:e0=5:=by rw [HE0.out]; rfl
    have HLL:=Lib.hid (HLAW.out.1 (by rw [h2]; decide))
    have HR:=Lib.hid (HV.done HB5.out)
    clear HLAW HE0 HUP HYU HYD HPD HCU HSU HSD HMK HGR HSH HUN HEQ HB5
    go_wp2_with fail
    exact bodyPost_ret_by (results_tmp2 rfl _ _ _) rfl ⟨by rw [HLL.out.1,HLL.out.2.1,h2]; rfl,by rw [HLL.out.2.2]; exact HR.out⟩
   | true =>
    obtain ⟨i0,i1,i2,i3⟩:=idc_row (x:=x) (HB5.out.row (g:=g) (o:=aO x) (by simp))
    go_wp2_with fail
    refine Calls.mono (HPD.out _ _ HB5.out) ?_
    rintro e w6 ⟨rfl,hB6⟩
    have hB7:=(hB6.alloc (uO pa)).less (qs:=[(g+1,chO tt mx bk dl tl sl),(g,aO x)]) (by simp)
    clear hB6 HB5 HPD i0 i1 i2 i3
    go_upto_region 8 with fail
    generalize w6.alloc (uO pa)=w7 at *
    generalize w6.heap.size=g9 at *
    have HB7:=Lib.hid hB7
    clear hB7
    by_cases hwy:wy=0
    case neg =>
     have hb1:(wy == 0)=false:=by simpa using hwy
     have hb2:((wy:Int) == 0)=false:=by simpa using (by omega:¬ (wy:Int)=0)
     have h2:e0=16:=by rw [HE0.out,if_neg (by decide),if_neg (by decide),if_pos hwy]
     have HLL:=Lib.hid (HLAW.out.1 (by rw [h2]; decide))
     have HR:=Lib.hid (HV.done HB7.out)
     clear HLAW HE0 HUP HYU HYD HCU HSU HSD HMK HGR HSH HUN HEQ HB7
     go_wp2_with fail
     exact bodyPost_ret_by (results_tmp2 rfl _ _ _) rfl ⟨by rw [HLL.out.1,HLL.out.2.1,h2]; rfl,by rw [HLL.out.2.2]; exact HR.out⟩
    have hb1:(wy == 0)=true:=by simpa using hwy
    have hb2:((wy:Int) == 0)=true:=by rw [hwy]; rfl
    have HE1:Hid (e0=if up && decide (yy=(0,0,0,0)) then 17 else 0):=by rw [HE0.out,if_neg (by decide),if_neg (by decide),if_neg (by rw [hwy]; decide)]; exact Lib.hid rfl
    obtain ⟨i0,i1,i2,i3⟩:=idc_row (x:=x) (HB7.out.row (g:=g) (o:=aO x) (by simp))
    clear HE0 hwy
    go_wp2_with fail
    refine Calls.mono (HCU.out _ _ HB7.out) ?_
    rintro e w8 ⟨rfl,hB8⟩
    have hB9:=hB8.alloc (uO cu)
    clear hB8 HB7 HCU i0 i1 i2 i3
    go_upto_region 11 with fail
    generalize w8.alloc (uO cu)=wa at *
    generalize w8.heap.size=g11 at *
    have HB9:Hid (HV h w s [(g11,uO cu),(g+1,chO tt mx bk dl tl sl),(g,aO x)] wa):=hB9
    clear hB9
    obtain ⟨i0,i1,i2,i3⟩:=idc_row (x:=x) (HB9.out.row (g:=g) (o:=aO x) (by simp))
    obtain ⟨a0,a1,a2,a3,b0,b1,b2,b3,x8,y9,za,tb⟩:=chCells (HB9.out.row (g:=g+1) (o:=chO tt mx bk dl tl sl) (by simp))
    obtain ⟨c0,c1,c2,c3,_⟩:=row4 (HB9.out.u4 (g:=g11) (x:=cu) (by simp))
    go_wp2_with fail
    refine Calls.mono (HSU.out _ _ HB9.out) ?_
    rintro e wb ⟨rfl,hB10⟩
    have HLT:=Lib.hid (And.intro (lt_of_at (hB10.row (g:=g11) (o:=uO cu) (by simp))) (And.intro (lt_of_at (hB10.row (g:=g+1) (o:=chO tt mx bk dl tl sl) (by simp))) (lt_of_at (hB10.row (g:=g) (o:=aO x) (by simp)))))
    have hB11:=hB10.alloc (uO uw)
    clear hB10 HB9 HSU i0 i1 i2 i3 a0 a1 a2 a3 b0 b1 b2 b3 x8 y9 za tb c0 c1 c2 c3
    go_upto_block 1 with fail
    generalize wb.alloc (uO uw)=wd at *
    generalize wb.heap.size=g13 at *
    have HBD:Hid (HV h w s [(g13,uO uw),(g11,uO cu),(g+1,chO tt mx bk dl tl sl),(g,aO x)] wd):=hB11
    clear hB11
    cases up with
    | false =>
     have hub:ub=false:=HUP.out
     subst hub
     have HYE:Hid (dw=yy):=HYD.out rfl
     have h0:e0=0:=by rw [HE1.out]; rfl
     have HL:=Lib.hid (HLAW.out.2 h0)
     have HT:=Lib.hid (HSH.out (by first | rfl | trivial) (by first | rfl | trivial) (by first | rfl | trivial))
     have HU:=Lib.hid (HUN.out (by first | rfl | trivial) (by first | rfl | trivial))
     obtain ⟨i0,i1,i2,i3⟩:=idc_row (x:=x) (HBD.out.row (g:=g) (o:=aO x) (by simp))
     obtain ⟨a0,a1,a2,a3,b0,b1,b2,b3,x8,y9,za,tb⟩:=chCells (HBD.out.row (g:=g+1) (o:=chO tt mx bk dl tl sl) (by simp))
     obtain ⟨c0,c1,c2,c3,_⟩:=row4 (HBD.out.u4 (g:=g11) (x:=cu) (by simp))
     clear HYU HYD HE1 HUP HGR HSH HUN HLAW HEQ h0
     go_wp2_with fail
     refine Calls.mono (HSD.out _ _ HBD.out) ?_
     rintro e we ⟨rfl,hBE⟩
     clear i0 i1 i2 i3 a0 a1 a2 a3 b0 b1 b2 b3 x8 y9 za tb c0 c1 c2 c3 HSD HBD
     obtain ⟨u0,u1,u2,u3,_⟩:=row4 (hBE.u4 (g:=g13) (x:=uw) (by simp))
     have h9:HV h w s [(g13,uO dw),(g11,uO cu),(g+1,chO tt mx bk dl tl sl),(g,aO x)] ((((we.setCell ⟨g13,0,none⟩ (.int .u64 dw.1)).setCell ⟨g13,1,none⟩ (.int .u64 dw.2.1)).setCell ⟨g13,2,none⟩ (.int .u64 dw.2.2.1)).setCell ⟨g13,3,none⟩ (.int .u64 dw.2.2.2)):=QV.put4 hBE dw (y:=uw) (by simp) _ (fun y hy=>by
      obtain ⟨l1,l2,l3⟩:=HLT.out
      simp only [List.mem_cons,List.not_mem_nil,or_false] at hy
      rcases hy with rfl | rfl | rfl
      ·exact ⟨by simp,Nat.ne_of_lt l1⟩
      ·exact ⟨by simp,Nat.ne_of_lt l2⟩
      ·exact ⟨by simp,Nat.ne_of_lt l3⟩)
     clear hBE HLT
     go_upto_region 18 with fail
     generalize (((we.setCell ⟨g13,0,none⟩ (.int .u64 dw.1)).setCell ⟨g13,1,none⟩ (.int .u64 dw.2.1)).setCell ⟨g13,2,none⟩ (.int .u64 dw.2.2.1)).setCell ⟨g13,3,none⟩ (.int .u64 dw.2.2.2)=W9 at *
     rw [HYE.out] at h9
     clear HYE u0 u1 u2 u3
     have H9:=h9
     clear h9
     have HV9:Hid (HV h w s [(g13,uO yy),(g11,uO cu),(g+1,chO tt mx bk dl tl sl),(g,aO x)] W9):=H9
     clear H9
     obtain ⟨a0,a1,a2,a3,b0,b1,b2,b3,x8,y9,za,tb⟩:=chCells (HV9.out.row (g:=g+1) (o:=chO tt mx bk dl tl sl) (by simp))
     obtain ⟨y0,y1,y2,y3,_⟩:=row4 (HV9.out.u4 (g:=g13) (x:=yy) (by simp))
     go_wp2_with fail
     refine Calls.mono (HMK.out _ _ HV9.out) ?_
     rintro e WM ⟨rfl,hVM⟩
     clear HMK HV9 a0 a1 a2 a3 b0 b1 b2 b3 x8 y9 za tb y0 y1 y2 y3
     obtain ⟨a0,a1,a2,a3,b0,b1,b2,b3,x8,y9,za,tb⟩:=chCells (hVM.row (g:=g+1) (o:=chO tt mx bk dl tl sl) (by simp))
     obtain ⟨y0,y1,y2,y3,_⟩:=row4 (hVM.u4 (g:=g13) (x:=yy) (by simp))
     have HVM:=Lib.hid hVM
     clear hVM
     go_wp2_with fail
     refine Calls.mono (HT.out _ _ HVM.out) ?_
     rintro e WT ⟨rfl,hVT⟩
     have HVT:=Lib.hid hVT
     clear hVT HVM HT a0 a1 a2 a3 b0 b1 b2 b3 x8 y9 za tb y0 y1 y2 y3
     by_cases he:te=0
     ·have hb1:(te == 0)=true:=by simpa using he
      have HR:=Lib.hid (HV.done HVT.out)
      have HLL:=Lib.hid (HL.out.1 he)
      clear HL he HVT HU
      go_wp2_with fail
      exact bodyPost_ret_by (results_tmp2 rfl _ _ _) rfl ⟨by rw [HLL.out.1,HLL.out.2.1]; rfl,by rw [HLL.out.2.2]; exact HR.out⟩
     ·have hb1:(te == 0)=false:=by simpa using he
      have HLL:=Lib.hid (HL.out.2 he)
      clear HL he
      go_wp2_with fail
      refine Calls.mono (HU.out _ _ HVT.out) ?_
      rintro e WU ⟨⟨ub,rfl⟩,hVU⟩
      have HR:=Lib.hid (HV.done hVU)
      clear hVU HVT HU
      go_wp2_with fail
      exact bodyPost_ret_by (results_tmp2 rfl _ _ _) rfl ⟨by rw [HLL.out.1,HLL.out.2.1]; rfl,by rw [HLL.out.2.2]; exact HR.out⟩
    | true =>
     have hub:ub=true:=HUP.out
     subst hub
     have hye:uw=yy:=HYU.out rfl
     subst hye
     have HT:=Lib.hid (HGR.out (by first | rfl | trivial) (by first | rfl | trivial) (by first | rfl | trivial))
     have HU:=Lib.hid (HUN.out (by first | rfl | trivial) (by first | rfl | trivial))
     obtain ⟨u0,u1,u2,u3,_⟩:=row4 (HBD.out.u4 (g:=g13) (x:=uw) (by simp))
     clear HYU HYD HUP HGR HSH HUN HSD HLT
     by_cases hz:uw=(0,0,0,0)
     ·have hE:=HEQ.out
      rw [decide_eq_true hz] at hE
      have h2:e0=17:=by rw [HE1.out,decide_eq_true hz]; rfl
      have HLL:=Lib.hid (HLAW.out.1 (by rw [h2]; decide))
      have HR:=Lib.hid (HV.done HBD.out)
      clear hz HEQ HE1 HLAW HT HU HBD HMK
      go_wp2_with fail
      exact bodyPost_ret_by (results_tmp2 rfl _ _ _) rfl ⟨by rw [HLL.out.1,HLL.out.2.1,h2]; rfl,by rw [HLL.out.2.2]; exact HR.out⟩
     ·have hE:=HEQ.out
      rw [decide_eq_false hz] at hE
      have h0:e0=0:=by rw [HE1.out,decide_eq_false hz]; rfl
      have HL:=Lib.hid (HLAW.out.2 h0)
      clear hz HEQ HE1 HLAW h0
      go_upto_region 18 with fail
      clear u0 u1 u2 u3
      have H9:=HBD.out
      clear HBD
      have HV9:Hid (HV h w s [(g13,uO uw),(g11,uO cu),(g+1,chO tt mx bk dl tl sl),(g,aO x)] wd):=H9
      clear H9
      obtain ⟨a0,a1,a2,a3,b0,b1,b2,b3,x8,y9,za,tb⟩:=chCells (HV9.out.row (g:=g+1) (o:=chO tt mx bk dl tl sl) (by simp))
      obtain ⟨y0,y1,y2,y3,_⟩:=row4 (HV9.out.u4 (g:=g13) (x:=uw) (by simp))
      go_wp2_with fail
      refine Calls.mono (HMK.out _ _ HV9.out) ?_
      rintro e WM ⟨rfl,hVM⟩
      clear HMK HV9 a0 a1 a2 a3 b0 b1 b2 b3 x8 y9 za tb y0 y1 y2 y3
      obtain ⟨a0,a1,a2,a3,b0,b1,b2,b3,x8,y9,za,tb⟩:=chCells (hVM.row (g:=g+1) (o:=chO tt mx bk dl tl sl) (by simp))
      obtain ⟨y0,y1,y2,y3,_⟩:=row4 (hVM.u4 (g:=g13) (x:=uw) (by simp))
      have HVM:=Lib.hid hVM
      clear hVM
      go_wp2_with fail
      refine Calls.mono (HT.out _ _ HVM.out) ?_
      rintro e WT ⟨rfl,hVT⟩
      have HVT:=Lib.hid hVT
      clear hVT HVM HT a0 a1 a2 a3 b0 b1 b2 b3 x8 y9 za tb y0 y1 y2 y3
      by_cases he:te=0
      ·have hb1:(te == 0)=true:=by simpa using he
       have HR:=Lib.hid (HV.done HVT.out)
       have HLL:=Lib.hid (HL.out.1 he)
       clear HL he HVT HU
       go_wp2_with fail
       exact bodyPost_ret_by (results_tmp2 rfl _ _ _) rfl ⟨by rw [HLL.out.1,HLL.out.2.1]; rfl,by rw [HLL.out.2.2]; exact HR.out⟩
      ·have hb1:(te == 0)=false:=by simpa using he
       have HLL:=Lib.hid (HL.out.2 he)
       clear HL he
       go_wp2_with fail
       refine Calls.mono (HU.out _ _ HVT.out) ?_
       rintro e WU ⟨⟨ub,rfl⟩,hVU⟩
       have HR:=Lib.hid (HV.done hVU)
       clear hVU HVT HU
       go_wp2_with fail
       exact bodyPost_ret_by (results_tmp2 rfl _ _ _) rfl ⟨by rw [HLL.out.1,HLL.out.2.1]; rfl,by rw [HLL.out.2.2]; exact HR.out⟩
end Go.Proofs.YtnkilceibkkjlaaGreat
namespace Go.Proofs.YtnkilceibkkjlaaGreat
open Go.RowKit Go.Shelf
attribute [local go_sem] Oper.semAt_some
theorem aeach_any (q:Option Addr) (t a b:Int) (w:World):Calls Tryz.prog 89 #[.pointer q,.int .i64 t,.int .i64 a,.int .i64 b] w fun e w' =>
  e = .returned (.func (.func 158) #[] #[.pointer (some ⟨w.heap.size,0,none⟩),.pointer (some ⟨w.heap.size+1,0,none⟩),.pointer (some ⟨w.heap.size+1+1,0,none⟩),.pointer (some ⟨w.heap.size+1+1+1,0,none⟩)])∧w'=(((w.alloc (.cells #[.pointer q] 39)).alloc (.cells #[.int .i64 t] 3)).alloc (.cells #[.int .i64 a] 3)).alloc (.cells #[.int .i64 b] 3):=by
 go_enter Tryz.func89,Tryz.ntmps89
 go_wp2_with fail
 go_ret
 exact ⟨rfl,rfl⟩
structure SumAt (w:World) (q:Option Addr) (W:World):Prop where
 b:Below w.heap.size w W
 no:NoStore W q
 box:Boxed W w.heap.size 39 (.pointer q)
 r6:W.heap[w.heap.size+1]? = some (.cells (uL (0,0,0,0)) 24 (0,0))
 r7:W.heap[w.heap.size+1+1]? = some (.cells (uL (0,0,0,0)) 24 (0,0))
theorem SumAt.below {w:World} {q:Option Addr} {W W':World} (h:SumAt w q W) (hb:Below W.heap.size W W'):SumAt w q W' :=
 ⟨bl_then h.b hb,h.no.below hb,(hb.block _ (Array.getElem?_eq_some_iff.1 h.box).1).trans h.box,(hb.block _ (Array.getElem?_eq_some_iff.1 h.r6).1).trans h.r6,(hb.block _ (Array.getElem?_eq_some_iff.1 h.r7).1).trans h.r7⟩
theorem SumAt.start (w:World) (q:Option Addr) (h:NoStore w q):SumAt w q (((w.alloc (.cells #[.pointer q] 39)).alloc (.cells #[.int .u64 0,.int .u64 0,.int .u64 0,.int .u64 0] 24)).alloc (.cells #[.int .u64 0,.int .u64 0,.int .u64 0,.int .u64 0] 24)):=by
 have hb:=bl_alloc (bl_alloc (bl_alloc (Below.refl _ w) (.cells #[.pointer q] 39)) (.cells #[.int .u64 0,.int .u64 0,.int .u64 0,.int .u64 0] 24)) (.cells #[.int .u64 0,.int .u64 0,.int .u64 0,.int .u64 0] 24)
 refine ⟨hb,h.below hb,?_,?_,?_⟩
 ·show (World.heap _)[_]? = _
  rw [heap_alloc_old _ _ (by first | (simp; done) | (simp; omega)),heap_alloc_old _ _ (by simp)]; exact heap_alloc_new w _
 ·rw [heap_alloc_old _ _ (by simp)]
  have:=heap_alloc_new (w.alloc (.cells #[.pointer q] 39)) (.cells #[.int .u64 0,.int .u64 0,.int .u64 0,.int .u64 0] 24)
  rw [World.size_alloc] at this; exact this
 ·have:=heap_alloc_new ((w.alloc (.cells #[.pointer q] 39)).alloc (.cells #[.int .u64 0,.int .u64 0,.int .u64 0,.int .u64 0] 24)) (.cells #[.int .u64 0,.int .u64 0,.int .u64 0,.int .u64 0] 24)
  rw [World.size_alloc,World.size_alloc] at this; exact this
end Go.Proofs.YtnkilceibkkjlaaGreat
namespace Go.Proofs.YtnkilceibkkjlaaGreat
open Go
section
variable {F:Fence} {n:Nat} {P:Program} {ops:Array Oper} {Q:Exit→Act→World→Prop} {md:Region.Mode} {S:World→Prop}
def YieldsS (P:Program) (ops:Array Oper) (S:World→Prop) (o:Oper) (v:Value) (a:Act):Prop:=YieldsIf P ops S o v a∧∀ w,o.about P w a.eval=none
theorem YieldsS.go {i:Nat} {o:Oper} {v:Value} {a:Act} (hro:F.round=none) (hi:ops[i]? = some o) (hy:YieldsS P ops S o v a) {K:Act→World→Prop} {w:World} (hS:S w) (h:K (a.put o.dst v) w):wpOpIn F n P ops Q i K a w:=by
 have hab:∀ f,o.about P w a.eval=some f→F.fn f:=fun f hf=>by rw [hy.2 w] at hf; cases hf
 unfold wpOpIn
 simp only [hi]
 rcases hy.1 with ⟨hw,hv⟩ | ⟨hw,rfl⟩
 ·simp only [hw,if_true,Oper.wpIn,hro,Oper.semAt_none,hv w hS,Oper.uponIn]; exact ⟨hab,h⟩
 ·simp only [hw,Bool.false_eq_true,if_false]; exact ⟨hab,h⟩
theorem YieldsS.same {o:Oper} {v:Value} {a a':Act} (hy:YieldsS P ops S o v a) (he:execOp a'.eval o=execOp a.eval o) (hw:Region.wanted o (yielded ops a'.tmps)=Region.wanted o (yielded ops a.tmps)) (hb:∀ w,o.about P w a'.eval=o.about P w a.eval):YieldsS P ops S o v a' :=
 ⟨hy.1.of_same he hw,fun w=>by rw [hb w]; exact hy.2 w⟩
theorem putS {j:Nat} {oi oj:Oper} {v:Value} (hro:F.round=none) (hj:ops[j]? = some oj) (hap:oi.apart ops oj=true) (hsi:∀ cs b,oi.op ≠ .select cs b) (hsj:∀ cs b,oj.op ≠ .select cs b)
  (hQ:∀ c a w,Q (.panic c) (a.put oi.dst v) w→Q (.panic c) a w) {K:Act→World→Prop} {a:Act} {w:World} (hy:YieldsS P ops S oi v a) (h:wpOpIn F n P ops Q j K (a.put oi.dst v) w) :
  wpOpIn F n P ops Q j (fun a' w'=>YieldsS P ops S oi v a'∧K (a'.put oi.dst v) w') a w:=by
 obtain ⟨h1,h2,h3⟩:=Oper.apart_spec hap
 have keep:∀ (a:Act),YieldsS P ops S oi v a→∀ u,YieldsS P ops S oi v (a.put oj.dst u):=fun a hy u =>
  hy.same (execOp_put oi hsi a oj.dst u h3) (wanted_put oi a oj.dst u h3) (fun w=>about_put oi w a oj.dst u h3)
 unfold wpOpIn at *
 simp only [hj] at *
 rw [wanted_put oj a oi.dst v h1,about_put oj w a oi.dst v h1] at h
 split
 ·rename_i hw
  simp only [hw,if_true] at h
  unfold Oper.wpIn at *
  rw [about_put oj w a oi.dst v h1,hro,Oper.semAt_none,execOp_put oj hsj a oi.dst v h1] at h
  obtain ⟨hA,h⟩:=h
  refine ⟨hA,?_⟩
  rw [hro,Oper.semAt_none]
  generalize (execOp a.eval oj).run P w=r at *
  cases r with
  | halt x w' =>
   cases x <;> simp only [Oper.uponIn] at h ⊢
   case panic u=>exact hQ _ _ _ h
  | ok x w' =>
   cases x <;> simp only [Oper.uponIn] at h ⊢
   case value u=>exact ⟨keep a hy u,by rw [← Act.put_comm a v u h2]; exact h⟩
   case skip=>exact ⟨keep a hy _,by rw [← Act.put_comm a v undef h2]; exact h⟩
   case defer d =>
    refine ⟨keep _ (hy.same (a':={ a with defers:=d :: a.defers }) rfl rfl (fun _=>rfl)) _,?_⟩
    rw [← Act.put_comm _ v undef h2,← Act.put_defers]
    exact h
   case enter f args =>
    refine ⟨h.1,CallsIn.mono h.2 fun e w'' he => ?_⟩
    cases e with
    | returned u=>exact ⟨keep a hy u,by rw [← Act.put_comm a v u h2]; exact he⟩
    | panicked c=>exact hQ _ _ _ he
    | outgrown=>exact he
   case row row args=>exact ⟨h.1,RowsIn.mono h.2 fun u w'' he=>⟨keep a hy u,by rw [← Act.put_comm a v u h2]; exact he⟩⟩
   case round l f tmps assign body =>
    refine ⟨h.1,RoundIn.mono h.2 fun e w'' he => ?_⟩
    cases e with
    | returned u=>exact ⟨keep a hy u,by rw [← Act.put_comm a v u h2]; exact he⟩
    | panicked c=>exact hQ _ _ _ he
    | outgrown=>exact he
 ·rename_i hw
  simp only [hw] at h
  exact ⟨h.1,keep a hy _,by rw [← Act.put_comm a v undef h2]; exact h.2⟩
def AnyS (F:Fence) (n:Nat) (P:Program) (md:Region.Mode) (ops:Array Oper) (Q:Exit→Act→World→Prop) (keep:Nat→Bool) (S:World→Prop):Nat→Array Bool→Act→World→Prop
 | 0,listed,a,w=>Region.ready md ops listed = []∧Q .normal a w
 | fuel+1,listed,a,w =>
  (Region.ready md ops listed = []→Q .normal a w) ∧
  ∀ i∈Region.ready md ops listed,wpOpIn F n P ops Q i (fun a' w'=>(keep i=true→S w')∧AnyS F n P md ops Q keep S fuel (listed.setIfInBounds i true) a' w') a w
variable {keep:Nat→Bool}
theorem anyS_in:∀ (fuel:Nat) (listed:Array Bool) (a:Act) (w:World),AnyS F n P md ops Q keep S fuel listed a w→wpAnyIn F n P md ops Q fuel listed a w
 | 0,_,_,_,h=>h
 | fuel+1,_,_,_,h=>⟨h.1,fun i hi=>wpOpIn_mono (fun a' w' h'=>anyS_in fuel _ a' w' h'.2) (h.2 i hi)⟩
inductive Waits (md:Region.Mode) (ops:Array Oper) (listed:Array Bool) (i:Nat):Oper→Prop
 | here {oj:Oper} {e:Edge} (he:e∈oj.after) (hb:Region.binds md e=true) (h:e.on=i):Waits md ops listed i oj
 | there {oj o2:Oper} {e:Edge} (he:e∈oj.after) (hb:Region.binds md e=true) (h:listed.getD e.on true=false) (ho:ops[e.on]? = some o2) (hw:Waits md ops listed i o2):Waits md ops listed i oj
def waitsB (md:Region.Mode) (ops:Array Oper) (listed:Array Bool) (i:Nat):Nat→Oper→Bool
 | 0,_=>false
 | fuel+1,oj=>oj.after.toList.any fun e=>Region.binds md e && (e.on == i || (!listed.getD e.on true && match ops[e.on]? with
  | some o2=>waitsB md ops listed i fuel o2
  | none=>false))
theorem waitsB_spec {listed:Array Bool} {i:Nat}:∀ (fuel:Nat) (oj:Oper),waitsB md ops listed i fuel oj=true→Waits md ops listed i oj
 | 0,_,h=>by cases h
 | fuel+1,oj,h=>by
  unfold waitsB at h
  simp only [List.any_eq_true,Bool.and_eq_true,Bool.or_eq_true,beq_iff_eq,Bool.not_eq_true'] at h
  obtain ⟨e,he,hb,h2⟩:=h
  rcases h2 with h2 | ⟨h2,h3⟩
  ·exact .here (Array.mem_toList_iff.1 he) hb h2
  ·cases ho:ops[e.on]? with
   | none=>rw [ho] at h3; cases h3
   | some o2 =>
    rw [ho] at h3
    exact .there (Array.mem_toList_iff.1 he) hb h2 ho (waitsB_spec fuel o2 h3)
def keptB (md:Region.Mode) (ops:Array Oper) (keep:Nat→Bool) (listed:Array Bool) (i:Nat):Bool:=(List.range ops.size).all fun j=>j == i || listed.getD j true || keep j || match ops[j]? with
 | some oj=>waitsB md ops listed i ops.size oj
 | none=>true
theorem keptB_spec {listed:Array Bool} {i:Nat} (h:keptB md ops keep listed i=true) (j:Nat) (oj:Oper) (hj:ops[j]? = some oj) (hji:j≠i) (hl:listed.getD j true=false):keep j=true∨Waits md ops listed i oj:=by
 have hlt:j < ops.size:=(Array.getElem?_eq_some_iff.1 hj).1
 have:=List.all_eq_true.1 h j (List.mem_range.2 hlt)
 simp only [Bool.or_eq_true,beq_iff_eq,hl,Bool.false_eq_true,or_false,hj] at this
 rcases this with (h1 | h1) | h1
 ·exact absurd h1 hji
 ·exact .inl h1
 ·exact .inr (waitsB_spec _ _ h1)
theorem listed_clash {listed:Array Bool} {k:Nat} (h1:listed.getD k false=true) (h0:listed.getD k true=false):False:=by
 rcases Nat.lt_or_ge k listed.size with h' | h'
 ·simp [h'] at h0 h1; rw [h0] at h1; cases h1
 ·simp [Array.getElem?_eq_none h'] at h1
theorem hWaits_not {listed:Array Bool} {i j:Nat} {oj:Oper} (hoj:ops[j]? = some oj) (hi:i∈Region.ready md ops listed) (hj:j∈Region.ready md ops listed) (h:Waits md ops listed i oj):False:=by
 obtain ⟨_,oj',hoj',hall⟩:=mem_ready.1 hj
 rw [hoj] at hoj'
 cases hoj'
 have h0:=(mem_ready.1 hi).1
 cases h with
 | here he hb h1=>exact listed_clash (hall _ he hb) (h1 ▸ h0)
 | there he hb h1 _ _=>exact listed_clash (hall _ he hb) h1
theorem Waits.later {listed:Array Bool} {i j:Nat} {ok:Oper} (hi:i∈Region.ready md ops listed) (hj:j∈Region.ready md ops listed) (h:Waits md ops listed i ok):Waits md ops (listed.setIfInBounds j true) i ok:=by
 induction h with
 | here he hb h1=>exact .here he hb h1
 | there he hb h1 ho hw ih =>
  refine .there he hb ?_ ho ih
  rw [getD_set_ne true fun e => ?_]
  ·exact h1
  ·subst e
   exact hWaits_not ho hi hj hw
theorem anyS_first {i:Nat} {oi:Oper} {v:Value} (hro:F.round=none) (hi:ops[i]? = some oi) (hsel:∀ (j:Nat) (o:Oper) cs b,ops[j]? = some o→o.op ≠ .select cs b) (hQ:∀ c a w,Q (.panic c) (a.put oi.dst v) w→Q (.panic c) a w) :
  ∀ (fuel:Nat) (listed:Array Bool) (a:Act) (w:World),(∀ j oj,ops[j]? = some oj→j≠i→listed.getD j true=false→(∀ e∈oj.after,Region.binds md e=true→e.on≠i)→oi.apart ops oj=true) →
   (∀ j oj,ops[j]? = some oj→j≠i→listed.getD j true=false→keep j=true∨Waits md ops listed i oj) →
   i∈Region.ready md ops listed→YieldsS P ops S oi v a→S w→AnyS F n P md ops Q keep S fuel (listed.setIfInBounds i true) (a.put oi.dst v) w→AnyS F n P md ops Q keep S (fuel+1) listed a w:=by
 intro fuel
 induction fuel with
 | zero =>
  intro listed a w _ _ hr hy hS H
  refine ⟨fun h=>(by rw [h] at hr; cases hr),fun j hj => ?_⟩
  by_cases hji:j=i
  ·subst hji; exact hy.go hro hi hS ⟨fun _=>hS,H⟩
  ·have:=ready_mono hj hji
   rw [H.1] at this
   cases this
 | succ fuel ih =>
  intro listed a w hfree hkept hr hy hS H
  refine ⟨fun h=>(by rw [h] at hr; cases hr),fun j hj => ?_⟩
  by_cases hji:j=i
  ·subst hji; exact hy.go hro hi hS ⟨fun _=>hS,H⟩
  obtain ⟨hjun,oj,hoj,hall⟩:=mem_ready.1 hj
  have hnot:∀ e∈oj.after,Region.binds md e=true→e.on≠i:=fun e he hb heq=>listed_clash (hall e he hb) (heq ▸ (mem_ready.1 hr).1)
  have hkj:keep j=true:=(hkept j oj hoj hji hjun).resolve_right fun h=>hWaits_not hoj hr hj h
  refine wpOpIn_mono (fun a' w' h3=>⟨h3.2.1,ih (listed.setIfInBounds j true) a' w' (fun k ok hk hki hun hno => ?_) (fun k ok hk hki hun => ?_) (ready_mono hr (Ne.symm hji)) h3.1 (h3.2.1 hkj) ?_⟩)
   (putS hro hoj (hfree j oj hoj hji hjun hnot) (fun cs b=>hsel i oi cs b hi) (fun cs b=>hsel j oj cs b hoj) hQ hy (H.2 j (ready_mono hj hji)))
  ·refine hfree k ok hk hki ?_ hno
   by_cases hjk:j=k
   ·subst hjk; exact hjun
   ·rw [getD_set_ne true hjk] at hun; exact hun
  ·have hun':listed.getD k true=false:=by
    by_cases hjk:j=k
    ·subst hjk; exact hjun
    ·rw [getD_set_ne true hjk] at hun; exact hun
   exact (hkept k ok hk hki hun').imp id fun h1=>h1.later hr hj
  ·rw [Array.setIfInBounds_comm _ _ hji]
   exact h3.2.2
theorem anyS_take {i:Nat} {oi:Oper} {v:Value} {fuel:Nat} {listed:Array Bool} {a:Act} {w:World} (hro:F.round=none) (hi:ops[i]? = some oi)
  (hs:Region.noSelect ops=true) (hf:Region.free md ops listed i=true) (hk:keptB md ops keep listed i=true) (hr:(Region.ready md ops listed).contains i=true) (hQ:∀ c a w,Q (.panic c) (a.put oi.dst v) w→Q (.panic c) a w)
  (hw:Region.wanted oi (yielded ops a.tmps)=true) (hab:∀ w,oi.about P w a.eval=none) (hy:∀ w,S w→(execOp a.eval oi).run P w = .ok (.value v) w) (hS:S w)
  (h:AnyS F n P md ops Q keep S fuel (listed.setIfInBounds i true) (a.put oi.dst v) w):AnyS F n P md ops Q keep S (fuel+1) listed a w :=
 anyS_first hro hi (Region.noSelect_spec hs) hQ fuel listed a w (Region.free_spec hi hf) (keptB_spec hk) (by simpa using hr) ⟨.inl ⟨hw,hy⟩,hab⟩ hS h
theorem anyS_one {i:Nat} {o:Oper} {fuel:Nat} {listed:Array Bool} {a:Act} {w:World} (ho:ops[i]? = some o) (hr:Region.ready md ops listed = [i]) (hw:Region.wanted o (yielded ops a.tmps)=true)
  (h:∀ K:Act→World→Prop,(∀ a w,(keep i=true→S w)→AnyS F n P md ops Q keep S fuel (listed.setIfInBounds i true) a w→K a w)→Oper.wpIn F n P o a w K Q):AnyS F n P md ops Q keep S (fuel+1) listed a w:=by
 refine ⟨fun h0=>(by rw [hr] at h0; cases h0),fun j hj => ?_⟩
 rw [hr] at hj
 obtain rfl:=List.mem_singleton.1 hj
 refine wpOpIn_step ho fun K hK => ?_
 rw [if_pos hw]
 exact h K fun a w h1 h2=>hK a w ⟨h1,h2⟩
theorem anyS_done {listed:Array Bool} {a:Act} {w:World} (hr:Region.ready md ops listed = []) (h:Q .normal a w):∀ fuel,AnyS F n P md ops Q keep S fuel listed a w
 | 0=>⟨hr,h⟩
 | _+1=>⟨fun _=>h,by rw [hr]; simp⟩
theorem anyS_region {id:Nat} {a:Act} {w:World} (keep:Nat→Bool) (S:World→Prop) (hm:P.follows .mixedOrders=true) (h:AnyS F n P .any ops Q keep S ops.size (Array.replicate ops.size false) a w.drew):(Code.region id ops true).wpIn F n P Q a w :=
 wpIn_region_any hm (anyS_in _ _ _ _ h)
end
end Go.Proofs.YtnkilceibkkjlaaGreat
