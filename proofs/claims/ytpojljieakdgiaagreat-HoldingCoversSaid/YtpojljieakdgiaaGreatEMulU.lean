/- What is proved here: u256.Mul of the program. Its condition: words below 2^64. -/
import Derived.Test.YtpojljieakdgiaaGreatEMulP
import Derived.Test.YtpojljieakdgiaaGreatEAmtG
set_option maxRecDepth 100000
set_option maxHeartbeats 16000000
namespace Go.Proofs.YtpojljieakdgiaaGreat
open Go.RowKit
theorem eqI4 (a b c d a' b' c' d':Int) (w:World):(Op.equalIn 10000 27 (.agg #[.int .u64 a,.int .u64 b,.int .u64 c,.int .u64 d]) (.agg #[.int .u64 a',.int .u64 b',.int .u64 c',.int .u64 d'])).run Tryz.prog w = .ok (a == a' && (b == b' && (c == c' && d == d'))) w:=by
 have u3:=Tryz.underlying26
 have a3:=Tryz.isAgg26
 have z3:=Tryz.sizeOf26
 rw [show (10000:Nat)=9999+1 from rfl,Op.equalIn]
 simp only [Sem.run_bind,run_underlying Tryz.underlying27,Result.andThen_ok]
 simp only [Std.Legacy.Range.forIn_eq_forIn_range',Std.Legacy.Range.size,Nat.sub_zero,Nat.add_sub_cancel,Nat.div_one,List.range'_succ,List.range'_zero,List.forIn_cons,List.forIn_nil]
 go_simp
 by_cases h1:a=a' <;> by_cases h2:b=b' <;> by_cases h3:c=c' <;> by_cases h4:d=d' <;> simp [h1,h2,h3,h4]
theorem eqU4 (x y:W4) (w:World):(Op.equalIn 10000 27 (uV x) (uV y)).run Tryz.prog w = .ok (decide (x=y)) w:=by
 obtain ⟨x0,x1,x2,x3⟩:=x
 obtain ⟨y0,y1,y2,y3⟩:=y
 rw [show (Op.equalIn 10000 27 (uV (x0,x1,x2,x3)) (uV (y0,y1,y2,y3))).run Tryz.prog w=_ from eqI4 _ _ _ _ _ _ _ _ w]
 congr 1
 rw [Bool.eq_iff_iff]
 simp only [Bool.and_eq_true,beq_iff_eq,decide_eq_true_eq,Prod.mk.injEq]
 omega
theorem slice_hi8 (g:Nat) (w:World):(Instr.sliceAt 225 (.pointer (some ⟨g,0,none⟩)) (some (.int .i64 4)) none none).run Tryz.prog w = .ok (.slice (some ⟨g,4,none⟩) 4 4) w:=by kernel_rfl
theorem slice_lo8 (g:Nat) (w:World):(Instr.sliceAt 225 (.pointer (some ⟨g,0,none⟩)) none (some (.int .i64 4)) none).run Tryz.prog w = .ok (.slice (some ⟨g,0,none⟩) 4 8) w:=by kernel_rfl
theorem arr_at4 (g o c:Nat) (w:World):(Instr.arrayAt 27 (.slice (some ⟨g,o,none⟩) 4 c)).run Tryz.prog w = .ok (.pointer (some ⟨g,o,none⟩)) w:=by kernel_rfl
def mulW (x y:W4):W4:=if uN x*uN y < 115792089237316195423570985008687907853269984665640564039457584007913129639936 then uOf (uN x*uN y) else (0,0,0,0)
def mulB (x y:W4):Bool:=decide (uN x*uN y < 115792089237316195423570985008687907853269984665640564039457584007913129639936)
structure MAt (w:World) (x y:W4) (wr:World):Prop where
 b:Below w.heap.size w wr
 x:wr.heap[w.heap.size]? = some (.cells (uL x) 28 (0,0))
 y:wr.heap[w.heap.size+1]? = some (.cells (uL y) 28 (0,0))
 r:wr.heap[w.heap.size+2]? = some (.cells (uL (0,0,0,0)) 28 (0,0))
theorem MAt.start (w:World) (x y:W4):MAt w x y (((w.alloc (.cells (uL x) 28)).alloc (.cells (uL y) 28)).alloc (.cells (uL (0,0,0,0)) 28)):=by
 refine ⟨bl_alloc (bl_alloc (bl_alloc (Below.refl _ _) _) _) _,?_,?_,?_⟩
 ·rw [heap_alloc_old _ _ (by first | (simp; done) | (simp; omega)),heap_alloc_old _ _ (by simp)]; exact heap_alloc_new w _
 ·rw [heap_alloc_old _ _ (by simp)]
  have:=heap_alloc_new (w.alloc (.cells (uL x) 28)) (.cells (uL y) 28)
  rwa [World.size_alloc] at this
 ·have:=heap_alloc_new ((w.alloc (.cells (uL x) 28)).alloc (.cells (uL y) 28)) (.cells (uL (0,0,0,0)) 28)
  rwa [World.size_alloc,World.size_alloc] at this
theorem MAt.below {w wr w':World} {x y:W4} (h:MAt w x y wr) (hb:Below wr.heap.size wr w'):MAt w x y w' :=
 ⟨bl_then h.b hb,(hb.block _ (lt_of_at h.x)).trans h.x,(hb.block _ (lt_of_at h.y)).trans h.y,(hb.block _ (lt_of_at h.r)).trans h.r⟩
theorem umul_any (x y:W4) (hx:x.Ok) (hy:y.Ok) (w:World):Calls Tryz.prog 132 #[uV x,uV y] w fun e w'=>e = .returned (.tuple #[uV (mulW x y),.bool (mulB x y)])∧Below w.heap.size w w':=by
 have H0:=MAt.start w x y
 have HU1:Hid (∀ W,MAt w x y W→Calls Tryz.prog 190 #[uV x] W fun e w'=>e = .returned (.int .i64 (uUsed x))∧MAt w x y w'∧Cel4 w.heap.size x w'∧Cel4 (w.heap.size+1) y w'):=fun W h=>(used_any x W).mono fun e w' ⟨he,hb⟩=>⟨he,h.below hb,cel4_row (h.below hb).x,cel4_row (h.below hb).y⟩
 have HU2:Hid (∀ W,MAt w x y W→Calls Tryz.prog 190 #[uV y] W fun e w'=>e = .returned (.int .i64 (uUsed y))∧MAt w x y w'∧Cel4 w.heap.size x w'∧Cel4 (w.heap.size+1) y w'):=fun W h=>(used_any y W).mono fun e w' ⟨he,hb⟩=>⟨he,h.below hb,cel4_row (h.below hb).x,cel4_row (h.below hb).y⟩
 obtain ⟨p0,p1,p2,p3,_⟩:=row4 H0.x
 obtain ⟨q0,q1,q2,q3,_⟩:=row4 H0.y
 have HD:Hid (MAt w x y (((w.alloc (.cells (uL x) 28)).alloc (.cells (uL y) 28)).alloc (.cells #[.int .u64 0,.int .u64 0,.int .u64 0,.int .u64 0] 28)).drew):=H0.below (bl_drew (Below.refl _ _))
 have HOv:=Lib.hid (uUsed_over (x:=x) (y:=y))
 have HLx:=uUsed_le x
 have HLy:=uUsed_le y
 clear H0
 go_enter Tryz.func132,Tryz.ntmps132
 go_wp2_with fail
 go_region_held3 (fun w'=>w'.cell? ⟨w.heap.size,0,none⟩=some (.int .u64 x.1)∧w'.cell? ⟨w.heap.size,1,none⟩=some (.int .u64 x.2.1)∧w'.cell? ⟨w.heap.size,2,none⟩=some (.int .u64 x.2.2.1)∧w'.cell? ⟨w.heap.size,3,none⟩=some (.int .u64 x.2.2.2)∧w'.cell? ⟨w.heap.size+1,0,none⟩=some (.int .u64 y.1)∧w'.cell? ⟨w.heap.size+1,1,none⟩=some (.int .u64 y.2.1)∧w'.cell? ⟨w.heap.size+1,2,none⟩=some (.int .u64 y.2.2.1)∧w'.cell? ⟨w.heap.size+1,3,none⟩=some (.int .u64 y.2.2.2)) (first | assumption | go_keep)
  (first
   | (go_at_call 190; (with_reducible refine Calls.mono (HU1.out _ HD.out) ?_); rintro e w2 ⟨rfl,hM2,⟨a0,a1,a2,a3⟩,b0,b1,b2,b3⟩)
   | (go_at_call 190; (with_reducible refine Calls.mono (HU2.out _ hM2) ?_); rintro e w3 ⟨rfl,hM3,⟨c0,c1,c2,c3⟩,d0,d1,d2,d3⟩))
 all_goals
  have HM:=Lib.hid hM3
  clear hM2 hM3 HD HU1 HU2 p0 p1 p2 p3 q0 q1 q2 q3 a0 a1 a2 a3 b0 b1 b2 b3 c0 c1 c2 c3 d0 d1 d2 d3
  by_cases h5:5 < uUsed x+uUsed y
  ·have e1:mulB x y=false:=decide_eq_false (by have:=HOv.out h5; omega)
   have e2:mulW x y=(0,0,0,0):=if_neg (by have:=HOv.out h5; omega)
   have e3:Ending.returned (.tuple #[uV (0,0,0,0),.bool false])=Ending.returned (.tuple #[uV (mulW x y),.bool (mulB x y)]):=by rw [e1,e2]
   have E:=Lib.hid e3
   clear e1 e2 e3
   have hwu:IntKind.i64.wrap (((uUsed x:Nat):Int)+((uUsed y:Nat):Int))=((uUsed x:Nat):Int)+((uUsed y:Nat):Int):=by rw [IntKind.wrap_i64]; omega
   have hd5:decide (5 < ((uUsed x:Nat):Int)+((uUsed y:Nat):Int))=true:=decide_eq_true (by omega)
   rw [hwu,hd5]
   clear hwu hd5
   obtain ⟨_,_,_,_,r0,r1,r2,r3⟩:=row4 HM.out.r
   go_wp2_with fail
   refine bodyPost_ret (results_cell_row2 rfl _ _ (w.heap.size+2) 28 (uL (0,0,0,0)) (0,0) _ rfl (put4 HM.out.r (0,0,0,0)) Tryz.underlying28 rfl (by kernel_rfl)) rfl ?_
   exact ⟨E.out,put4_below HM.out.b (by omega) _ _ _ _⟩
  ·have hwu:IntKind.i64.wrap (((uUsed x:Nat):Int)+((uUsed y:Nat):Int))=((uUsed x:Nat):Int)+((uUsed y:Nat):Int):=by rw [IntKind.wrap_i64]; omega
   have hd5:decide (5 < ((uUsed x:Nat):Int)+((uUsed y:Nat):Int))=false:=decide_eq_false (by omega)
   rw [hwu,hd5]
   clear hwu hd5
   have ax:∀ o,Cel4 w.heap.size x (w3.alloc o):=fun o=>cel4_row (HM.out.below (bl_alloc (Below.refl _ _) o)).x
   have a0:=fun o=>(ax o).1
   have a1:=fun o=>(ax o).2.1
   have a2:=fun o=>(ax o).2.2.1
   have a3:=fun o=>(ax o).2.2.2
   clear ax
   have HU:Hid (Calls Tryz.prog 190 #[uV x] (w3.alloc (.cells (aV (List.replicate 8 0)) 225)) fun e w'=>e = .returned (.int .i64 (uUsed x))∧PAt 225 28 (uL (0,0,0,0)) w3.heap.size w x y (List.replicate 8 0) w'):=by
    refine (used_any x _).mono fun e w' ⟨he,hb⟩=>⟨he,?_⟩
    have h3:=(HM.out.below (bl_alloc (Below.refl _ _) (.cells (aV (List.replicate 8 0)) 225))).below hb
    have h4:=heap_alloc_new w3 (.cells (aV (List.replicate 8 0)) 225)
    exact ⟨h3.b,h3.x,h3.y,h3.r,(hb.block _ (by simp)).trans h4,lt_of_at HM.out.r⟩
   have HLow:=Lib.hid (uUsed_low x)
   generalize hn:uUsed x=n at *
   clear hn
   go_wp2_with fail
   refine Calls.mono HU.out ?_
   rintro e w4 ⟨rfl,hP⟩
   have H0:=Lib.hid hP
   generalize w3.heap.size=g at *
   clear hP HU HM
   go_wp2_with fail
   go_loopw [22] (fun iv wr=>∃ i:Nat,iv = .int .i64 i∧i≤n∧PAt 225 28 (uL (0,0,0,0)) g w x y (mOut Bq 8 x.at y.at 4 i) wr) (fun iv _=>n - (intOf iv).toNat)
   case atStart=>exact ⟨0,rfl,by omega,H0.out⟩
   case round =>
    obtain ⟨i,rfl,hi,hA⟩:=hrel
    obtain ⟨wo,rfl⟩:∃ wo:World,wo=wr:=⟨_,rfl⟩
    have HA:=Lib.hid hA
    clear hA H0
    by_cases hln:i < n
    ·have hlt:i < 4:=by omega
     have hdi2:decide ((i:Int) < (n:Int))=true:=decide_eq_true (by omega)
     have hdi3:decide (i < n)=true:=decide_eq_true hln
     obtain ⟨y0,y1,y2,y3,_⟩:=row4 HA.out.y
     go_wp2_with fail
     have HX1:=hx.at i
     have HI:=Lib.hid (fun j (hj:j≤4)=>mIn_inv Bq (x.at i) y.at i 4 (mOut Bq 8 x.at y.at 4 i) HX1 (fun k=>hy.at k) (mOut_inv Bq 8 x.at y.at 4 (by decide) (fun k=>hx.at k) (fun k=>hy.at k) i (by omega)).2.1 (by rw [(mOut_inv Bq 8 x.at y.at 4 (by decide) (fun k=>hx.at k) (fun k=>hy.at k) i (by omega)).1]; omega) j hj)
     have HLn:=Lib.hid (mOut_inv Bq 8 x.at y.at 4 (by decide) (fun k=>hx.at k) (fun k=>hy.at k) i (by omega)).1
     have HM:Hid (mOut Bq 8 x.at y.at 4 (i+1)=(mIn Bq (x.at i) y.at i (mOut Bq 8 x.at y.at 4 i) 4).1.set (i+4) (mIn Bq (x.at i) y.at i (mOut Bq 8 x.at y.at 4 i) 4).2):=rfl
     clear y0 y1 y2 y3
     generalize hl0:mOut Bq 8 x.at y.at 4 i=l0 at *
     clear hl0
     go_loopw [25,8] (fun jv cv wr=>∃ j:Nat,jv = .int .i64 j∧j≤4∧cv = .int .u64 (mIn Bq (x.at i) y.at i l0 j).2∧PAt 225 28 (uL (0,0,0,0)) g w x y (mIn Bq (x.at i) y.at i l0 j).1 wr) (fun jv _ _=>4 - (intOf jv).toNat)
     case atStart=>exact ⟨0,rfl,by omega,rfl,HA.out⟩
     case round =>
      obtain ⟨j,rfl,hj,rfl,hA⟩:=hrel
      have HA2:=Lib.hid hA
      clear hA HA
      by_cases hjl:j < 4
      ·obtain ⟨z1,z2,z3,z4,z5⟩:=HI.out j hj
       have hlen:i+j < (mIn Bq (x.at i) y.at i l0 j).1.length:=by rw [z1,HLn.out]; omega
       have cO:wr.cell? ⟨g,i+j,none⟩=some (.int .u64 (((mIn Bq (x.at i) y.at i l0 j).1.getD (i+j) 0:Nat):Int)):=by rw [cell_of_row _ _ _ _ _ _ HA2.out.o]; exact aV_at hlen
       have fO:wr.frozen? ⟨g,i+j,none⟩=false:=frozen_of_row _ _ _ _ _ HA2.out.o
       have cX:wr.cell? ⟨w.heap.size,i,none⟩=some (.int .u64 (x.at i)):=by rw [cell_of_row _ _ _ _ _ _ HA2.out.x]; exact uL_at x i hlt
       have cY:wr.cell? ⟨w.heap.size+1,j,none⟩=some (.int .u64 (y.at j)):=by rw [cell_of_row _ _ _ _ _ _ HA2.out.y]; exact uL_at y j hjl
       have HO:=Words.getD (by decide) z2 (i+j)
       have HY1:=hy.at j
       have HS:=Lib.hid (mstep HX1 HY1 HO z3)
       have HN:Hid (PAt 225 28 (uL (0,0,0,0)) g w x y (mIn Bq (x.at i) y.at i l0 (j+1)).1 (wr.setCell ⟨g,i+j,none⟩ (.int .u64 (((x.at i*y.at j+(mIn Bq (x.at i) y.at i l0 j).1.getD (i+j) 0+(mIn Bq (x.at i) y.at i l0 j).2) % Bq:Nat):Int)))):=HA2.out.put _ _
       have HC:Hid ((mIn Bq (x.at i) y.at i l0 (j+1)).2=(x.at i*y.at j+(mIn Bq (x.at i) y.at i l0 j).1.getD (i+j) 0+(mIn Bq (x.at i) y.at i l0 j).2) / Bq):=rfl
       have HPr:=Lib.hid (fun (wr:World)=>product_any (x.at i) (y.at j) HX1 HY1 wr)
       have HC1:=Lib.hid (fun (wr:World)=>carry_any (x.at i*y.at j % 18446744073709551616) ((mIn Bq (x.at i) y.at i l0 j).1.getD (i+j) 0) 0 (Nat.mod_lt _ (by decide)) HO (by decide) wr)
       have HC2:=Lib.hid (fun (wr:World)=>carry_any (addS (x.at i*y.at j % 18446744073709551616) ((mIn Bq (x.at i) y.at i l0 j).1.getD (i+j) 0) 0) ((mIn Bq (x.at i) y.at i l0 j).2) 0 (Nat.mod_lt _ (by decide)) z3 (by decide) wr)
       have hwr:IntKind.i64.wrap ((i:Int)+(j:Int))=((i+j:Nat):Int):=by rw [IntKind.wrap_i64]; omega
       clear z1 z2 z3 z4 z5 hlen HO HY1 HX1 HI
       generalize (mIn Bq (x.at i) y.at i l0 j).2=c0 at *
       generalize (mIn Bq (x.at i) y.at i l0 j).1.getD (i+j) 0=o0 at *
       go_wp2_with fail
       go_region_with (go_at_call 191; refine (HPr.out _).mono ?_; rintro e w' ⟨rfl,rfl⟩)
       all_goals
        go_wp2_with fail
        refine Calls.mono (HC1.out _) ?_
        rintro e w' ⟨rfl,rfl⟩
        go_wp2_with fail
        refine Calls.mono (HC2.out _) ?_
        rintro e w' ⟨rfl,rfl⟩
        go_wp2_with fail
        rw [HS.out.1]
        go_roundw
        case rel=>exact ⟨j+1,by go_num,by omega,by rw [HC.out,← HS.out.2],HN.out.drew⟩
        case measure=>simp [intOf]; omega
      ·obtain rfl:j=4:=by omega
       have fO:wr.frozen? ⟨g,i+4,none⟩=false:=frozen_of_row _ _ _ _ _ HA2.out.o
       have hlen:i+4 < (mIn Bq (x.at i) y.at i l0 4).1.length:=by rw [(HI.out 4 (by omega)).1,HLn.out]; omega
       have cO:wr.cell? ⟨g,i+4,none⟩=some (.int .u64 (((mIn Bq (x.at i) y.at i l0 4).1.getD (i+4) 0:Nat):Int)):=by rw [cell_of_row _ _ _ _ _ _ HA2.out.o]; exact aV_at hlen
       have HN:Hid (PAt 225 28 (uL (0,0,0,0)) g w x y (mOut Bq 8 x.at y.at 4 (i+1)) (wr.setCell ⟨g,i+4,none⟩ (.int .u64 ((mIn Bq (x.at i) y.at i l0 4).2:Nat)))):=by rw [HM.out]; exact HA2.out.put _ _
       clear hlen HI HM
       generalize (mIn Bq (x.at i) y.at i l0 4).2=c0 at *
       generalize (mIn Bq (x.at i) y.at i l0 4).1.getD (i+4) 0=o0 at *
       go_wp2_with fail
       go_roundw
       case rel=>exact ⟨i+1,by go_num,by omega,HN.out⟩
       case measure=>simp [intOf]; omega
    ·obtain rfl:i=n:=by omega
     have hinv:=mOut_inv Bq 8 x.at y.at 4 (by decide) (fun k=>hx.at k) (fun k=>hy.at k) i (by omega)
     have hw8:=words8 hinv.1 hinv.2.1
     rw [hinv.2.2.1,HLow.out,uLow_4] at hw8
     have hrow:wo.heap[g]? = some (.cells (wL (uOf (uN x*uN y)) (hiOf (uN x*uN y))) 225 (0,0)):=by
      have h1:=HA.out.o
      rw [hw8] at h1
      exact h1
     have HF:Hid (∀ lo hh,uOf (uN x*uN y)=lo→hiOf (uN x*uN y)=hh→(hh=(0,0,0,0)→Ending.returned (.tuple #[uV lo,.bool true])=Ending.returned (.tuple #[uV (mulW x y),.bool (mulB x y)]))∧(hh≠(0,0,0,0)→Ending.returned (.tuple #[uV (0,0,0,0),.bool false])=Ending.returned (.tuple #[uV (mulW x y),.bool (mulB x y)]))):=fun lo hh h1 h2=>by
      have hlt:=uN_lt hx
      have hlt2:=uN_lt hy
      have hP:uN x*uN y / 115792089237316195423570985008687907853269984665640564039457584007913129639936 < 115792089237316195423570985008687907853269984665640564039457584007913129639936:=Nat.div_lt_of_lt_mul (Nat.mul_lt_mul_of_lt_of_le hlt (Nat.le_of_lt hlt2) (by decide))
      have hz:hh=(0,0,0,0)↔uN x*uN y < 115792089237316195423570985008687907853269984665640564039457584007913129639936:=by
       rw [u0_iff,← h2]; unfold hiOf; rw [uN_of hP]; omega
      refine ⟨fun h => ?_,fun h => ?_⟩
      ·have h3:=hz.1 h
       have e1:mulB x y=true:=decide_eq_true h3
       have e2:mulW x y=lo:=by unfold mulW; rw [if_pos h3,h1]
       rw [e1,e2]
      ·have h3:=fun h4=>h (hz.2 h4)
       have e1:mulB x y=false:=decide_eq_false h3
       have e2:mulW x y=(0,0,0,0):=by unfold mulW; rw [if_neg h3]
       rw [e1,e2]
     clear hinv hw8
     generalize hlo:uOf (uN x*uN y)=lo at hrow
     generalize hhh:hiOf (uN x*uN y)=hh at hrow
     have HF2:=Lib.hid (HF.out lo hh hlo hhh)
     clear HF hlo hhh
     have hd4:decide ((i:Int) < (i:Int))=false:=decide_eq_false (by omega)
     have hd5:decide (i < i)=false:=decide_eq_false (by omega)
     have hc:∀ k v,(wL lo hh)[k]? = some v→wo.cell? ⟨g,k,none⟩=some v:=fun k v hk=>by rw [cell_of_row _ _ _ _ _ _ hrow]; exact hk
     have c0:=hc 0 _ rfl
     have c1:=hc 1 _ rfl
     have c2:=hc 2 _ rfl
     have c3:=hc 3 _ rfl
     have c4:=hc 4 _ rfl
     have c5:=hc 5 _ rfl
     have c6:=hc 6 _ rfl
     have c7:=hc 7 _ rfl
     have s1:=slice_hi8 g
     have s2:=slice_lo8 g
     have s3:=arr_at4 g 4 4
     have s4:=arr_at g 0 8
     obtain ⟨t0,t1,t2,t3,r0,r1,r2,r3⟩:=row4 HA.out.r
     clear hc hrow
     by_cases hz:hh=(0,0,0,0)
     ·have HE:=Lib.hid (HF2.out.1 hz)
      have hE:∀ w,(Op.equalIn 10000 27 (.agg #[.int .u64 hh.1,.int .u64 hh.2.1,.int .u64 hh.2.2.1,.int .u64 hh.2.2.2]) (.agg #[.int .u64 0,.int .u64 0,.int .u64 0,.int .u64 0])).run Tryz.prog w = .ok true w:=fun w=>by
       have:=eqU4 hh (0,0,0,0) w
       rw [decide_eq_true hz] at this
       exact this
      clear hz
      go_wp2_with fail
      refine bodyPost_ret (results_cell_row2 rfl _ _ (w.heap.size+2) 28 (uL lo) (0,0) _ rfl (put4 HA.out.r lo) Tryz.underlying28 rfl (by kernel_rfl)) rfl ?_
      exact ⟨HE.out,put4_below HA.out.b (by omega) _ _ _ _⟩
     ·have HE:=Lib.hid (HF2.out.2 hz)
      have hE:∀ w,(Op.equalIn 10000 27 (.agg #[.int .u64 hh.1,.int .u64 hh.2.1,.int .u64 hh.2.2.1,.int .u64 hh.2.2.2]) (.agg #[.int .u64 0,.int .u64 0,.int .u64 0,.int .u64 0])).run Tryz.prog w = .ok false w:=fun w=>by
       have:=eqU4 hh (0,0,0,0) w
       rw [decide_eq_false hz] at this
       exact this
      clear hz
      go_wp2_with fail
      refine bodyPost_ret (results_cell_row2 rfl _ _ (w.heap.size+2) 28 (uL (0,0,0,0)) (0,0) _ rfl (put4 HA.out.r (0,0,0,0)) Tryz.underlying28 rfl (by kernel_rfl)) rfl ?_
      exact ⟨HE.out,put4_below HA.out.b (by omega) _ _ _ _⟩
end Go.Proofs.YtpojljieakdgiaaGreat
