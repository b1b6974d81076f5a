/- What is proved here: HoldingActs' walk. Its condition: ints below 2^63, words below 2^64. the given statement HoldingActsSaid: the law HoldingActs returns true at every input, and what was there when it was called stands. -/
import Derived.Test.YtpojljieakdgiaaGreatDOpenA23
import Derived.Test.YtpojljieakdgiaaGreatDRow
set_option maxRecDepth 100000
set_option maxHeartbeats 16000000
namespace Go.Proofs.YtpojljieakdgiaaGreat
open Go.RowKit
theorem hacts_walk (w:World) (a:Option Addr) (c:Nat) (l:List HAct) (h:Acts23In w a l):Calls Tryz.prog 7 #[.slice a l.length c] w fun e w'=>e = .returned (.bool true)∧Below w.heap.size w w':=by
 have HL:=Lib.hid (lives23 w)
 have HN:=Lib.hid (htwo_new w)
 by_cases h150:100 < l.length
 ·have hd:decide ((100:Int) < (l.length:Int))=true:=decide_eq_true (by omega)
  clear h
  generalize l.length=n at *
  go_enter Tryz.func7,Tryz.ntmps7
  go_wp2_with (go_at_call 11; refine HL.out.mono ?_; rintro e w1 ⟨rfl,h1⟩)
  go_ret
  exact ⟨rfl,h1⟩
 ·have hd:decide ((100:Int) < (l.length:Int))=false:=decide_eq_false (by omega)
  have HC:Hid (∀ wr k x,Below w.heap.size w wr→l[k]? = some x→At12 a k x wr):=fun wr k x hb hk=>h.at12 hb hk
  have HOK:Hid (∀ (k:Nat) (x:HAct),l[k]? = some x→x.Ok):=fun k x hk=>h.ok x (List.mem_of_getElem? hk)
  have HG:Hid (∀ k,k < l.length→∃ x,l[k]? = some x):=fun k hk=>⟨_,List.getElem?_eq_getElem hk⟩
  have HB:Hid (∀ q m k wr,HTwo w q m k wr→Below w.heap.size w wr):=fun q m k wr h=>h.below
  have HR:Hid (∀ q m (k:Nat) wr (x:HAct),HTwo w q m k wr→k < 1000→x.Ok→HRound w q m k wr.heap.size x (wr.alloc (.cells #[.int .i64 x.kd,.int .i64 x.st,.int .i64 x.op,.int .i64 x.sg,.int .u64 x.am.1,.int .u64 x.am.2.1,.int .u64 x.am.2.2.1,.int .u64 x.am.2.2.2,.int .u64 x.ax.1,.int .u64 x.ax.2.1,.int .u64 x.ax.2.2.1,.int .u64 x.ax.2.2.2] 53)).drew):=fun q m k wr x h hk hx=>hround h hk x hx ⟨rfl,rfl,rfl,Nat.le_refl _,fun _ _=>rfl⟩
  have HD:Hid (∀ q m k wr,HTwo w q m k wr→k < 1000→∃ a2 n c2,LRow m a2 n c2 wr∧HEnd w q m a2 n c2 wr.drew):=fun q m k wr h hk=>hend h hk
  have HEQ:Hid (∀ u:W4,∀ w,(Op.equalIn 10000 28 (uV u) (uV u)).run Tryz.prog w = .ok true w):=fun u w=>by
   have:=eqU u u w
   rwa [decide_eq_true rfl] at this
  clear h
  generalize l.length=n at *
  go_enter Tryz.func7,Tryz.ntmps7
  go_wp2_with fail
  refine Calls.mono HN.out ?_
  rintro e w2 ⟨b,rfl,hS0⟩
  have H0:=Lib.hid (hS0 _ rfl)
  clear hS0
  generalize hmm:w2.heap.size=m at H0
  go_wp2_with fail
  go_loopw [16] (fun i wr=>∃ k:Nat,i = .int .i64 k∧k≤n∧HTwo w b m k wr) (fun i _=>n - (intOf i).toNat)
  case atStart=>exact ⟨0,rfl,by omega,H0.out⟩
  case round =>
   obtain ⟨k,rfl,hk,hA⟩:=hrel
   have HA:=Lib.hid hA
   clear hA H0
   by_cases hlt:k < n
   ·obtain ⟨x,hx⟩:=HG.out k hlt
    obtain ⟨ad,rfl,q0,qs⟩:=HC.out wr k _ (HB.out _ _ _ _ HA.out) hx
    have HRO:=Lib.hid (HR.out b m k wr x HA.out (by omega) (HOK.out k x hx))
    have hn0:=World.new_ne wr
    unfold HRound at HRO
    unfold HAct.L at HRO qs
    clear hx
    obtain ⟨xk,xa,xo,xt,⟨M0,M1,M2,M3⟩,⟨X0,X1,X2,X3⟩⟩:=x
    simp only at q0 qs HRO
    have q1:=qs 1 _ rfl (by decide)
    have q2:=qs 2 _ rfl (by decide)
    have q3:=qs 3 _ rfl (by decide)
    have q4:=qs 4 _ rfl (by decide)
    have q5:=qs 5 _ rfl (by decide)
    have q6:=qs 6 _ rfl (by decide)
    have q7:=qs 7 _ rfl (by decide)
    have q8:=qs 8 _ rfl (by decide)
    have q9:=qs 9 _ rfl (by decide)
    have q10:=qs 10 _ rfl (by decide)
    have q11:=qs 11 _ rfl (by decide)
    clear qs
    go_upto_region 7 with fail
    simp only [List.append]
    have c0:(wr.alloc (.cells #[.int .i64 xk,.int .i64 xa,.int .i64 xo,.int .i64 xt,.int .u64 M0,.int .u64 M1,.int .u64 M2,.int .u64 M3,.int .u64 X0,.int .u64 X1,.int .u64 X2,.int .u64 X3] 53)).cell? ⟨wr.heap.size,0,none⟩=some (.int .i64 xk):=by rw [cell_of_row _ _ _ _ _ _ (heap_alloc_new wr _)]; rfl
    have c1:(wr.alloc (.cells #[.int .i64 xk,.int .i64 xa,.int .i64 xo,.int .i64 xt,.int .u64 M0,.int .u64 M1,.int .u64 M2,.int .u64 M3,.int .u64 X0,.int .u64 X1,.int .u64 X2,.int .u64 X3] 53)).cell? ⟨wr.heap.size,1,none⟩=some (.int .i64 xa):=by rw [cell_of_row _ _ _ _ _ _ (heap_alloc_new wr _)]; rfl
    have c2:(wr.alloc (.cells #[.int .i64 xk,.int .i64 xa,.int .i64 xo,.int .i64 xt,.int .u64 M0,.int .u64 M1,.int .u64 M2,.int .u64 M3,.int .u64 X0,.int .u64 X1,.int .u64 X2,.int .u64 X3] 53)).cell? ⟨wr.heap.size,2,none⟩=some (.int .i64 xo):=by rw [cell_of_row _ _ _ _ _ _ (heap_alloc_new wr _)]; rfl
    have c3:(wr.alloc (.cells #[.int .i64 xk,.int .i64 xa,.int .i64 xo,.int .i64 xt,.int .u64 M0,.int .u64 M1,.int .u64 M2,.int .u64 M3,.int .u64 X0,.int .u64 X1,.int .u64 X2,.int .u64 X3] 53)).cell? ⟨wr.heap.size,3,none⟩=some (.int .i64 xt):=by rw [cell_of_row _ _ _ _ _ _ (heap_alloc_new wr _)]; rfl
    have c4:(wr.alloc (.cells #[.int .i64 xk,.int .i64 xa,.int .i64 xo,.int .i64 xt,.int .u64 M0,.int .u64 M1,.int .u64 M2,.int .u64 M3,.int .u64 X0,.int .u64 X1,.int .u64 X2,.int .u64 X3] 53)).cell? ⟨wr.heap.size,4,none⟩=some (.int .u64 M0):=by rw [cell_of_row _ _ _ _ _ _ (heap_alloc_new wr _)]; rfl
    have c5:(wr.alloc (.cells #[.int .i64 xk,.int .i64 xa,.int .i64 xo,.int .i64 xt,.int .u64 M0,.int .u64 M1,.int .u64 M2,.int .u64 M3,.int .u64 X0,.int .u64 X1,.int .u64 X2,.int .u64 X3] 53)).cell? ⟨wr.heap.size,5,none⟩=some (.int .u64 M1):=by rw [cell_of_row _ _ _ _ _ _ (heap_alloc_new wr _)]; rfl
    have c6:(wr.alloc (.cells #[.int .i64 xk,.int .i64 xa,.int .i64 xo,.int .i64 xt,.int .u64 M0,.int .u64 M1,.int .u64 M2,.int .u64 M3,.int .u64 X0,.int .u64 X1,.int .u64 X2,.int .u64 X3] 53)).cell? ⟨wr.heap.size,6,none⟩=some (.int .u64 M2):=by rw [cell_of_row _ _ _ _ _ _ (heap_alloc_new wr _)]; rfl
    have c7:(wr.alloc (.cells #[.int .i64 xk,.int .i64 xa,.int .i64 xo,.int .i64 xt,.int .u64 M0,.int .u64 M1,.int .u64 M2,.int .u64 M3,.int .u64 X0,.int .u64 X1,.int .u64 X2,.int .u64 X3] 53)).cell? ⟨wr.heap.size,7,none⟩=some (.int .u64 M3):=by rw [cell_of_row _ _ _ _ _ _ (heap_alloc_new wr _)]; rfl
    have c8:(wr.alloc (.cells #[.int .i64 xk,.int .i64 xa,.int .i64 xo,.int .i64 xt,.int .u64 M0,.int .u64 M1,.int .u64 M2,.int .u64 M3,.int .u64 X0,.int .u64 X1,.int .u64 X2,.int .u64 X3] 53)).cell? ⟨wr.heap.size,8,none⟩=some (.int .u64 X0):=by rw [cell_of_row _ _ _ _ _ _ (heap_alloc_new wr _)]; rfl
    have c9:(wr.alloc (.cells #[.int .i64 xk,.int .i64 xa,.int .i64 xo,.int .i64 xt,.int .u64 M0,.int .u64 M1,.int .u64 M2,.int .u64 M3,.int .u64 X0,.int .u64 X1,.int .u64 X2,.int .u64 X3] 53)).cell? ⟨wr.heap.size,9,none⟩=some (.int .u64 X1):=by rw [cell_of_row _ _ _ _ _ _ (heap_alloc_new wr _)]; rfl
    have c10:(wr.alloc (.cells #[.int .i64 xk,.int .i64 xa,.int .i64 xo,.int .i64 xt,.int .u64 M0,.int .u64 M1,.int .u64 M2,.int .u64 M3,.int .u64 X0,.int .u64 X1,.int .u64 X2,.int .u64 X3] 53)).cell? ⟨wr.heap.size,10,none⟩=some (.int .u64 X2):=by rw [cell_of_row _ _ _ _ _ _ (heap_alloc_new wr _)]; rfl
    have c11:(wr.alloc (.cells #[.int .i64 xk,.int .i64 xa,.int .i64 xo,.int .i64 xt,.int .u64 M0,.int .u64 M1,.int .u64 M2,.int .u64 M3,.int .u64 X0,.int .u64 X1,.int .u64 X2,.int .u64 X3] 53)).cell? ⟨wr.heap.size,11,none⟩=some (.int .u64 X3):=by rw [cell_of_row _ _ _ _ _ _ (heap_alloc_new wr _)]; rfl
    clear hn0 q0 q1 q2 q3 q4 q5 q6 q7 q8 q9 q10 q11 HA
    generalize wr.alloc (.cells #[.int .i64 xk,.int .i64 xa,.int .i64 xo,.int .i64 xt,.int .u64 M0,.int .u64 M1,.int .u64 M2,.int .u64 M3,.int .u64 X0,.int .u64 X1,.int .u64 X2,.int .u64 X3] 53)=w0 at *
    generalize wr.heap.size=bx at *
    go_region_held3 (fun w'=>w'.cell? ⟨bx,0,none⟩=some (.int .i64 xk)∧w'.cell? ⟨bx,1,none⟩=some (.int .i64 xa)∧w'.cell? ⟨bx,2,none⟩=some (.int .i64 xo)∧w'.cell? ⟨bx,3,none⟩=some (.int .i64 xt)∧w'.cell? ⟨bx,4,none⟩=some (.int .u64 M0)∧w'.cell? ⟨bx,5,none⟩=some (.int .u64 M1)∧w'.cell? ⟨bx,6,none⟩=some (.int .u64 M2)∧w'.cell? ⟨bx,7,none⟩=some (.int .u64 M3)∧w'.cell? ⟨bx,8,none⟩=some (.int .u64 X0)∧w'.cell? ⟨bx,9,none⟩=some (.int .u64 X1)∧w'.cell? ⟨bx,10,none⟩=some (.int .u64 X2)∧w'.cell? ⟨bx,11,none⟩=some (.int .u64 X3)) (go_keep)
     (first
      | (go_at_call 28; refine Calls.mono HRO.out ?_; rintro e v1 ⟨rfl,⟨⟨x1_0,x1_1,x1_2,x1_3⟩,⟨x1_4,x1_5,x1_6,x1_7⟩,x1_8,x1_9,x1_10,x1_11⟩,hS⟩; have HS1:=Lib.hid hS; clear hS; unfold HRoundB at HS1)
      | (go_at_call 16; refine Calls.mono HS1.out ?_; rintro e v2 ⟨u1,rfl,⟨⟨x2_0,x2_1,x2_2,x2_3⟩,⟨x2_4,x2_5,x2_6,x2_7⟩,x2_8,x2_9,x2_10,x2_11⟩,hS⟩; have HS2:=Lib.hid hS; clear hS; have hqu1:=HEQ.out u1)
      | (go_at_call 33; refine Calls.mono HS2.out ?_; rintro e v3 ⟨rfl,⟨⟨x3_0,x3_1,x3_2,x3_3⟩,⟨x3_4,x3_5,x3_6,x3_7⟩,x3_8,x3_9,x3_10,x3_11⟩,hS⟩; have HS3:=Lib.hid hS; clear hS)
      | (go_at_call 31; refine Calls.mono HS3.out ?_; rintro e v4 ⟨u2,rfl,⟨⟨x4_0,x4_1,x4_2,x4_3⟩,⟨x4_4,x4_5,x4_6,x4_7⟩,x4_8,x4_9,x4_10,x4_11⟩,hS⟩; have HS4:=Lib.hid hS; clear hS; have hqu2:=HEQ.out u2)
      | (go_at_call 34; refine Calls.mono HS4.out ?_; rintro e v5 ⟨rfl,⟨⟨x5_0,x5_1,x5_2,x5_3⟩,⟨x5_4,x5_5,x5_6,x5_7⟩,x5_8,x5_9,x5_10,x5_11⟩,hS⟩; have HS5:=Lib.hid hS; clear hS)
      | (go_at_call 24; refine Calls.mono HS5.out ?_; rintro e v6 ⟨u3,rfl,⟨⟨x6_0,x6_1,x6_2,x6_3⟩,⟨x6_4,x6_5,x6_6,x6_7⟩,x6_8,x6_9,x6_10,x6_11⟩,hS⟩; have HS6:=Lib.hid hS; clear hS; have hqu3:=HEQ.out u3)
      | (go_at_call 35; refine Calls.mono HS6.out ?_; rintro e v7 ⟨rfl,⟨⟨x7_0,x7_1,x7_2,x7_3⟩,⟨x7_4,x7_5,x7_6,x7_7⟩,x7_8,x7_9,x7_10,x7_11⟩,hS⟩; have HS7:=Lib.hid hS; clear hS)
      | (go_at_call 22; refine Calls.mono HS7.out ?_; rintro e v8 ⟨u4,rfl,⟨⟨x8_0,x8_1,x8_2,x8_3⟩,⟨x8_4,x8_5,x8_6,x8_7⟩,x8_8,x8_9,x8_10,x8_11⟩,hS⟩; have HS8:=Lib.hid hS; clear hS; have hqu4:=HEQ.out u4)
      | (go_at_call 36; refine Calls.mono HS8.out ?_; rintro e v9 ⟨rfl,⟨⟨x9_0,x9_1,x9_2,x9_3⟩,⟨x9_4,x9_5,x9_6,x9_7⟩,x9_8,x9_9,x9_10,x9_11⟩,hS⟩; have HS9:=Lib.hid hS; clear hS)
      | (go_at_call 32; refine Calls.mono HS9.out ?_; rintro e v10 ⟨a6,r,c6,rfl,⟨⟨x10_0,x10_1,x10_2,x10_3⟩,⟨x10_4,x10_5,x10_6,x10_7⟩,x10_8,x10_9,x10_10,x10_11⟩,hS⟩; have HS10:=Lib.hid hS; clear hS)
      | (go_at_call 38; refine Calls.mono HS10.out ?_; rintro e v11 ⟨a7,c7,rfl,⟨⟨x11_0,x11_1,x11_2,x11_3⟩,⟨x11_4,x11_5,x11_6,x11_7⟩,x11_8,x11_9,x11_10,x11_11⟩,hS⟩; have HS11:=Lib.hid hS; clear hS)
      | (go_at_call 37; refine Calls.mono HS11.out ?_; rintro e v12 ⟨rfl,⟨⟨x12_0,x12_1,x12_2,x12_3⟩,⟨x12_4,x12_5,x12_6,x12_7⟩,x12_8,x12_9,x12_10,x12_11⟩,hS⟩; have HS12:=Lib.hid hS; clear hS))
    go_wp2_with fail
    go_roundw
    case rel=>exact ⟨k+1,by go_num,by omega,HS12.out⟩
    case measure=>simp [intOf]; omega
   ·obtain rfl:k=n:=by omega
    obtain ⟨a2,n2,c2,hm,hD⟩:=HD.out b m k wr HA.out (by omega)
    have HDO:=Lib.hid hD
    clear hD
    unfold HEnd at HDO
    go_wp2_with fail
    go_region_held3 (fun w'=>w'.cell? ⟨m,0,none⟩=some (.slice a2 n2 c2)) (go_keep)
     (first
      | (go_at_call 29; refine Calls.mono HDO.out ?_; rintro e v4 ⟨a4,c4,rfl,hm4,hS⟩; have HS4:=Lib.hid hS; clear hS)
      | (go_at_call 30; refine Calls.mono HS4.out ?_; rintro e v5 ⟨rfl,hm5,hS⟩; have HS5:=Lib.hid hS; clear hS)
      | (go_at_call 11; refine Calls.mono HS5.out ?_; rintro e v6 ⟨rfl,hm6,hB6⟩))
    go_wp2
    go_ret
    exact ⟨rfl,hB6⟩
end Go.Proofs.YtpojljieakdgiaaGreat
namespace Go.Proofs.YtpojljieakdgiaaGreat.holdingActs
open Go.ChangeShapes Go.WideShapes Go.ChangeAt Go.RowKit
set_option linter.unusedVariables false
theorem params:Tryz.f7.params = #[51]:=rfl
theorem lifted (os:Os) (started:os.Started) (H:Type) (enc:TypeId × Value→H) :
  ReturnsInHanded {} Tryz.checked os 7 .any (Rows.holdingActsSpec.pre6 enc Tryz.prog Tryz.f7 Rows.holdingActsRow.domain false) (Rows.holdingActsSpec.post enc Tryz.prog Tryz.f7 false true false false):=by
 refine returnsInHanded_of_change (C:=Tryz.checked) own started (by kernel_rfl) Tryz.func7
  (ChangeSpec.witness6 (enc:=enc) (C:=Tryz.checked) false ⟨#[],#[.slice none 0 0],[]⟩ 8 (by kernel_rfl) (by kernel_rfl) (by kernel_rfl) (by kernel_rfl)) ?_
 intro W base args ds gs before hval0 hW hcnd _
 have hval:∀ (j:Nat) t v,Tryz.f7.params[j]? = some t→args[j]? = some v→Value.okWide Tryz.prog W .any base t v:=hval0
 have hW':=hW
 obtain ⟨p,q,hA0,hV,rfl,hfz,hnd⟩:=hW
 have hA:DataW.TrodAll enc Tryz.prog W 0 (fun _=>true) true Tryz.f7.params.toList args.toList ds p:=hA0
 rw [params] at hA hval
 obtain ⟨v0,vs0,d0,ds0,p0,q0,hargs,rfl,rfl,h0,r0⟩:=trodAll_cons hA
 obtain ⟨rfl,rfl,rfl⟩:=trodAll_nil r0
 obtain rfl:args = #[v0]:=by cases args; simp_all
 obtain ⟨rfl,rfl⟩:=trodVars_none hV
 obtain ⟨l0,a0,c0,rfl,hl0⟩:=open_acts23 (hval 0 51 v0 rfl rfl) h0
 clear hA0 hval0
 refine (hacts_walk W a0 c0 l0 hl0).mono fun e W' ⟨he,hg⟩ => ?_
 subst he
 exact ⟨_,rfl,post_true laid (tb:=4) (by kernel_rfl) rfl (fine_all (by kernel_rfl)) rfl hW' rfl hg⟩
theorem over:Rows.holdingActsRow.holds Tryz.pinned (OpenSpec.ofChange Rows.holdingActsSpec) :=
 OpenClaim.holds_of_wide 7 Tryz.f7 rfl rfl rfl rfl rfl rfl rfl ⟨rfl,rfl,rfl,rfl,rfl⟩ rfl rfl rfl rfl rfl (by kernel_rfl) Tryz.func7 (by kernel_rfl)
  (of_decide_eq_true (by kernel_rfl)) (by unfold Func.isWrapper; first | (rw [if_pos (by decide +kernel)]; kernel_rfl) | (rw [if_neg (by decide +kernel)]; exact ⟨rfl,rfl⟩))
  (fun os started H enc _=>lifted os started H enc)
theorem proved:Rows.HoldingActsSaid :=
 over
#print axioms proved
end Go.Proofs.YtpojljieakdgiaaGreat.holdingActs
