/- What is proved here: ExitNone's walk. Conditions: ints below 2^63, words below 2^64. the exit laws' act, opened. No condition. the given statement ExitNoneSaid: the law ExitNone returns true at every input, and what was there when it was called stands. -/
import Derived.Test.YtnkilceibkkjlaaGreatFExNo
import Derived.Test.YtnkilceibkkjlaaGreatFExLv
import Derived.Test.YtnkilceibkkjlaaGreatFOpenA24
import Derived.Test.YtnkilceibkkjlaaGreatFRow
set_option maxRecDepth 100000
set_option maxHeartbeats 16000000
namespace Go.Proofs.YtnkilceibkkjlaaGreat
open Go.RowKit
structure XAct where
 kd:Int
 id:Int
 dl:Int
 x:Ex
 m:W4
 n:W4
def XAct.L (A:XAct):Array Value:=#[.int .i64 A.kd,.int .i64 A.id,.int .i64 A.dl,.int .i64 A.x.st,.int .i64 A.x.op,.int .i64 A.x.sg,.int .i64 A.x.bl,.int .u64 A.x.wo.1,.int .u64 A.x.wo.2.1,.int .u64 A.x.wo.2.2.1,.int .u64 A.x.wo.2.2.2,.int .u64 A.x.mx.1,.int .u64 A.x.mx.2.1,.int .u64 A.x.mx.2.2.1,.int .u64 A.x.mx.2.2.2,.int .u64 A.m.1,.int .u64 A.m.2.1,.int .u64 A.m.2.2.1,.int .u64 A.m.2.2.2,.int .u64 A.n.1,.int .u64 A.n.2.1,.int .u64 A.n.2.2.1,.int .u64 A.n.2.2.2]
structure XAct.Ok (A:XAct):Prop where
 id:I63 A.id
 dl:I63 A.dl
 x:A.x.Ok
 m:A.m.Ok
 n:A.n.Ok
theorem rowX24 {w:World} {g:Nat} {cs:Array Value} {T:TypeId} (h:w.heap[g]? = some (.cells cs T (0,0))):∀ (o:Nat) v,cs[o]? = some v→w.cell? ⟨g,o,none⟩=some v:=fun o v hv=>by rw [cell_of_row _ _ _ _ _ _ h]; exact hv
theorem idx24_0 (a:Nat) (w:World):(Instr.index 94 (.agg #[.pointer none,.pointer (some ⟨a,0,none⟩)]) (.int .i64 0)).run Tryz.prog w = .ok (.pointer none) w:=by kernel_rfl
theorem idx24_1 (a:Nat) (w:World):(Instr.index 94 (.agg #[.pointer none,.pointer (some ⟨a,0,none⟩)]) (.int .i64 1)).run Tryz.prog w = .ok (.pointer (some ⟨a,0,none⟩)) w:=by kernel_rfl
theorem none_left (t:Int):St.left ⟨[],[]⟩ t=(0,0,0,0):=by
 show toAmt emptyB=_
 unfold toAmt
 rw [if_neg (by decide)]
theorem none_slash:St.slash ⟨[],[]⟩ 7 1 5 2=(0,0,0,0):=by kernel_rfl
theorem exitNone_walk (A:XAct) (hA:A.Ok) (w:World):Calls Tryz.prog 8 #[.agg A.L] w fun e w'=>e = .returned (.bool true)∧Below w.heap.size w w':=by
 have hB:=((BV.start w).alloc (.cells A.L 88)).alloc (.cells #[.bool false,.map none,.slice none 0 0,.slice none 0 0] 93)
 rw [World.size_alloc] at hB
 have hQS:∀ q,(q=none∨q=some ⟨w.heap.size+1,0,none⟩)→∀ rs W,(w.heap.size+1,Obj.cells #[.bool false,.map none,.slice none 0 0,.slice none 0 0] 93)∈rs→BV w rs W→QSt W ⟨q,false,q.toList.map (·.block)⟩ ⟨[],[]⟩:=fun q hq rs W hm hV=>by
  rcases hq with rfl | rfl
  ·exact .inr ⟨rfl,.inl rfl,rfl,rfl⟩
  ·have hr:=hV.row hm
   exact .inr ⟨rfl,.inr ⟨_,rfl,lt_of_at hr,rowX24 hr 0 _ rfl⟩,rfl,rfl⟩
 have HLV:Hid (∀ rs W,BV w rs W→Calls Tryz.prog 12 #[] W fun e w'=>e = .returned (.bool true)∧BV w rs w'):=fun rs W h=>h.reads (lives24 W)
 have HAD:Hid (∀ q,(q=none∨q=some ⟨w.heap.size+1,0,none⟩)→∀ rs W,(w.heap.size+1,Obj.cells #[.bool false,.map none,.slice none 0 0,.slice none 0 0] 93)∈rs→BV w rs W→Calls Tryz.prog 37 #[.pointer q,.agg A.x.L] W fun e w'=>e = .returned (.tuple #[.int .i64 0,.int .i64 1])∧BV w rs w'):=fun q hq rs W hm hV=>hV.reads (xadd0_q W ⟨q,false,_⟩ ⟨[],[]⟩ A.x rfl (hQS q hq rs W hm hV))
 have HDN:Hid (∀ q,(q=none∨q=some ⟨w.heap.size+1,0,none⟩)→∀ rs W,(w.heap.size+1,Obj.cells #[.bool false,.map none,.slice none 0 0,.slice none 0 0] 93)∈rs→BV w rs W→Calls Tryz.prog 42 #[.pointer q,.int .i64 A.id,uV A.m] W fun e w'=>e = .returned (.tuple #[.agg #[.int .u64 0,.int .u64 0,.int .u64 0,.int .u64 0],.int .i64 1])∧BV w rs w'):=fun q hq rs W hm hV=>hV.reads (xdone0_q W ⟨q,false,_⟩ A.id A.m rfl hA.id (hQS q hq rs W hm hV))
 have HGT:Hid (∀ q,(q=none∨q=some ⟨w.heap.size+1,0,none⟩)→∀ rs W,(w.heap.size+1,Obj.cells #[.bool false,.map none,.slice none 0 0,.slice none 0 0] 93)∈rs→BV w rs W→Calls Tryz.prog 44 #[.pointer q,.int .i64 A.id] W fun e w'=>e = .returned (.tuple #[.agg #[.int .i64 0,.int .i64 0,.int .i64 0,.int .i64 0,.int .u64 0,.int .u64 0,.int .u64 0,.int .u64 0,.int .u64 0,.int .u64 0,.int .u64 0,.int .u64 0],.bool false])∧BV w rs w'):=fun q hq rs W hm hV=>hV.reads (xGet_q W ⟨q,false,_⟩ ⟨[],[]⟩ 0 A.id hA.id (hQS q hq rs W hm hV) St.Fit.empty (by decide))
 have HLF:Hid (∀ q,(q=none∨q=some ⟨w.heap.size+1,0,none⟩)→∀ rs W,(w.heap.size+1,Obj.cells #[.bool false,.map none,.slice none 0 0,.slice none 0 0] 93)∈rs→BV w rs W→Calls Tryz.prog 45 #[.pointer q,.int .i64 1] W fun e w'=>e = .returned (.agg #[.int .u64 0,.int .u64 0,.int .u64 0,.int .u64 0])∧BV w rs w'):=fun q hq rs W hm hV=>hV.reads (by
  have:=xLeft_q W ⟨q,false,_⟩ ⟨[],[]⟩ 0 1 (by decide) (hQS q hq rs W hm hV) St.Fit.empty (by decide)
  rw [none_left] at this
  exact this)
 have HSL:Hid (∀ q,(q=none∨q=some ⟨w.heap.size+1,0,none⟩)→∀ rs W,(w.heap.size+1,Obj.cells #[.bool false,.map none,.slice none 0 0,.slice none 0 0] 93)∈rs→BV w rs W→Calls Tryz.prog 46 #[.pointer q,.int .i64 7,.int .i64 1,.int .i64 5,.int .i64 2] W fun e w'=>e = .returned (.agg #[.int .u64 0,.int .u64 0,.int .u64 0,.int .u64 0])∧BV w rs w'):=fun q hq rs W hm hV=>hV.reads (by
  have:=xslash_q W ⟨q,false,_⟩ ⟨[],[]⟩ 0 7 1 5 2 (by decide) (by decide) (by decide) (hQS q hq rs W hm hV) St.Fit.empty (by decide) (by decide)
  rw [none_slash] at this
  exact this)
 have hred:∀ {rs:List (Nat × Obj)} {W:World} {f:FuncId} {args:Array Value},BV w rs W→(Calls Tryz.prog f args W fun e w'=>∃ a c,e = .returned (.slice a 0 c)∧Below W.heap.size W w')→Calls Tryz.prog f args W fun e w'=>∃ a c,e = .returned (.slice a 0 c)∧BV w rs w':=fun hV hC=>hC.mono fun e w' ⟨a,c,he,hb⟩=>⟨a,c,he,QV.below hV hb⟩
 have HOP:Hid (∀ q,(q=none∨q=some ⟨w.heap.size+1,0,none⟩)→∀ rs W,(w.heap.size+1,Obj.cells #[.bool false,.map none,.slice none 0 0,.slice none 0 0] 93)∈rs→BV w rs W→Calls Tryz.prog 47 #[.pointer q,.int .i64 A.x.st] W fun e w'=>∃ a c,e = .returned (.slice a 0 c)∧BV w rs w'):=fun q hq rs W hm hV=>hred hV (xopen0_q W ⟨q,false,_⟩ ⟨[],[]⟩ A.x.st (hQS q hq rs W hm hV) (by decide) rfl)
 have HAL:Hid (∀ q,(q=none∨q=some ⟨w.heap.size+1,0,none⟩)→∀ rs W,(w.heap.size+1,Obj.cells #[.bool false,.map none,.slice none 0 0,.slice none 0 0] 93)∈rs→BV w rs W→Calls Tryz.prog 43 #[.pointer q] W fun e w'=>∃ a c,e = .returned (.slice a 0 c)∧BV w rs w'):=fun q hq rs W hm hV=>hred hV (xall0_q W ⟨q,false,_⟩ ⟨[],[]⟩ (hQS q hq rs W hm hV) (by decide) rfl)
 have HQ:Hid (∀ (k:Nat),k < 2→∃ q,(q=none∨q=some ⟨w.heap.size+1,0,none⟩)∧∀ w',(Instr.index 94 (.agg #[.pointer none,.pointer (some ⟨w.heap.size+1,0,none⟩)]) (.int .i64 k)).run Tryz.prog w' = .ok (.pointer q) w'):=fun k hk=>by
  match k,hk with
  | 0,_=>exact ⟨none,.inl rfl,idx24_0 _⟩
  | 1,_=>exact ⟨_,.inr rfl,idx24_1 _⟩
 have hE:∀ w,(Op.equalIn 10000 24 (.agg #[.int .u64 0,.int .u64 0,.int .u64 0,.int .u64 0]) (.agg #[.int .u64 0,.int .u64 0,.int .u64 0,.int .u64 0])).run Tryz.prog w = .ok true w:=fun w=>eqU (0,0,0,0) (0,0,0,0) w
 have HB:=Lib.hid hB
 clear hB hQS hred hA
 obtain ⟨kd,id,dl,⟨xs,xo,xt,xb,W,M⟩,m,n⟩:=A
 dsimp only [XAct.L,Ex.L] at HB HAD HDN HGT HOP ⊢
 go_enter Tryz.func8,Tryz.ntmps8
 go_upto_region 2 with fail
 generalize hw1:(w.alloc (.cells #[.int .i64 kd,.int .i64 id,.int .i64 dl,.int .i64 xs,.int .i64 xo,.int .i64 xt,.int .i64 xb,.int .u64 W.1,.int .u64 W.2.1,.int .u64 W.2.2.1,.int .u64 W.2.2.2,.int .u64 M.1,.int .u64 M.2.1,.int .u64 M.2.2.1,.int .u64 M.2.2.2,.int .u64 m.1,.int .u64 m.2.1,.int .u64 m.2.2.1,.int .u64 m.2.2.2,.int .u64 n.1,.int .u64 n.2.1,.int .u64 n.2.2.1,.int .u64 n.2.2.2] 88)).alloc (.cells #[.bool false,.map none,.slice none 0 0,.slice none 0 0] 93)=w1 at *
 clear hw1
 go_wp2_with fail
 go_loopw [13] (fun iv wr=>∃ k:Nat,iv = .int .i64 k∧k≤2∧BV w [(w.heap.size+1,.cells #[.bool false,.map none,.slice none 0 0,.slice none 0 0] 93),(w.heap.size,.cells #[.int .i64 kd,.int .i64 id,.int .i64 dl,.int .i64 xs,.int .i64 xo,.int .i64 xt,.int .i64 xb,.int .u64 W.1,.int .u64 W.2.1,.int .u64 W.2.2.1,.int .u64 W.2.2.2,.int .u64 M.1,.int .u64 M.2.1,.int .u64 M.2.2.1,.int .u64 M.2.2.2,.int .u64 m.1,.int .u64 m.2.1,.int .u64 m.2.2.1,.int .u64 m.2.2.2,.int .u64 n.1,.int .u64 n.2.1,.int .u64 n.2.2.1,.int .u64 n.2.2.2] 88)] wr) (fun iv _=>2 - (intOf iv).toNat)
 case atStart=>exact ⟨0,rfl,by omega,HB.out⟩
 case round =>
  obtain ⟨k,rfl,hk,hA⟩:=hrel
  clear HB
  by_cases hlt:k < 2
  ·obtain ⟨q,hq,hidx⟩:=HQ.out k hlt
   have HC:=Lib.hid (HAD.out q hq _ _ (by simp) hA)
   have hc:=rowX24 (hA.row (g:=w.heap.size) (o:=.cells #[.int .i64 kd,.int .i64 id,.int .i64 dl,.int .i64 xs,.int .i64 xo,.int .i64 xt,.int .i64 xb,.int .u64 W.1,.int .u64 W.2.1,.int .u64 W.2.2.1,.int .u64 W.2.2.2,.int .u64 M.1,.int .u64 M.2.1,.int .u64 M.2.2.1,.int .u64 M.2.2.2,.int .u64 m.1,.int .u64 m.2.1,.int .u64 m.2.2.1,.int .u64 m.2.2.2,.int .u64 n.1,.int .u64 n.2.1,.int .u64 n.2.2.1,.int .u64 n.2.2.2] 88) (by simp))
   have c3:=hc 3 _ rfl
   have c4:=hc 4 _ rfl
   have c5:=hc 5 _ rfl
   have c6:=hc 6 _ rfl
   have c7:=hc 7 _ rfl
   have c8:=hc 8 _ rfl
   have c9:=hc 9 _ rfl
   have c10:=hc 10 _ rfl
   have c11:=hc 11 _ rfl
   have c12:=hc 12 _ rfl
   have c13:=hc 13 _ rfl
   have c14:=hc 14 _ rfl
   clear hc
   have HDN:=Lib.hid (HDN.out q hq)
   have HGT:=Lib.hid (HGT.out q hq)
   have HLF:=Lib.hid (HLF.out q hq)
   have HSL:=Lib.hid (HSL.out q hq)
   have HOP:=Lib.hid (HOP.out q hq)
   have HAL:=Lib.hid (HAL.out q hq)
   clear hA hq HQ HAD HLV
   go_wp2_with fail
   refine Calls.mono HC.out ?_
   rintro e w2 ⟨rfl,hA2⟩
   clear c3 c4 c5 c6 c7 c8 c9 c10 c11 c12 c13 c14 HC hidx
   have hc:=rowX24 (hA2.row (g:=w.heap.size) (o:=.cells #[.int .i64 kd,.int .i64 id,.int .i64 dl,.int .i64 xs,.int .i64 xo,.int .i64 xt,.int .i64 xb,.int .u64 W.1,.int .u64 W.2.1,.int .u64 W.2.2.1,.int .u64 W.2.2.2,.int .u64 M.1,.int .u64 M.2.1,.int .u64 M.2.2.1,.int .u64 M.2.2.2,.int .u64 m.1,.int .u64 m.2.1,.int .u64 m.2.2.1,.int .u64 m.2.2.2,.int .u64 n.1,.int .u64 n.2.1,.int .u64 n.2.2.1,.int .u64 n.2.2.2] 88) (by simp))
   have c1:=hc 1 _ rfl
   have c15:=hc 15 _ rfl
   have c16:=hc 16 _ rfl
   have c17:=hc 17 _ rfl
   have c18:=hc 18 _ rfl
   clear hc
   have HC:=Lib.hid (HDN.out _ _ (by simp) hA2)
   clear hA2 HDN
   go_wp2_with fail
   refine Calls.mono HC.out ?_
   rintro e w3 ⟨rfl,hA3⟩
   have HA4:=Lib.hid (hA3.alloc (.cells #[.int .u64 0,.int .u64 0,.int .u64 0,.int .u64 0] 24))
   clear c1 c15 c16 c17 c18 HC hA3
   go_upto_region 7 with fail
   generalize hw4:w3.alloc (.cells #[.int .u64 0,.int .u64 0,.int .u64 0,.int .u64 0] 24)=w4 at *
   generalize w3.heap.size=g4 at *
   clear hw4
   have hc:=rowX24 (HA4.out.row (g:=w.heap.size) (o:=.cells #[.int .i64 kd,.int .i64 id,.int .i64 dl,.int .i64 xs,.int .i64 xo,.int .i64 xt,.int .i64 xb,.int .u64 W.1,.int .u64 W.2.1,.int .u64 W.2.2.1,.int .u64 W.2.2.2,.int .u64 M.1,.int .u64 M.2.1,.int .u64 M.2.2.1,.int .u64 M.2.2.2,.int .u64 m.1,.int .u64 m.2.1,.int .u64 m.2.2.1,.int .u64 m.2.2.2,.int .u64 n.1,.int .u64 n.2.1,.int .u64 n.2.2.1,.int .u64 n.2.2.2] 88) (by simp))
   have c1:=hc 1 _ rfl
   clear hc
   have HC:=Lib.hid (HGT.out _ _ (by simp) HA4.out)
   clear HA4 HGT
   go_wp2_with fail
   refine Calls.mono HC.out ?_
   rintro e w5 ⟨rfl,hA5⟩
   have HA6:=Lib.hid (hA5.alloc (.cells #[.int .i64 0,.int .i64 0,.int .i64 0,.int .i64 0,.int .u64 0,.int .u64 0,.int .u64 0,.int .u64 0,.int .u64 0,.int .u64 0,.int .u64 0,.int .u64 0] 26))
   clear c1 HC hA5
   go_upto_region 8 with fail
   generalize hw6:w5.alloc (.cells #[.int .i64 0,.int .i64 0,.int .i64 0,.int .i64 0,.int .u64 0,.int .u64 0,.int .u64 0,.int .u64 0,.int .u64 0,.int .u64 0,.int .u64 0,.int .u64 0] 26)=w6 at *
   generalize w5.heap.size=g6 at *
   clear hw6
   have HC:=Lib.hid (HLF.out _ _ (by simp) HA6.out)
   clear HA6 HLF
   go_wp2_with fail
   refine Calls.mono HC.out ?_
   rintro e w7 ⟨rfl,hA7⟩
   have HC:=Lib.hid (HSL.out _ _ (by simp) hA7)
   clear hA7 HSL
   go_wp2_with fail
   refine Calls.mono HC.out ?_
   rintro e w8 ⟨rfl,hA8⟩
   have hc:=rowX24 (hA8.row (g:=w.heap.size) (o:=.cells #[.int .i64 kd,.int .i64 id,.int .i64 dl,.int .i64 xs,.int .i64 xo,.int .i64 xt,.int .i64 xb,.int .u64 W.1,.int .u64 W.2.1,.int .u64 W.2.2.1,.int .u64 W.2.2.2,.int .u64 M.1,.int .u64 M.2.1,.int .u64 M.2.2.1,.int .u64 M.2.2.2,.int .u64 m.1,.int .u64 m.2.1,.int .u64 m.2.2.1,.int .u64 m.2.2.2,.int .u64 n.1,.int .u64 n.2.1,.int .u64 n.2.2.1,.int .u64 n.2.2.2] 88) (by simp))
   have c3:=hc 3 _ rfl
   clear hc
   have HC:=Lib.hid (HOP.out _ _ (by simp) hA8)
   clear hA8 HOP
   go_wp2_with fail
   refine Calls.mono HC.out ?_
   rintro e w9 ⟨a1,k1,rfl,hA9⟩
   have HC:=Lib.hid (HAL.out _ _ (by simp) hA9)
   clear hA9 HAL c3
   go_wp2_with fail
   refine Calls.mono HC.out ?_
   rintro e w10 ⟨a2,k2,rfl,hA10⟩
   have HA:=Lib.hid (QV.less (qs:=[(w.heap.size+1,.cells #[.bool false,.map none,.slice none 0 0,.slice none 0 0] 93),(w.heap.size,.cells #[.int .i64 kd,.int .i64 id,.int .i64 dl,.int .i64 xs,.int .i64 xo,.int .i64 xt,.int .i64 xb,.int .u64 W.1,.int .u64 W.2.1,.int .u64 W.2.2.1,.int .u64 W.2.2.2,.int .u64 M.1,.int .u64 M.2.1,.int .u64 M.2.2.1,.int .u64 M.2.2.2,.int .u64 m.1,.int .u64 m.2.1,.int .u64 m.2.2.1,.int .u64 m.2.2.2,.int .u64 n.1,.int .u64 n.2.1,.int .u64 n.2.2.1,.int .u64 n.2.2.2] 88)]) hA10 (fun x hx=>List.mem_cons_of_mem _ (List.mem_cons_of_mem _ hx)))
   clear hA10 HC
   go_wp2_with fail
   go_roundw
   case rel=>exact ⟨k+1,by go_num,by omega,HA.out⟩
   case measure=>simp [intOf]; omega
  ·obtain rfl:k=2:=by omega
   have HL1:=Lib.hid (HLV.out _ _ hA)
   clear hA HAD HDN HGT HLF HSL HOP HAL HQ HLV
   go_wp2_with fail
   refine Calls.mono HL1.out ?_
   rintro e w8 ⟨rfl,hb⟩
   have HB8:=Lib.hid (BV.bl hb)
   clear hb HL1
   go_wp2_with fail
   go_ret
   exact ⟨rfl,HB8.out⟩
end Go.Proofs.YtnkilceibkkjlaaGreat
namespace Go.Proofs.YtnkilceibkkjlaaGreat
open Go.RowKit Go.ChangeShapes Go.WideShapes Go.ChangeAt
section
variable {H:Type} {enc:TypeId × Value→H} {w:World} {base:Nat} {spare:Nat→Bool} {held:Bool}
theorem open_x24c {fuel:Nat} {cs:List Value} {x:DataW H × List MemPlace} (h:DataW.trod enc Tryz.prog w base spare held fuel 88 cs=some x):∃ A:XAct,cs=A.L.toList∧A.Ok:=by
 have hc1:Tryz.prog.cellsOf 3=1:=by kernel_rfl
 have hc4:Tryz.prog.cellsOf 24=4:=by kernel_rfl
 have hc12:Tryz.prog.cellsOf 26=12:=by kernel_rfl
 have hc23:Tryz.prog.cellsOf 88=23:=by kernel_rfl
 obtain ⟨xs,m,_,_,hlen,hxl,hf⟩:=DataW.trod_struct Tryz.underlying88 h
 rw [hc23] at hlen
 match cs,hlen,xs,hxl with
 | [c0,c1,c2,c3,c4,c5,c6,c7,c8,c9,c10,c11,c12,c13,c14,c15,c16,c17,c18,c19,c20,c21,c22],_,[y0,y1,y2,y3,y4,y5],_ =>
  have h0:=hf 0 _ rfl
  have h1:=hf 1 _ rfl
  have h2:=hf 2 _ rfl
  have h3:=hf 3 _ rfl
  have h4:=hf 4 _ rfl
  have h5:=hf 5 _ rfl
  simp [hc1,hc4,hc12] at h0 h1 h2 h3 h4 h5
  obtain ⟨n0,e0,_,s0⟩:=DataW.trod_int Tryz.underlying3 h0
  obtain ⟨n1,e1,_,s1⟩:=DataW.trod_int Tryz.underlying3 h1
  obtain ⟨n2,e2,_,s2⟩:=DataW.trod_int Tryz.underlying3 h2
  obtain ⟨X,e3,k3⟩:=open_exc h3
  obtain ⟨am,e4,k4⟩:=open_u4c h4
  obtain ⟨ax,e5,k5⟩:=open_u4c h5
  obtain ⟨xs,xo,xt,xb,W,M⟩:=X
  simp only [Ex.L,List.cons.injEq,and_true] at e0 e1 e2 e3 e4 e5
  obtain ⟨rfl,rfl,rfl,rfl,rfl,rfl,rfl,rfl,rfl,rfl,rfl,rfl⟩:=e3
  obtain ⟨rfl,rfl,rfl,rfl⟩:=e4
  obtain ⟨rfl,rfl,rfl,rfl⟩:=e5
  subst e0 e1 e2
  exact ⟨⟨n0,n1,n2,⟨xs,xo,xt,xb,W,M⟩,am,ax⟩,rfl,⟨(wf_lt s1).2,(wf_lt s2).2,k3,k4,k5⟩⟩
theorem open_x24 {r:Reach} {b0:Nat} {v:Value} {d:DataW H} {p:List MemPlace} (hv:Value.okWide Tryz.prog w r b0 88 v) (h:DataW.Trod enc Tryz.prog w base spare held 88 v d p) :
  ∃ A:XAct,v = .agg A.L∧A.Ok:=by
 obtain ⟨cs,rfl,hsz⟩:=okWide_struct Tryz.underlying88 hv
 obtain ⟨fuel,hf0⟩:=h
 obtain ⟨A,he,hA⟩:=open_x24c hf0
 obtain ⟨l⟩:=cs
 have hcs:(Value.agg ⟨l⟩).cells.toList=l:=rfl
 rw [hcs] at he
 subst he
 exact ⟨A,rfl,hA⟩
end
end Go.Proofs.YtnkilceibkkjlaaGreat
namespace Go.Proofs.YtnkilceibkkjlaaGreat.exitNone
open Go.ChangeShapes Go.WideShapes Go.ChangeAt Go.RowKit
set_option linter.unusedVariables false
theorem params:Tryz.f8.params = #[88]:=rfl
theorem lifted (os:Os) (started:os.Started) (H:Type) (enc:TypeId × Value→H) :
  ReturnsInHanded {} Tryz.checked os 8 .any (Rows.exitNoneSpec.pre6 enc Tryz.prog Tryz.f8 Rows.exitNoneRow.domain false) (Rows.exitNoneSpec.post enc Tryz.prog Tryz.f8 false true false false):=by
 refine returnsInHanded_of_change (C:=Tryz.checked) own started (by kernel_rfl) Tryz.func8
  (ChangeSpec.witness6 (enc:=enc) (C:=Tryz.checked) false ⟨#[],#[.agg #[.int .i64 0,.int .i64 0,.int .i64 0,.int .i64 0,.int .i64 0,.int .i64 0,.int .i64 0,.int .u64 0,.int .u64 0,.int .u64 0,.int .u64 0,.int .u64 0,.int .u64 0,.int .u64 0,.int .u64 0,.int .u64 0,.int .u64 0,.int .u64 0,.int .u64 0,.int .u64 0,.int .u64 0,.int .u64 0,.int .u64 0]],[]⟩ 8 (by kernel_rfl) (by kernel_rfl) (by kernel_rfl) (by kernel_rfl)) ?_
 intro W base args ds gs before hval0 hW hcnd _
 have hval:∀ (j:Nat) t v,Tryz.f8.params[j]? = some t→args[j]? = some v→Value.okWide Tryz.prog W .any base t v:=hval0
 have hW':=hW
 obtain ⟨p,q,hA0,hV,rfl,hfz,hnd⟩:=hW
 have hA:DataW.TrodAll enc Tryz.prog W 0 (fun _=>true) true Tryz.f8.params.toList args.toList ds p:=hA0
 rw [params] at hA hval
 obtain ⟨v0,vs0,d0,ds0,p0,q0,hargs,rfl,rfl,h0,r0⟩:=trodAll_cons hA
 obtain ⟨rfl,rfl,rfl⟩:=trodAll_nil r0
 obtain rfl:args = #[v0]:=by cases args; simp_all
 obtain ⟨rfl,rfl⟩:=trodVars_none hV
 obtain ⟨A0,rfl,hX0⟩:=open_x24 (hval 0 88 v0 rfl rfl) h0
 clear hA0 hval0
 refine (exitNone_walk A0 hX0 W).mono fun e W' ⟨he,hg⟩ => ?_
 subst he
 exact ⟨_,rfl,post_true laid (tb:=4) (by kernel_rfl) rfl (fine_all (by kernel_rfl)) rfl hW' rfl hg⟩
theorem over:Rows.exitNoneRow.holds Tryz.pinned (OpenSpec.ofChange Rows.exitNoneSpec) :=
 OpenClaim.holds_of_wide 8 Tryz.f8 rfl rfl rfl rfl rfl rfl rfl ⟨rfl,rfl,rfl,rfl,rfl⟩ rfl rfl rfl rfl rfl (by kernel_rfl) Tryz.func8 (by kernel_rfl)
  (of_decide_eq_true (by kernel_rfl)) (by unfold Func.isWrapper; first | (rw [if_pos (by decide +kernel)]; kernel_rfl) | (rw [if_neg (by decide +kernel)]; exact ⟨rfl,rfl⟩))
  (fun os started H enc _=>lifted os started H enc)
theorem proved:Rows.ExitNoneSaid :=
 over
#print axioms proved
end Go.Proofs.YtnkilceibkkjlaaGreat.exitNone
