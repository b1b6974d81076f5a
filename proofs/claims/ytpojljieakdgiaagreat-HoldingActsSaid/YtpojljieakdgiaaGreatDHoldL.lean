/- What is proved here: act of the holding laws: one thing done on both stores. Conditions: sizes. act of the holding laws: Shift and Cut on both stores. Conditions: sizes. act of the holding laws: Put on both stores. Conditions: sizes. -/
import Derived.Test.YtpojljieakdgiaaGreatDHoldK
set_option maxRecDepth 100000
set_option maxHeartbeats 16000000
namespace Go.Proofs.YtpojljieakdgiaaGreat
open Go.RowKit
structure HAct where
 kd:Int
 st:Int
 op:Int
 sg:Int
 am:W4
 ax:W4
def HAct.L (A:HAct):Array Value:=#[.int .i64 A.kd,.int .i64 A.st,.int .i64 A.op,.int .i64 A.sg,.int .u64 A.am.1,.int .u64 A.am.2.1,.int .u64 A.am.2.2.1,.int .u64 A.am.2.2.2,.int .u64 A.ax.1,.int .u64 A.ax.2.1,.int .u64 A.ax.2.2.1,.int .u64 A.ax.2.2.2]
abbrev actO (A:HAct):Obj:=.cells A.L 53
theorem row12 {w:World} {g:Nat} {A:HAct} (h:w.heap[g]? = some (actO A)):(w.cell? ⟨g,0,none⟩=some (.int .i64 A.kd)∧w.cell? ⟨g,1,none⟩=some (.int .i64 A.st)∧w.cell? ⟨g,2,none⟩=some (.int .i64 A.op)∧w.cell? ⟨g,3,none⟩=some (.int .i64 A.sg)) ∧
  (w.cell? ⟨g,4,none⟩=some (.int .u64 A.am.1)∧w.cell? ⟨g,5,none⟩=some (.int .u64 A.am.2.1)∧w.cell? ⟨g,6,none⟩=some (.int .u64 A.am.2.2.1)∧w.cell? ⟨g,7,none⟩=some (.int .u64 A.am.2.2.2)) ∧
  (w.cell? ⟨g,8,none⟩=some (.int .u64 A.ax.1)∧w.cell? ⟨g,9,none⟩=some (.int .u64 A.ax.2.1)∧w.cell? ⟨g,10,none⟩=some (.int .u64 A.ax.2.2.1)∧w.cell? ⟨g,11,none⟩=some (.int .u64 A.ax.2.2.2)):=by
 have hc:∀ o v,A.L[o]? = some v→w.cell? ⟨g,o,none⟩=some v:=fun o v hv=>by rw [cell_of_row _ _ _ _ _ _ h]; exact hv
 exact ⟨⟨hc 0 _ rfl,hc 1 _ rfl,hc 2 _ rfl,hc 3 _ rfl⟩,⟨hc 4 _ rfl,hc 5 _ rfl,hc 6 _ rfl,hc 7 _ rfl⟩,⟨hc 8 _ rfl,hc 9 _ rfl,hc 10 _ rfl,hc 11 _ rfl⟩⟩
def POn (h:Hand) (b:Nat) (w:World) (K:List Nat) (s m:St) (W:World):Prop:=∃ K',PairRep h.ptr h.on b m W K' s∧Step w K W K'
theorem PV.done {h:Hand} {b:Nat} {m:St} {w W:World} {K:List Nat} {s:St} {rs:List (Nat × Obj)} (hP:PV h b m w K s rs W):POn h b w K s m W:=QV.done hP
theorem act_take (w:World) (h:Hand) (b:Nat) (K:List Nat) (s m:St) (f0:Nat) (A:HAct) (hk:A.kd=1) (ha:I63 A.st) (ho:I63 A.op) (ht:I63 A.sg) (hmo:A.am.Ok) (hxo:A.ax.Ok) (hP:PairRep h.ptr h.on b m w K s) (hfs:s.Fit f0) (hfm:m.Fit f0) (hm:f0 < 1000000000) :
  Calls Tryz.prog 28 #[.pointer h.ptr,.pointer (some ⟨b,0,none⟩),.agg A.L] w fun e w'=>e = .returned (.bool (decide (takeW s A.st A.op A.sg A.am A.ax=takeW m A.st A.op A.sg A.am A.ax) && decide (takeE s A.st A.op A.sg A.am A.ax=takeE m A.st A.op A.sg A.am A.ax)))∧POn h b w K (h.takeSt s A.st A.op A.sg A.am A.ax) (H1.takeSt m A.st A.op A.sg A.am A.ax) w':=by
 have hB:=(((QV.start (pairRep_ok _ _ _ _) hP).alloc (actO A)).alloc zO).alloc zO
 rw [World.size_alloc,World.size_alloc] at hB
 obtain ⟨kd,a,o,t,M,X⟩:=A
 simp only at hk ha ho ht hmo hxo
 subst hk
 have HT:Hid (∀ rs W,PV h b m w K s rs W→Calls Tryz.prog 18 #[.pointer h.ptr,.int .i64 a,.int .i64 o,.int .i64 t,uV M,uV X] W fun e w'=>e = .returned (.tuple #[uV (takeW s a o t M X),.int .i64 (takeE s a o t M X)])∧PV h b m w K (h.takeSt s a o t M X) rs w'):=fun rs W hW=>PV.callP hW fun L h1=>hTake_q W ⟨h.ptr,h.on,L⟩ s f0 a o t M X ha ho ht hmo hxo h1 hfs hm
 have HR:Hid (∀ rs W,PV h b m w K (h.takeSt s a o t M X) rs W→Calls Tryz.prog 81 #[.pointer (some ⟨b,0,none⟩),.int .i64 a,.int .i64 o,.int .i64 t,uV M,uV X] W fun e w'=>e = .returned (.tuple #[uV (takeW m a o t M X),.int .i64 (takeE m a o t M X)])∧PV h b (H1.takeSt m a o t M X) w K (h.takeSt s a o t M X) rs w'):=fun rs W hW=>PV.callF hW fun L h1=>rTake_q W b L m f0 a o t M X ha ho ht hmo hxo h1 hfm hm
 have HB:=Lib.hid hB
 simp only at *
 generalize h.takeSt s a o t M X=s1 at *
 generalize H1.takeSt m a o t M X=m1 at *
 generalize takeW s a o t M X=u1 at *
 generalize takeW m a o t M X=u2 at *
 generalize takeE s a o t M X=e1 at *
 generalize takeE m a o t M X=e2 at *
 clear hB hP hfs hfm
 unfold HAct.L
 go_enter Tryz.func28,Tryz.ntmps28
 go_wp2_with fail
 refine Calls.mono (HT.out _ _ HB.out) ?_
 rintro e w3 ⟨rfl,hB3⟩
 obtain ⟨z0,z1,z2,z3,z4,z5,z6,z7⟩:=row4 (hB3.u4 (g:=w.heap.size+1) (x:=(0,0,0,0)) (by simp))
 have hB4:=hB3.put4 (g:=w.heap.size+1) (y:=(0,0,0,0)) u1 (by simp) [(w.heap.size+1+1,zO),(w.heap.size,actO ⟨1,a,o,t,M,X⟩)] (by simp)
 clear HT HB hB3
 go_upto_region 8 with fail
 generalize ((((w3.setCell ⟨w.heap.size+1,0,none⟩ (.int .u64 u1.1)).setCell ⟨w.heap.size+1,1,none⟩ (.int .u64 u1.2.1)).setCell ⟨w.heap.size+1,2,none⟩ (.int .u64 u1.2.2.1)).setCell ⟨w.heap.size+1,3,none⟩ (.int .u64 u1.2.2.2))=w4 at *
 clear z0 z1 z2 z3 z4 z5 z6 z7
 obtain ⟨⟨k0,k1,k2,k3⟩,⟨m0,m1',m2,m3⟩,⟨x0,x1,x2,x3⟩⟩:=row12 (hB4.row (g:=w.heap.size) (o:=actO ⟨1,a,o,t,M,X⟩) (by simp))
 simp only at k0 k1 k2 k3 m0 m1' m2 m3 x0 x1 x2 x3
 have HB4:=Lib.hid hB4
 clear hB4
 go_wp2_with fail
 refine Calls.mono (HR.out _ _ HB4.out) ?_
 rintro e w5 ⟨rfl,hB5⟩
 clear k0 k1 k2 k3 m0 m1' m2 m3 x0 x1 x2 x3 HR HB4
 obtain ⟨z0,z1,z2,z3,z4,z5,z6,z7⟩:=row4 (hB5.u4 (g:=w.heap.size+1+1) (x:=(0,0,0,0)) (by simp))
 have hB6:=hB5.put4 (g:=w.heap.size+1+1) (y:=(0,0,0,0)) u2 (by simp) [(w.heap.size+1,uO u1)] (by simp)
 clear hB5
 go_upto_region 15 with fail
 generalize ((((w5.setCell ⟨w.heap.size+1+1,0,none⟩ (.int .u64 u2.1)).setCell ⟨w.heap.size+1+1,1,none⟩ (.int .u64 u2.2.1)).setCell ⟨w.heap.size+1+1,2,none⟩ (.int .u64 u2.2.2.1)).setCell ⟨w.heap.size+1+1,3,none⟩ (.int .u64 u2.2.2.2))=w6 at *
 clear z0 z1 z2 z3 z4 z5 z6 z7
 obtain ⟨a0,a1,a2,a3,_⟩:=row4 (hB6.u4 (g:=w.heap.size+1) (x:=u1) (by simp))
 obtain ⟨b0,b1,b2,b3,_⟩:=row4 (hB6.u4 (g:=w.heap.size+1+1) (x:=u2) (by simp))
 have HD:=Lib.hid (PV.done hB6)
 clear hB6
 by_cases hu:u1=u2
 ·subst hu
  have hE:∀ w,(Op.equalIn 10000 28 (uV u1) (uV u1)).run Tryz.prog w = .ok true w:=fun w=>by
   have:=eqU u1 u1 w
   rwa [decide_eq_true rfl] at this
  go_wp2_with fail
  go_ret
  exact ⟨by simp <;> rfl,HD.out⟩
 ·have HU:=Lib.hid hu
  have hE:∀ w,(Op.equalIn 10000 28 (uV u1) (uV u2)).run Tryz.prog w = .ok false w:=fun w=>by
   have:=eqU u1 u2 w
   rwa [decide_eq_false hu] at this
  clear hu
  go_wp2_with fail
  go_ret
  exact ⟨by rw [decide_eq_false HU.out]; rfl,HD.out⟩
theorem act_shift (w:World) (h:Hand) (b:Nat) (K:List Nat) (s m:St) (f0:Nat) (A:HAct) (hk:A.kd=2) (ha:I63 A.st) (ho:I63 A.op) (ht:I63 A.sg) (hmo:A.am.Ok) (hxo:A.ax.Ok) (hP:PairRep h.ptr h.on b m w K s) (hfs:s.Fit f0) (hfm:m.Fit f0) (hm:f0 < 1000000000) :
  Calls Tryz.prog 28 #[.pointer h.ptr,.pointer (some ⟨b,0,none⟩),.agg A.L] w fun e w'=>e = .returned (.bool (decide (shiftW s A.st A.op A.sg A.am=shiftW m A.st A.op A.sg A.am) && decide (shiftE s A.st A.op A.sg A.am=shiftE m A.st A.op A.sg A.am)))∧POn h b w K (h.shiftSt s A.st A.op A.sg A.am) (H1.shiftSt m A.st A.op A.sg A.am) w':=by
 have hB:=(((QV.start (pairRep_ok _ _ _ _) hP).alloc (actO A)).alloc zO).alloc zO
 rw [World.size_alloc,World.size_alloc] at hB
 obtain ⟨kd,a,o,t,M,X⟩:=A
 simp only at hk ha ho ht hmo hxo
 subst hk
 have HT:Hid (∀ rs W,PV h b m w K s rs W→Calls Tryz.prog 82 #[.pointer h.ptr,.int .i64 a,.int .i64 o,.int .i64 t,uV M] W fun e w'=>e = .returned (.tuple #[uV (shiftW s a o t M),.int .i64 (shiftE s a o t M)])∧PV h b m w K (h.shiftSt s a o t M) rs w'):=fun rs W hW=>PV.callP hW fun L h1=>hShift_q W ⟨h.ptr,h.on,L⟩ s f0 a o t M ha ho ht hmo h1 hfs hm
 have HR:Hid (∀ rs W,PV h b m w K (h.shiftSt s a o t M) rs W→Calls Tryz.prog 83 #[.pointer (some ⟨b,0,none⟩),.int .i64 a,.int .i64 o,.int .i64 t,uV M] W fun e w'=>e = .returned (.tuple #[uV (shiftW m a o t M),.int .i64 (shiftE m a o t M)])∧PV h b (H1.shiftSt m a o t M) w K (h.shiftSt s a o t M) rs w'):=fun rs W hW=>PV.callF hW fun L h1=>rShift_q W b L m f0 a o t M ha ho ht hmo h1 hfm hm
 have HB:=Lib.hid hB
 simp only at *
 generalize h.shiftSt s a o t M=s1 at *
 generalize H1.shiftSt m a o t M=m1 at *
 generalize shiftW s a o t M=u1 at *
 generalize shiftW m a o t M=u2 at *
 generalize shiftE s a o t M=e1 at *
 generalize shiftE m a o t M=e2 at *
 clear hB hP hfs hfm
 unfold HAct.L
 go_enter Tryz.func28,Tryz.ntmps28
 go_wp2_with fail
 refine Calls.mono (HT.out _ _ HB.out) ?_
 rintro e w3 ⟨rfl,hB3⟩
 obtain ⟨z0,z1,z2,z3,z4,z5,z6,z7⟩:=row4 (hB3.u4 (g:=w.heap.size+1) (x:=(0,0,0,0)) (by simp))
 have hB4:=hB3.put4 (g:=w.heap.size+1) (y:=(0,0,0,0)) u1 (by simp) [(w.heap.size+1+1,zO),(w.heap.size,actO ⟨2,a,o,t,M,X⟩)] (by simp)
 clear HT HB hB3
 go_upto_region 11 with fail
 generalize ((((w3.setCell ⟨w.heap.size+1,0,none⟩ (.int .u64 u1.1)).setCell ⟨w.heap.size+1,1,none⟩ (.int .u64 u1.2.1)).setCell ⟨w.heap.size+1,2,none⟩ (.int .u64 u1.2.2.1)).setCell ⟨w.heap.size+1,3,none⟩ (.int .u64 u1.2.2.2))=w4 at *
 clear z0 z1 z2 z3 z4 z5 z6 z7
 obtain ⟨⟨k0,k1,k2,k3⟩,⟨m0,m1',m2,m3⟩,⟨x0,x1,x2,x3⟩⟩:=row12 (hB4.row (g:=w.heap.size) (o:=actO ⟨2,a,o,t,M,X⟩) (by simp))
 simp only at k0 k1 k2 k3 m0 m1' m2 m3 x0 x1 x2 x3
 have HB4:=Lib.hid hB4
 clear hB4
 go_wp2_with fail
 refine Calls.mono (HR.out _ _ HB4.out) ?_
 rintro e w5 ⟨rfl,hB5⟩
 clear k0 k1 k2 k3 m0 m1' m2 m3 x0 x1 x2 x3 HR HB4
 obtain ⟨z0,z1,z2,z3,z4,z5,z6,z7⟩:=row4 (hB5.u4 (g:=w.heap.size+1+1) (x:=(0,0,0,0)) (by simp))
 have hB6:=hB5.put4 (g:=w.heap.size+1+1) (y:=(0,0,0,0)) u2 (by simp) [(w.heap.size+1,uO u1)] (by simp)
 clear hB5
 go_upto_region 15 with fail
 generalize ((((w5.setCell ⟨w.heap.size+1+1,0,none⟩ (.int .u64 u2.1)).setCell ⟨w.heap.size+1+1,1,none⟩ (.int .u64 u2.2.1)).setCell ⟨w.heap.size+1+1,2,none⟩ (.int .u64 u2.2.2.1)).setCell ⟨w.heap.size+1+1,3,none⟩ (.int .u64 u2.2.2.2))=w6 at *
 clear z0 z1 z2 z3 z4 z5 z6 z7
 obtain ⟨a0,a1,a2,a3,_⟩:=row4 (hB6.u4 (g:=w.heap.size+1) (x:=u1) (by simp))
 obtain ⟨b0,b1,b2,b3,_⟩:=row4 (hB6.u4 (g:=w.heap.size+1+1) (x:=u2) (by simp))
 have HD:=Lib.hid (PV.done hB6)
 clear hB6
 by_cases hu:u1=u2
 ·subst hu
  have hE:∀ w,(Op.equalIn 10000 28 (uV u1) (uV u1)).run Tryz.prog w = .ok true w:=fun w=>by
   have:=eqU u1 u1 w
   rwa [decide_eq_true rfl] at this
  go_wp2_with fail
  go_ret
  exact ⟨by simp <;> rfl,HD.out⟩
 ·have HU:=Lib.hid hu
  have hE:∀ w,(Op.equalIn 10000 28 (uV u1) (uV u2)).run Tryz.prog w = .ok false w:=fun w=>by
   have:=eqU u1 u2 w
   rwa [decide_eq_false hu] at this
  clear hu
  go_wp2_with fail
  go_ret
  exact ⟨by rw [decide_eq_false HU.out]; rfl,HD.out⟩
theorem act_cut (w:World) (h:Hand) (b:Nat) (K:List Nat) (s m:St) (f0:Nat) (A:HAct) (hk:A.kd=3) (ha:I63 A.st) (ho:I63 A.op) (ht:I63 A.sg) (hmo:A.am.Ok) (hxo:A.ax.Ok) (hP:PairRep h.ptr h.on b m w K s) (hfs:s.Fit f0) (hfm:m.Fit f0) (hm:f0 < 1000000000) :
  Calls Tryz.prog 28 #[.pointer h.ptr,.pointer (some ⟨b,0,none⟩),.agg A.L] w fun e w'=>e = .returned (.bool (decide (cutW s A.op A.sg A.am A.ax=cutW m A.op A.sg A.am A.ax) && decide (cutE s A.op A.sg A.am A.ax=cutE m A.op A.sg A.am A.ax)))∧POn h b w K (h.cutSt s A.op A.sg A.am A.ax) (H1.cutSt m A.op A.sg A.am A.ax) w':=by
 have hB:=(((QV.start (pairRep_ok _ _ _ _) hP).alloc (actO A)).alloc zO).alloc zO
 rw [World.size_alloc,World.size_alloc] at hB
 obtain ⟨kd,a,o,t,M,X⟩:=A
 simp only at hk ha ho ht hmo hxo
 subst hk
 have HT:Hid (∀ rs W,PV h b m w K s rs W→Calls Tryz.prog 20 #[.pointer h.ptr,.int .i64 o,.int .i64 t,uV M,uV X] W fun e w'=>e = .returned (.tuple #[uV (cutW s o t M X),.int .i64 (cutE s o t M X)])∧PV h b m w K (h.cutSt s o t M X) rs w'):=fun rs W hW=>PV.callP hW fun L h1=>hCut_q W ⟨h.ptr,h.on,L⟩ s f0 o t M X ho ht hmo hxo h1 hfs (by omega)
 have HR:Hid (∀ rs W,PV h b m w K (h.cutSt s o t M X) rs W→Calls Tryz.prog 84 #[.pointer (some ⟨b,0,none⟩),.int .i64 o,.int .i64 t,uV M,uV X] W fun e w'=>e = .returned (.tuple #[uV (cutW m o t M X),.int .i64 (cutE m o t M X)])∧PV h b (H1.cutSt m o t M X) w K (h.cutSt s o t M X) rs w'):=fun rs W hW=>PV.callF hW fun L h1=>rCut_q W b L m f0 o t M X ho ht hmo hxo h1 hfm (by omega)
 have HB:=Lib.hid hB
 simp only at *
 generalize h.cutSt s o t M X=s1 at *
 generalize H1.cutSt m o t M X=m1 at *
 generalize cutW s o t M X=u1 at *
 generalize cutW m o t M X=u2 at *
 generalize cutE s o t M X=e1 at *
 generalize cutE m o t M X=e2 at *
 clear hB hP hfs hfm
 unfold HAct.L
 go_enter Tryz.func28,Tryz.ntmps28
 go_wp2_with fail
 refine Calls.mono (HT.out _ _ HB.out) ?_
 rintro e w3 ⟨rfl,hB3⟩
 obtain ⟨z0,z1,z2,z3,z4,z5,z6,z7⟩:=row4 (hB3.u4 (g:=w.heap.size+1) (x:=(0,0,0,0)) (by simp))
 have hB4:=hB3.put4 (g:=w.heap.size+1) (y:=(0,0,0,0)) u1 (by simp) [(w.heap.size+1+1,zO),(w.heap.size,actO ⟨3,a,o,t,M,X⟩)] (by simp)
 clear HT HB hB3
 go_upto_region 14 with fail
 generalize ((((w3.setCell ⟨w.heap.size+1,0,none⟩ (.int .u64 u1.1)).setCell ⟨w.heap.size+1,1,none⟩ (.int .u64 u1.2.1)).setCell ⟨w.heap.size+1,2,none⟩ (.int .u64 u1.2.2.1)).setCell ⟨w.heap.size+1,3,none⟩ (.int .u64 u1.2.2.2))=w4 at *
 clear z0 z1 z2 z3 z4 z5 z6 z7
 obtain ⟨⟨k0,k1,k2,k3⟩,⟨m0,m1',m2,m3⟩,⟨x0,x1,x2,x3⟩⟩:=row12 (hB4.row (g:=w.heap.size) (o:=actO ⟨3,a,o,t,M,X⟩) (by simp))
 simp only at k0 k1 k2 k3 m0 m1' m2 m3 x0 x1 x2 x3
 have HB4:=Lib.hid hB4
 clear hB4
 go_wp2_with fail
 refine Calls.mono (HR.out _ _ HB4.out) ?_
 rintro e w5 ⟨rfl,hB5⟩
 clear k0 k1 k2 k3 m0 m1' m2 m3 x0 x1 x2 x3 HR HB4
 obtain ⟨z0,z1,z2,z3,z4,z5,z6,z7⟩:=row4 (hB5.u4 (g:=w.heap.size+1+1) (x:=(0,0,0,0)) (by simp))
 have hB6:=hB5.put4 (g:=w.heap.size+1+1) (y:=(0,0,0,0)) u2 (by simp) [(w.heap.size+1,uO u1)] (by simp)
 clear hB5
 go_upto_region 15 with fail
 generalize ((((w5.setCell ⟨w.heap.size+1+1,0,none⟩ (.int .u64 u2.1)).setCell ⟨w.heap.size+1+1,1,none⟩ (.int .u64 u2.2.1)).setCell ⟨w.heap.size+1+1,2,none⟩ (.int .u64 u2.2.2.1)).setCell ⟨w.heap.size+1+1,3,none⟩ (.int .u64 u2.2.2.2))=w6 at *
 clear z0 z1 z2 z3 z4 z5 z6 z7
 obtain ⟨a0,a1,a2,a3,_⟩:=row4 (hB6.u4 (g:=w.heap.size+1) (x:=u1) (by simp))
 obtain ⟨b0,b1,b2,b3,_⟩:=row4 (hB6.u4 (g:=w.heap.size+1+1) (x:=u2) (by simp))
 have HD:=Lib.hid (PV.done hB6)
 clear hB6
 by_cases hu:u1=u2
 ·subst hu
  have hE:∀ w,(Op.equalIn 10000 28 (uV u1) (uV u1)).run Tryz.prog w = .ok true w:=fun w=>by
   have:=eqU u1 u1 w
   rwa [decide_eq_true rfl] at this
  go_wp2_with fail
  go_ret
  exact ⟨by simp <;> rfl,HD.out⟩
 ·have HU:=Lib.hid hu
  have hE:∀ w,(Op.equalIn 10000 28 (uV u1) (uV u2)).run Tryz.prog w = .ok false w:=fun w=>by
   have:=eqU u1 u2 w
   rwa [decide_eq_false hu] at this
  clear hu
  go_wp2_with fail
  go_ret
  exact ⟨by rw [decide_eq_false HU.out]; rfl,HD.out⟩
theorem rg_act1 {ops:Array Oper} {o:Oper} {a:Act} {w:World} {K:Value→World→Prop} {x:Operand} {g:Nat} (hg:Region.wanted o (yielded ops a.tmps)=true) (ho:o.op = .fieldAddr 53 x 1) (hx:a.eval x = .pointer (some ⟨g,0,none⟩)) (hk:K (.pointer (some ⟨g,1,none⟩)) w):rgDo Tryz.prog ops o a w K:=by
 refine rg_value hg ?_ hk
 unfold execOp
 simp only [ho,hx]
 go_simp
theorem rg_act2 {ops:Array Oper} {o:Oper} {a:Act} {w:World} {K:Value→World→Prop} {x:Operand} {g:Nat} (hg:Region.wanted o (yielded ops a.tmps)=true) (ho:o.op = .fieldAddr 53 x 2) (hx:a.eval x = .pointer (some ⟨g,0,none⟩)) (hk:K (.pointer (some ⟨g,2,none⟩)) w):rgDo Tryz.prog ops o a w K:=by
 refine rg_value hg ?_ hk
 unfold execOp
 simp only [ho,hx]
 go_simp
theorem rg_act3 {ops:Array Oper} {o:Oper} {a:Act} {w:World} {K:Value→World→Prop} {x:Operand} {g:Nat} (hg:Region.wanted o (yielded ops a.tmps)=true) (ho:o.op = .fieldAddr 53 x 3) (hx:a.eval x = .pointer (some ⟨g,0,none⟩)) (hk:K (.pointer (some ⟨g,3,none⟩)) w):rgDo Tryz.prog ops o a w K:=by
 refine rg_value hg ?_ hk
 unfold execOp
 simp only [ho,hx]
 go_simp
theorem rg_act4 {ops:Array Oper} {o:Oper} {a:Act} {w:World} {K:Value→World→Prop} {x:Operand} {g:Nat} (hg:Region.wanted o (yielded ops a.tmps)=true) (ho:o.op = .fieldAddr 53 x 4) (hx:a.eval x = .pointer (some ⟨g,0,none⟩)) (hk:K (.pointer (some ⟨g,4,none⟩)) w):rgDo Tryz.prog ops o a w K:=by
 refine rg_value hg ?_ hk
 unfold execOp
 simp only [ho,hx]
 go_simp
theorem rg_act5 {ops:Array Oper} {o:Oper} {a:Act} {w:World} {K:Value→World→Prop} {x:Operand} {g:Nat} (hg:Region.wanted o (yielded ops a.tmps)=true) (ho:o.op = .fieldAddr 53 x 5) (hx:a.eval x = .pointer (some ⟨g,0,none⟩)) (hk:K (.pointer (some ⟨g,8,none⟩)) w):rgDo Tryz.prog ops o a w K:=by
 refine rg_value hg ?_ hk
 unfold execOp
 simp only [ho,hx]
 go_simp
theorem rg_loadI {ops:Array Oper} {o:Oper} {a:Act} {w:World} {K:Value→World→Prop} {x:Operand} {g k:Nat} {n:Int} (hg:Region.wanted o (yielded ops a.tmps)=true) (ho:o.op = .load 3 x) (hx:a.eval x = .pointer (some ⟨g,k,none⟩)) (hc:w.cell? ⟨g,k,none⟩=some (.int .i64 n)) (hk:K (.int .i64 n) w):rgDo Tryz.prog ops o a w K:=by
 refine rg_value hg ?_ hk
 unfold execOp
 simp only [ho,hx]
 go_simp
theorem wp_region_const2 {P:Program} {id:Nat} {Q:Exit→Act→World→Prop} {a:Act} {w:World} {l:List Oper} (pr:List (List Nat)) (cs:List Value) (so:List Nat) (Ph:Nat→World→Prop) (fr:(Nat→Value)→Act) {frc:Act}
  (hm:P.follows .mixedOrders=true) (hB:rgB l.toArray pr a.tmps.size=true) (hso:rcB so pr l.length=true) (hfr:∀ vs,rgAct l a vs=fr vs) (hfc:(fr fun j=>cs.getD j undef)=frc)
  (h0:Ph 0 w.drew)
  (hs:rcSteps P l.toArray pr cs so Ph fr 0 l)
  (hend:∀ w,Ph so.length w→Q .normal frc w):(Code.region id l.toArray true).wp P Q a w :=
 wp_region_const pr cs so Ph fr hm hB hso hfr h0 hs fun w h=>by rw [hfc]; exact hend w h
def ActPh (h:Hand) (b:Nat) (w:World) (K:List Nat) (rs:List (Nat × Obj)) (s s1 m m1:St):Nat→World→Prop
 | 0,W=>PV h b m w K s rs W
 | 1,W=>PV h b m w K s1 rs W
 | _+2,W=>PV h b m1 w K s1 rs W
theorem ActPh.row {h:Hand} {b:Nat} {w:World} {K:List Nat} {g:Nat} {o:Obj} {o1 o2:Nat × Obj} {s s1 m m1:St} {p:Nat} {W:World} (hP:ActPh h b w K [o1,o2,(g,o)] s s1 m m1 p W):W.heap[g]? = some o:=by
 match p,hP with
 | 0,hP=>exact QV.row hP (by simp)
 | 1,hP=>exact QV.row hP (by simp)
 | _+2,hP=>exact QV.row hP (by simp)
theorem act_put (w:World) (h:Hand) (b:Nat) (K:List Nat) (s m:St) (f0:Nat) (A:HAct) (hk:A.kd=0) (ha:I63 A.st) (ho:I63 A.op) (ht:I63 A.sg) (hmo:A.am.Ok) (hxo:A.ax.Ok) (hP:PairRep h.ptr h.on b m w K s) (hfs:s.Fit f0) (hfm:m.Fit f0) (hm:f0 < 1000000000) :
  Calls Tryz.prog 28 #[.pointer h.ptr,.pointer (some ⟨b,0,none⟩),.agg A.L] w fun e w'=>e = .returned (.bool (decide (h.putE s A.st A.op A.sg A.am A.ax=rputE m A.st A.op A.sg A.am A.ax)))∧POn h b w K (h.putSt s A.st A.op A.sg A.am A.ax) (rputSt m A.st A.op A.sg A.am A.ax) w':=by
 have hB:=(((QV.start (pairRep_ok _ _ _ _) hP).alloc (actO A)).alloc zO).alloc zO
 rw [World.size_alloc,World.size_alloc] at hB
 obtain ⟨kd,a,o,t,M,X⟩:=A
 simp only at hk ha ho ht hmo hxo
 subst hk
 have HT:Hid (∀ rs W,PV h b m w K s rs W→Calls Tryz.prog 14 #[.pointer h.ptr,.int .i64 a,.int .i64 o,.int .i64 t,uV M,uV X] W fun e w'=>e = .returned (.int .i64 (h.putE s a o t M X))∧PV h b m w K (h.putSt s a o t M X) rs w'):=fun rs W hW=>PV.callP hW fun L h1=>hPut_q W ⟨h.ptr,h.on,L⟩ s f0 a o t M X ha ho ht hmo hxo h1 hfs hm
 have HR:Hid (∀ rs W,PV h b m w K (h.putSt s a o t M X) rs W→Calls Tryz.prog 80 #[.pointer (some ⟨b,0,none⟩),.int .i64 a,.int .i64 o,.int .i64 t,uV M,uV X] W fun e w'=>e = .returned (.int .i64 (rputE m a o t M X))∧PV h b (rputSt m a o t M X) w K (h.putSt s a o t M X) rs w'):=fun rs W hW=>PV.callF hW fun L h1=>rPut_q W b L m f0 a o t M X ha ho ht hmo hxo h1 hfm hm
 simp only at *
 generalize h.putSt s a o t M X=s1 at *
 generalize rputSt m a o t M X=m1 at *
 generalize h.putE s a o t M X=e1 at *
 generalize rputE m a o t M X=e2 at *
 clear hP hfs hfm
 unfold HAct.L
 have hB':PV h b m w K s [(w.heap.size+1+1,zO),(w.heap.size+1,zO),(w.heap.size,actO ⟨0,a,o,t,M,X⟩)] (((w.alloc (.cells #[.int .i64 0,.int .i64 a,.int .i64 o,.int .i64 t,.int .u64 M.1,.int .u64 M.2.1,.int .u64 M.2.2.1,.int .u64 M.2.2.2,.int .u64 X.1,.int .u64 X.2.1,.int .u64 X.2.2.1,.int .u64 X.2.2.2] 53)).alloc zO).alloc zO):=hB
 have HB0:Hid (ActPh h b w K [(w.heap.size+1+1,zO),(w.heap.size+1,zO),(w.heap.size,actO ⟨0,a,o,t,M,X⟩)] s s1 m m1 0 (((w.alloc (.cells #[.int .i64 0,.int .i64 a,.int .i64 o,.int .i64 t,.int .u64 M.1,.int .u64 M.2.1,.int .u64 M.2.2.1,.int .u64 M.2.2.2,.int .u64 X.1,.int .u64 X.2.1,.int .u64 X.2.2.1,.int .u64 X.2.2.2] 53)).alloc zO).alloc zO).drew):=hB'.drew
 clear hB hB'
 go_enter Tryz.func28,Tryz.ntmps28
 go_upto_region 5 with fail
 refine wp_region_const2 [[],[],[1],[],[3],[],[5],[],[7],[],[9],[0,1,2,3,4,5,6,7,8,9,10],[],[],[13],[],[15],[],[17],[],[19],[],[21],[0,1,2,3,4,5,6,7,8,9,10,11,12,13,14,15,16,17,18,19,20,21,22],[0,1,2,3,4,5,6,7,8,9,10,11,12,13,14,15,16,17,18,19,20,21,22,23],[0,1,2,3,4,5,6,7,8,9,10,11,12,13,14,15,16,17,18,19,20,21,22,23,24]]
  [.pointer h.ptr,.pointer (some ⟨w.heap.size,1,none⟩),.int .i64 a,.pointer (some ⟨w.heap.size,2,none⟩),.int .i64 o,.pointer (some ⟨w.heap.size,3,none⟩),.int .i64 t,.pointer (some ⟨w.heap.size,4,none⟩),uV M,.pointer (some ⟨w.heap.size,8,none⟩),uV X,.int .i64 e1,.pointer (some ⟨b,0,none⟩),.pointer (some ⟨w.heap.size,1,none⟩),.int .i64 a,.pointer (some ⟨w.heap.size,2,none⟩),.int .i64 o,.pointer (some ⟨w.heap.size,3,none⟩),.int .i64 t,.pointer (some ⟨w.heap.size,4,none⟩),uV M,.pointer (some ⟨w.heap.size,8,none⟩),uV X,.int .i64 e2,.int .i64 e1,.int .i64 e2] [11,23]
  (ActPh h b w K [(w.heap.size+1+1,zO),(w.heap.size+1,zO),(w.heap.size,actO ⟨0,a,o,t,M,X⟩)] s s1 m m1) _ (by kernel_rfl) (by kernel_rfl) (by kernel_rfl)
  (fun vs=>by simp only [rgAct,rgPut,List.setIfInBounds_toArray,List.set_cons_zero,List.set_cons_succ]; exact rfl)
  (by simp only [List.getD_cons_zero,List.getD_cons_succ]; exact rfl) HB0.out ?_ ?_
 ·refine ⟨?_,?_,?_,?_,?_,?_,?_,?_,?_,?_,?_,?_,?_,?_,?_,?_,?_,?_,?_,?_,?_,?_,?_,?_,?_,?_,trivial⟩
  ·intro vs p w1 hA hP hq
   exact rg_move rfl (.inl rfl) rfl ⟨rfl,hP⟩
  ·intro vs p w1 hA hP hq
   exact rg_act1 rfl rfl rfl ⟨rfl,hP⟩
  ·intro vs p w1 hA hP hq
   obtain ⟨e1,_⟩:=hA
   have e1:vs 1 = .pointer (some ⟨w.heap.size,1,none⟩):=e1
   exact rg_loadI rfl rfl e1 (row12 (A:=⟨0,a,o,t,M,X⟩) hP.row).1.2.1 ⟨rfl,hP⟩
  ·intro vs p w1 hA hP hq
   exact rg_act2 rfl rfl rfl ⟨rfl,hP⟩
  ·intro vs p w1 hA hP hq
   obtain ⟨e3,_⟩:=hA
   have e3:vs 3 = .pointer (some ⟨w.heap.size,2,none⟩):=e3
   exact rg_loadI rfl rfl e3 (row12 (A:=⟨0,a,o,t,M,X⟩) hP.row).1.2.2.1 ⟨rfl,hP⟩
  ·intro vs p w1 hA hP hq
   exact rg_act3 rfl rfl rfl ⟨rfl,hP⟩
  ·intro vs p w1 hA hP hq
   obtain ⟨e5,_⟩:=hA
   have e5:vs 5 = .pointer (some ⟨w.heap.size,3,none⟩):=e5
   exact rg_loadI rfl rfl e5 (row12 (A:=⟨0,a,o,t,M,X⟩) hP.row).1.2.2.2 ⟨rfl,hP⟩
  ·intro vs p w1 hA hP hq
   exact rg_act4 rfl rfl rfl ⟨rfl,hP⟩
  ·intro vs p w1 hA hP hq
   obtain ⟨e7,_⟩:=hA
   have e7:vs 7 = .pointer (some ⟨w.heap.size,4,none⟩):=e7
   exact rg_load4 rfl rfl e7 (row12 (A:=⟨0,a,o,t,M,X⟩) hP.row).2.1 ⟨rfl,hP⟩
  ·intro vs p w1 hA hP hq
   exact rg_act5 rfl rfl rfl ⟨rfl,hP⟩
  ·intro vs p w1 hA hP hq
   obtain ⟨e9,_⟩:=hA
   have e9:vs 9 = .pointer (some ⟨w.heap.size,8,none⟩):=e9
   exact rg_load4 rfl rfl e9 (row12 (A:=⟨0,a,o,t,M,X⟩) hP.row).2.2 ⟨rfl,hP⟩
  ·intro vs p w1 hA hP hq
   obtain ⟨e0,_,e2,_,e4,_,e6,_,e8,_,e10,_⟩:=hA
   have e0:vs 0 = .pointer h.ptr:=e0
   have e2:vs 2 = .int .i64 a:=e2
   have e4:vs 4 = .int .i64 o:=e4
   have e6:vs 6 = .int .i64 t:=e6
   have e8:vs 8=uV M:=e8
   have e10:vs 10=uV X:=e10
   have hp:=hq 0 rfl
   subst hp
   refine rg_fn rfl rfl rfl (by kernel_rfl) (show [vs 0,vs 2,vs 4,vs 6,vs 8,vs 10]=_ from by rw [e0,e2,e4,e6,e8,e10]) (Calls.mono (HT.out _ _ hP) ?_)
   rintro e w2 ⟨rfl,hP2⟩
   exact ⟨_,rfl,rfl,hP2⟩
  ·intro vs p w1 hA hP hq
   exact rg_move rfl (.inl rfl) rfl ⟨rfl,hP⟩
  ·intro vs p w1 hA hP hq
   exact rg_act1 rfl rfl rfl ⟨rfl,hP⟩
  ·intro vs p w1 hA hP hq
   obtain ⟨e13,_⟩:=hA
   have e13:vs 13 = .pointer (some ⟨w.heap.size,1,none⟩):=e13
   exact rg_loadI rfl rfl e13 (row12 (A:=⟨0,a,o,t,M,X⟩) hP.row).1.2.1 ⟨rfl,hP⟩
  ·intro vs p w1 hA hP hq
   exact rg_act2 rfl rfl rfl ⟨rfl,hP⟩
  ·intro vs p w1 hA hP hq
   obtain ⟨e15,_⟩:=hA
   have e15:vs 15 = .pointer (some ⟨w.heap.size,2,none⟩):=e15
   exact rg_loadI rfl rfl e15 (row12 (A:=⟨0,a,o,t,M,X⟩) hP.row).1.2.2.1 ⟨rfl,hP⟩
  ·intro vs p w1 hA hP hq
   exact rg_act3 rfl rfl rfl ⟨rfl,hP⟩
  ·intro vs p w1 hA hP hq
   obtain ⟨e17,_⟩:=hA
   have e17:vs 17 = .pointer (some ⟨w.heap.size,3,none⟩):=e17
   exact rg_loadI rfl rfl e17 (row12 (A:=⟨0,a,o,t,M,X⟩) hP.row).1.2.2.2 ⟨rfl,hP⟩
  ·intro vs p w1 hA hP hq
   exact rg_act4 rfl rfl rfl ⟨rfl,hP⟩
  ·intro vs p w1 hA hP hq
   obtain ⟨e19,_⟩:=hA
   have e19:vs 19 = .pointer (some ⟨w.heap.size,4,none⟩):=e19
   exact rg_load4 rfl rfl e19 (row12 (A:=⟨0,a,o,t,M,X⟩) hP.row).2.1 ⟨rfl,hP⟩
  ·intro vs p w1 hA hP hq
   exact rg_act5 rfl rfl rfl ⟨rfl,hP⟩
  ·intro vs p w1 hA hP hq
   obtain ⟨e21,_⟩:=hA
   have e21:vs 21 = .pointer (some ⟨w.heap.size,8,none⟩):=e21
   exact rg_load4 rfl rfl e21 (row12 (A:=⟨0,a,o,t,M,X⟩) hP.row).2.2 ⟨rfl,hP⟩
  ·intro vs p w1 hA hP hq
   obtain ⟨_,_,_,_,_,_,_,_,_,_,_,_,e12,_,e14,_,e16,_,e18,_,e20,_,e22,_⟩:=hA
   have e12:vs 12 = .pointer (some ⟨b,0,none⟩):=e12
   have e14:vs 14 = .int .i64 a:=e14
   have e16:vs 16 = .int .i64 o:=e16
   have e18:vs 18 = .int .i64 t:=e18
   have e20:vs 20=uV M:=e20
   have e22:vs 22=uV X:=e22
   have hp:=hq 1 rfl
   subst hp
   refine rg_fn rfl rfl rfl (by kernel_rfl) (show [vs 12,vs 14,vs 16,vs 18,vs 20,vs 22]=_ from by rw [e12,e14,e16,e18,e20,e22]) (Calls.mono (HR.out _ _ hP) ?_)
   rintro e w2 ⟨rfl,hP2⟩
   exact ⟨_,rfl,rfl,hP2⟩
  ·intro vs p w1 hA hP hq
   obtain ⟨_,_,_,_,_,_,_,_,_,_,_,e11,_,_,_,_,_,_,_,_,_,_,_,_,_⟩:=hA
   have e11:vs 11 = .int .i64 e1:=e11
   exact rg_move rfl (.inr rfl) e11 ⟨rfl,hP⟩
  ·intro vs p w1 hA hP hq
   obtain ⟨_,_,_,_,_,_,_,_,_,_,_,_,_,_,_,_,_,_,_,_,_,_,_,e23,_,_⟩:=hA
   have e23:vs 23 = .int .i64 e2:=e23
   exact rg_move rfl (.inr rfl) e23 ⟨rfl,hP⟩
 ·intro w6 hP6
  have hB6:PV h b m1 w K s1 [(w.heap.size+1+1,zO),(w.heap.size+1,zO),(w.heap.size,actO ⟨0,a,o,t,M,X⟩)] w6:=hP6
  obtain ⟨a0,a1,a2,a3,_⟩:=row4 (hB6.u4 (g:=w.heap.size+1) (x:=(0,0,0,0)) (by simp))
  obtain ⟨b0,b1,b2,b3,_⟩:=row4 (hB6.u4 (g:=w.heap.size+1+1) (x:=(0,0,0,0)) (by simp))
  have HD:=Lib.hid (PV.done hB6)
  have hE:∀ w,(Op.equalIn 10000 28 (.agg #[.int .u64 0,.int .u64 0,.int .u64 0,.int .u64 0]) (.agg #[.int .u64 0,.int .u64 0,.int .u64 0,.int .u64 0])).run Tryz.prog w = .ok true w:=fun w=>eqU (0,0,0,0) (0,0,0,0) w
  clear hB6 hP6 HT HR HB0
  go_wp2_with fail
  go_ret
  exact ⟨by simp <;> rfl,HD.out⟩
end Go.Proofs.YtpojljieakdgiaaGreat
