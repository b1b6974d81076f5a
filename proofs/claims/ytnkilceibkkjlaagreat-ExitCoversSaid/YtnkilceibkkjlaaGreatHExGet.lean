/- What is proved here: one withdrawal that waits, read: exit.Get of the program. Conditions: sizes, ints below 2^63. -/
import Derived.Test.YtnkilceibkkjlaaGreatHExG
set_option maxRecDepth 100000
set_option maxHeartbeats 16000000
namespace Go.Proofs.YtnkilceibkkjlaaGreat
open Go.RowKit
def zeroEx:Ex:=⟨0,0,0,0,(0,0,0,0),(0,0,0,0)⟩
def St.exIs (s:St) (id:Int):Bool:=(rowOf (s.val (keyL 15 [id]))).length == 4
def St.ex (s:St) (id:Int):Ex:=match rowOf (s.val (keyL 15 [id])) with
 | [a,b,c,d]=>⟨a,b,c,d,s.amt (keyL 17 [id]),s.amt (keyL 18 [id])⟩
 | _=>zeroEx
abbrev zeroO:Obj:=.cells #[.int .i64 0,.int .i64 0,.int .i64 0,.int .i64 0,.int .u64 0,.int .u64 0,.int .u64 0,.int .u64 0,.int .u64 0,.int .u64 0,.int .u64 0,.int .u64 0] 26
theorem rowEf {w:World} {g:Nat} {x:Ex} (h:w.heap[g]? = some (exO x)):∀ o,w.frozen? ⟨g,o,none⟩=false:=fun _=>frozen_of_row _ _ _ _ _ h
theorem ex_wo {w:World} {g:Nat} {x:Ex} (h:w.heap[g]? = some (exO x)) (q:W4):((((w.setCell ⟨g,4,none⟩ (.int .u64 q.1)).setCell ⟨g,5,none⟩ (.int .u64 q.2.1)).setCell ⟨g,6,none⟩ (.int .u64 q.2.2.1)).setCell ⟨g,7,none⟩ (.int .u64 q.2.2.2)).heap[g]? = some (exO ⟨x.st,x.op,x.sg,x.bl,q,x.mx⟩):=by
 obtain ⟨a,b,c,d,W,M⟩:=x
 exact setCell_row _ (setCell_row _ (setCell_row _ (setCell_row _ (h))))
theorem ex_mx {w:World} {g:Nat} {x:Ex} (h:w.heap[g]? = some (exO x)) (q:W4):((((w.setCell ⟨g,8,none⟩ (.int .u64 q.1)).setCell ⟨g,9,none⟩ (.int .u64 q.2.1)).setCell ⟨g,10,none⟩ (.int .u64 q.2.2.1)).setCell ⟨g,11,none⟩ (.int .u64 q.2.2.2)).heap[g]? = some (exO ⟨x.st,x.op,x.sg,x.bl,x.wo,q⟩):=by
 obtain ⟨a,b,c,d,W,M⟩:=x
 exact setCell_row _ (setCell_row _ (setCell_row _ (setCell_row _ (h))))
theorem ex_all {w:World} {g:Nat} {x:Ex} (h:w.heap[g]? = some (exO x)) (y:Ex):((((((((((((w.setCell ⟨g,0,none⟩ (.int .i64 y.st)).setCell ⟨g,1,none⟩ (.int .i64 y.op)).setCell ⟨g,2,none⟩ (.int .i64 y.sg)).setCell ⟨g,3,none⟩ (.int .i64 y.bl)).setCell ⟨g,4,none⟩ (.int .u64 y.wo.1)).setCell ⟨g,5,none⟩ (.int .u64 y.wo.2.1)).setCell ⟨g,6,none⟩ (.int .u64 y.wo.2.2.1)).setCell ⟨g,7,none⟩ (.int .u64 y.wo.2.2.2)).setCell ⟨g,8,none⟩ (.int .u64 y.mx.1)).setCell ⟨g,9,none⟩ (.int .u64 y.mx.2.1)).setCell ⟨g,10,none⟩ (.int .u64 y.mx.2.2.1)).setCell ⟨g,11,none⟩ (.int .u64 y.mx.2.2.2)).heap[g]? = some (exO y):=by
 obtain ⟨a,b,c,d,W,M⟩:=x
 unfold exO Ex.L at h
 have h0:=setCell_row (off:=0) (.int .i64 y.st) h
 have h1:=setCell_row (off:=1) (.int .i64 y.op) h0
 have h2:=setCell_row (off:=2) (.int .i64 y.sg) h1
 have h3:=setCell_row (off:=3) (.int .i64 y.bl) h2
 have h4:=setCell_row (off:=4) (.int .u64 y.wo.1) h3
 have h5:=setCell_row (off:=5) (.int .u64 y.wo.2.1) h4
 have h6:=setCell_row (off:=6) (.int .u64 y.wo.2.2.1) h5
 have h7:=setCell_row (off:=7) (.int .u64 y.wo.2.2.2) h6
 have h8:=setCell_row (off:=8) (.int .u64 y.mx.1) h7
 have h9:=setCell_row (off:=9) (.int .u64 y.mx.2.1) h8
 have h10:=setCell_row (off:=10) (.int .u64 y.mx.2.2.1) h9
 have h11:=setCell_row (off:=11) (.int .u64 y.mx.2.2.2) h10
 rw [h11]
 simp [Ex.L]
theorem ex_below {k g:Nat} {w0 w:World} (h:Below k w0 w) (hg:k≤g) (y:Ex):Below k w0 ((((((((((((w.setCell ⟨g,0,none⟩ (.int .i64 y.st)).setCell ⟨g,1,none⟩ (.int .i64 y.op)).setCell ⟨g,2,none⟩ (.int .i64 y.sg)).setCell ⟨g,3,none⟩ (.int .i64 y.bl)).setCell ⟨g,4,none⟩ (.int .u64 y.wo.1)).setCell ⟨g,5,none⟩ (.int .u64 y.wo.2.1)).setCell ⟨g,6,none⟩ (.int .u64 y.wo.2.2.1)).setCell ⟨g,7,none⟩ (.int .u64 y.wo.2.2.2)).setCell ⟨g,8,none⟩ (.int .u64 y.mx.1)).setCell ⟨g,9,none⟩ (.int .u64 y.mx.2.1)).setCell ⟨g,10,none⟩ (.int .u64 y.mx.2.2.1)).setCell ⟨g,11,none⟩ (.int .u64 y.mx.2.2.2)) :=
 ((((((((((((h.setCell (p:=⟨g,0,none⟩) hg _).setCell (p:=⟨g,1,none⟩) hg _).setCell (p:=⟨g,2,none⟩) hg _).setCell (p:=⟨g,3,none⟩) hg _).setCell (p:=⟨g,4,none⟩) hg _).setCell (p:=⟨g,5,none⟩) hg _).setCell (p:=⟨g,6,none⟩) hg _).setCell (p:=⟨g,7,none⟩) hg _).setCell (p:=⟨g,8,none⟩) hg _).setCell (p:=⟨g,9,none⟩) hg _).setCell (p:=⟨g,10,none⟩) hg _).setCell (p:=⟨g,11,none⟩) hg _)
theorem QV.exWo {R:World→List Nat→St→Prop} {w W:World} {L:List Nat} {s:St} {rs:List (Nat × Obj)} (h:QV R w L s rs W) {g:Nat} {x:Ex} (q:W4) (hm:(g,exO x)∈rs) (qs:List (Nat × Obj)) (hqs:∀ x,x∈qs→x∈rs∧x.1≠g) :
  QV R w L s ((g,exO ⟨x.st,x.op,x.sg,x.bl,q,x.mx⟩) :: qs) ((((W.setCell ⟨g,4,none⟩ (.int .u64 q.1)).setCell ⟨g,5,none⟩ (.int .u64 q.2.1)).setCell ⟨g,6,none⟩ (.int .u64 q.2.2.1)).setCell ⟨g,7,none⟩ (.int .u64 q.2.2.2)) :=
 h.turn hm (ex_wo (h.row hm) q) (by simp) (fun _ hk=>by rw [Below.heap_setCell _ _ _ _ hk,Below.heap_setCell _ _ _ _ hk,Below.heap_setCell _ _ _ _ hk,Below.heap_setCell _ _ _ _ hk]) ⟨rfl,rfl,rfl⟩ qs hqs
theorem QV.exMx {R:World→List Nat→St→Prop} {w W:World} {L:List Nat} {s:St} {rs:List (Nat × Obj)} (h:QV R w L s rs W) {g:Nat} {x:Ex} (q:W4) (hm:(g,exO x)∈rs) (qs:List (Nat × Obj)) (hqs:∀ x,x∈qs→x∈rs∧x.1≠g) :
  QV R w L s ((g,exO ⟨x.st,x.op,x.sg,x.bl,x.wo,q⟩) :: qs) ((((W.setCell ⟨g,8,none⟩ (.int .u64 q.1)).setCell ⟨g,9,none⟩ (.int .u64 q.2.1)).setCell ⟨g,10,none⟩ (.int .u64 q.2.2.1)).setCell ⟨g,11,none⟩ (.int .u64 q.2.2.2)) :=
 h.turn hm (ex_mx (h.row hm) q) (by simp) (fun _ hk=>by rw [Below.heap_setCell _ _ _ _ hk,Below.heap_setCell _ _ _ _ hk,Below.heap_setCell _ _ _ _ hk,Below.heap_setCell _ _ _ _ hk]) ⟨rfl,rfl,rfl⟩ qs hqs
theorem QSt.row {w:World} {h:Hand} {s:St} {f:Nat} (hq:QSt w h s) (hf:s.Fit f) (hm:f < 100000000000) (k:ByteArray):Calls Tryz.prog 75 #[.pointer h.ptr,.string k] w (RetRowG w (rowOf (s.val k))):=by
 have hr:=hq.read hf hm
 obtain ⟨ok,hg⟩:=hr.get k
 exact rowG_any w h.ptr k _ ok hg (hr.vsz k)
theorem xGet_q (w:World) (h:Hand) (s:St) (f:Nat) (id:Int) (hid:I63 id) (hq:QSt w h s) (hf:s.Fit f) (hm:f < 100000000000) :
  Calls Tryz.prog 44 #[.pointer h.ptr,.int .i64 id] w fun e w'=>e = .returned (.tuple #[.agg (s.ex id).L,.bool (s.exIs id)])∧Below w.heap.size w w':=by
 have hB:=(HV.start hq).alloc (zeroO)
 have hb0:=bl_alloc (Below.refl _ w) (zeroO)
 have hk:=key1_any 15 (by decide) (by decide) id hid (w.alloc (zeroO))
 rw [World.size_alloc] at hk
 have HK:Hid (Calls Tryz.prog 90 #[.int .i64 15,.slice (some ⟨w.heap.size+1,0,none⟩) 1 1] ((w.alloc (zeroO)).alloc (.cells #[.int .i64 id] 3)) fun e w'=>e = .returned (.string (keyL 15 [id]))∧HV h w s [(w.heap.size,zeroO)] w'∧Below w.heap.size w w'):=hk.mono fun e w' ⟨he,hb⟩=>⟨he,hB.below (by rwa [World.size_alloc]),bl_then hb0 (by rwa [World.size_alloc])⟩
 have hrw:∀ rs W,HV h w s rs W→Calls Tryz.prog 75 #[.pointer h.ptr,.string (keyL 15 [id])] W (RetRowG W (rowOf (s.val (keyL 15 [id])))):=fun rs W hW=>by
  obtain ⟨L',h1,_⟩:=hW.on
  exact QSt.row (h:=⟨h.ptr,h.on,L'⟩) h1 hf hm _
 by_cases h4:(rowOf (s.val (keyL 15 [id]))).length=4
 ·obtain ⟨a,b,c,d,hl⟩:∃ a b c d,rowOf (s.val (keyL 15 [id])) = [a,b,c,d]:=by
   match hx:rowOf (s.val (keyL 15 [id])),h4 with
   | [a,b,c,d],_=>exact ⟨a,b,c,d,rfl⟩
  have he:s.ex id=⟨a,b,c,d,s.amt (keyL 17 [id]),s.amt (keyL 18 [id])⟩:=by unfold St.ex; rw [hl]
  have hi:s.exIs id=true:=by unfold St.exIs; rw [hl]; rfl
  rw [he,hi]
  rw [hl] at hrw
  have HRW:Hid (∀ rs W,HV h w s rs W→Below w.heap.size w W→Calls Tryz.prog 75 #[.pointer h.ptr,.string (keyL 15 [id])] W fun e w'=>∃ g k cur,e = .returned (.slice (some ⟨g,0,none⟩) 4 k)∧HV h w s ((g,.cells cur 3) :: rs) w'∧Below w.heap.size w w'∧cur[0]? = some (.int .i64 a)∧cur[1]? = some (.int .i64 b)∧cur[2]? = some (.int .i64 c)∧cur[3]? = some (.int .i64 d)):=fun rs W hW hb=>(hrw rs W hW).mono fun e w' ⟨v,he,ho,hg,hb2⟩=>by
   rcases ho.2 with ⟨_,h0⟩ | ⟨g,cap,cur,rfl,hg2,_,_,_,ht⟩
   ·cases h0
   ·have hc:∀ j,j < 4→cur[j]? = (intsV [a,b,c,d])[j]?:=fun j hj=>by
     have:=congrArg (fun x=>x[j]?) ht
     simp only [List.getElem?_take] at this
     rw [if_pos (show j < [a,b,c,d].length*1 from by simpa using hj)] at this
     simpa using this
    exact ⟨g,cap,cur,he,QV.add1 hW hb2 (hg g rfl) hg2,bl_then hb hb2,hc 0 (by decide),hc 1 (by decide),hc 2 (by decide),hc 3 (by decide)⟩
  have HAM:Hid (∀ k rs W,HV h w s rs W→Below w.heap.size w W→Calls Tryz.prog 64 #[.pointer h.ptr,.string k] W fun e w'=>e = .returned (uV (s.amt k))∧HV h w s rs w'∧Below w.heap.size w w'):=fun k rs W hW hb=>(HV.camt hW hf hm _).mono fun e w' ⟨he,h2⟩=>⟨he,QV.below hW h2,bl_then hb h2⟩
  have HK1:Hid (∀ t W,1≤t→t≤255→Calls Tryz.prog 90 #[.int .i64 ((t:Nat):Int),.slice (some ⟨W.heap.size,0,none⟩) 1 1] (W.alloc (.cells #[.int .i64 id] 3)) fun e w'=>e = .returned (.string (keyL t [id]))∧Below W.heap.size W w'):=fun t W h1 h2=>key1_any t h1 h2 id hid W
  clear hB hb0 hk hrw h4 he hi hl hq hf
  dsimp only [Ex.L] at HK ⊢
  go_enter Tryz.func44,Tryz.ntmps44
  go_wp2_with fail
  refine Calls.mono HK.out ?_
  rintro e w2 ⟨rfl,hB2,hb2⟩
  have HR2:=Lib.hid (HRW.out _ _ hB2 hb2)
  clear hB2 hb2 HK HRW
  go_wp2_with fail
  refine Calls.mono HR2.out ?_
  rintro e w3 ⟨g,kc,cur,rfl,hB3,hb3,u0,u1,u2,u3⟩
  have hc:∀ j v,cur[j]? = some v→w3.cell? ⟨g,j,none⟩=some v:=fun j v hv=>by rw [cell_of_row _ _ _ _ _ _ (hB3.row (g:=g) (o:=.cells cur 3) (by simp))]; exact hv
  have c0:=hc 0 _ u0
  have c1:=hc 1 _ u1
  have c2:=hc 2 _ u2
  have c3:=hc 3 _ u3
  clear hc u0 u1 u2 u3 HR2
  have hn0:=World.new_ne w3
  go_upto_region 4 with fail
  go_region_held3 (fun w'=>w'.cell? ⟨g,0,none⟩=some (.int .i64 a)∧w'.cell? ⟨g,1,none⟩=some (.int .i64 b)∧w'.cell? ⟨g,2,none⟩=some (.int .i64 c)∧w'.cell? ⟨g,3,none⟩=some (.int .i64 d)) (go_keep) (first | fail)
  have hB4:HV h w s ((w3.heap.size,exO ⟨a,b,c,d,(0,0,0,0),(0,0,0,0)⟩) :: [(g,.cells cur 3),(w.heap.size,zeroO)]) (w3.alloc (.cells #[.int .i64 a,.int .i64 b,.int .i64 c,.int .i64 d,.int .u64 0,.int .u64 0,.int .u64 0,.int .u64 0,.int .u64 0,.int .u64 0,.int .u64 0,.int .u64 0] 26)).drew:=(hB3.alloc (exO ⟨a,b,c,d,(0,0,0,0),(0,0,0,0)⟩)).drew
  have hb4:Below w.heap.size w (w3.alloc (.cells #[.int .i64 a,.int .i64 b,.int .i64 c,.int .i64 d,.int .u64 0,.int .u64 0,.int .u64 0,.int .u64 0,.int .u64 0,.int .u64 0,.int .u64 0,.int .u64 0] 26)).drew:=bl_drew (bl_alloc hb3 _)
  have HGE:Hid (w.heap.size≤w3.heap.size):=hb3.size
  have HNE:Hid (w.heap.size≠w3.heap.size):=Nat.ne_of_lt (lt_of_at (hB3.row (g:=w.heap.size) (o:=zeroO) (by simp)))
  clear hB3 hb3 hn0 c0 c1 c2 c3
  generalize (w3.alloc (.cells #[.int .i64 a,.int .i64 b,.int .i64 c,.int .i64 d,.int .u64 0,.int .u64 0,.int .u64 0,.int .u64 0,.int .u64 0,.int .u64 0,.int .u64 0,.int .u64 0] 26)).drew=w4 at *
  generalize w3.heap.size=g7 at *
  have HK4:=Lib.hid (HK1.out 17 w4 (by decide) (by decide))
  have HB4:=Lib.hid (And.intro hB4 hb4)
  clear hB4 hb4
  go_wp2_with fail
  refine Calls.mono HK4.out ?_
  rintro e w5 ⟨rfl,hb5⟩
  have HA5:=Lib.hid (HAM.out (keyL 17 [id]) _ _ (QV.below HB4.out.1 hb5) (bl_then HB4.out.2 hb5))
  clear hb5 HK4 HB4
  go_wp2_with fail
  refine Calls.mono HA5.out ?_
  rintro e w6 ⟨rfl,hB6,hb6⟩
  have hx6:=hB6.row (g:=g7) (o:=exO ⟨a,b,c,d,(0,0,0,0),(0,0,0,0)⟩) (by simp)
  have hf6:=rowEf hx6
  obtain ⟨⟨k0,k1,k2,k3⟩,⟨p0,p1,p2,p3⟩,⟨q0,q1,q2,q3⟩⟩:=rowE hx6
  have f4:=hf6 4
  have f5:=hf6 5
  have f6:=hf6 6
  have f7:=hf6 7
  generalize hwo:s.amt (keyL 17 [id])=wo at *
  have HWO:=Lib.hid hwo
  clear hwo
  have hB7:=QV.exWo hB6 (g:=g7) (x:=⟨a,b,c,d,(0,0,0,0),(0,0,0,0)⟩) wo (by simp) [(w.heap.size,zeroO)] (by simpa using HNE.out)
  have hb7:=put4h_below hb6 HGE.out (.int .u64 wo.1) (.int .u64 wo.2.1) (.int .u64 wo.2.2.1) (.int .u64 wo.2.2.2)
  clear hx6 hf6 hB6 hb6 HA5
  go_upto_region 6 with fail
  clear k0 k1 k2 k3 p0 p1 p2 p3 q0 q1 q2 q3 f4 f5 f6 f7
  generalize ((((w6.setCell ⟨g7,4,none⟩ (.int .u64 wo.1)).setCell ⟨g7,5,none⟩ (.int .u64 wo.2.1)).setCell ⟨g7,6,none⟩ (.int .u64 wo.2.2.1)).setCell ⟨g7,7,none⟩ (.int .u64 wo.2.2.2))=w7 at *
  have HK7:=Lib.hid (HK1.out 18 w7 (by decide) (by decide))
  have HB7:=Lib.hid (And.intro hB7 hb7)
  clear hB7 hb7
  go_wp2_with fail
  refine Calls.mono HK7.out ?_
  rintro e w8 ⟨rfl,hb8⟩
  have HA8:=Lib.hid (HAM.out (keyL 18 [id]) _ _ (QV.below HB7.out.1 hb8) (bl_then HB7.out.2 hb8))
  clear hb8 HK7 HB7
  go_wp2_with fail
  refine Calls.mono HA8.out ?_
  rintro e w9 ⟨rfl,hB9,hb9⟩
  have hx9:=hB9.row (g:=g7) (o:=exO ⟨a,b,c,d,wo,(0,0,0,0)⟩) (by simp)
  have hf9:=rowEf hx9
  obtain ⟨⟨k0,k1,k2,k3⟩,⟨p0,p1,p2,p3⟩,⟨q0,q1,q2,q3⟩⟩:=rowE hx9
  have f8:=hf9 8
  have f9:=hf9 9
  have f10:=hf9 10
  have f11:=hf9 11
  generalize hmx:s.amt (keyL 18 [id])=mx at *
  have HMX:=Lib.hid hmx
  clear hmx
  have hB10:=QV.exMx hB9 (g:=g7) (x:=⟨a,b,c,d,wo,(0,0,0,0)⟩) mx (by simp) [(w.heap.size,zeroO)] (by simpa using HNE.out)
  have hb10:Below w.heap.size w ((((w9.setCell ⟨g7,8,none⟩ (.int .u64 mx.1)).setCell ⟨g7,9,none⟩ (.int .u64 mx.2.1)).setCell ⟨g7,10,none⟩ (.int .u64 mx.2.2.1)).setCell ⟨g7,11,none⟩ (.int .u64 mx.2.2.2)):=(((hb9.setCell (p:=⟨g7,8,none⟩) HGE.out _).setCell (p:=⟨g7,9,none⟩) HGE.out _).setCell (p:=⟨g7,10,none⟩) HGE.out _).setCell (p:=⟨g7,11,none⟩) HGE.out _
  clear hx9 hf9 hB9 hb9 HA8
  go_upto_region 7 with fail
  clear k0 k1 k2 k3 p0 p1 p2 p3 q0 q1 q2 q3 f8 f9 f10 f11
  generalize ((((w9.setCell ⟨g7,8,none⟩ (.int .u64 mx.1)).setCell ⟨g7,9,none⟩ (.int .u64 mx.2.1)).setCell ⟨g7,10,none⟩ (.int .u64 mx.2.2.1)).setCell ⟨g7,11,none⟩ (.int .u64 mx.2.2.2))=w10 at *
  obtain ⟨⟨k0,k1,k2,k3⟩,⟨p0,p1,p2,p3⟩,⟨q0,q1,q2,q3⟩⟩:=rowE (hB10.row (g:=g7) (o:=exO ⟨a,b,c,d,wo,mx⟩) (by simp))
  have hz:=hB10.row (g:=w.heap.size) (o:=zeroO) (by simp)
  have hfz:=rowEf (x:=zeroEx) hz
  obtain ⟨⟨z0,z1,z2,z3⟩,⟨z4,z5,z6,z7⟩,⟨z8,z9,z10,z11⟩⟩:=rowE (x:=zeroEx) hz
  have y0:=hfz 0
  have y1:=hfz 1
  have y2:=hfz 2
  have y3:=hfz 3
  have y4:=hfz 4
  have y5:=hfz 5
  have y6:=hfz 6
  have y7:=hfz 7
  have y8:=hfz 8
  have y9:=hfz 9
  have y10:=hfz 10
  have y11:=hfz 11
  have HZ:=Lib.hid (ex_all (x:=zeroEx) hz ⟨a,b,c,d,wo,mx⟩)
  have HBB:=Lib.hid (ex_below hb10 (Nat.le_refl _) ⟨a,b,c,d,wo,mx⟩)
  clear hz hfz hB10 hb10
  go_wp2_with fail
  refine bodyPost_ret (results_cell_row2 rfl _ _ w.heap.size 26 (Ex.L ⟨a,b,c,d,wo,mx⟩) (0,0) _ rfl HZ.out Tryz.underlying26 rfl (by kernel_rfl)) rfl ?_
  exact ⟨by rw [← HWO.out,← HMX.out]; rfl,HBB.out⟩
 ·have he:s.ex id=zeroEx:=by
   unfold St.ex
   match hx:rowOf (s.val (keyL 15 [id])),h4 with
   | [],_ | [_],_ | [_,_],_ | [_,_,_],_ | _ :: _ :: _ :: _ :: _ :: _,_=>rfl
   | [_,_,_,_],h4=>exact absurd rfl h4
  have hi:s.exIs id=false:=by unfold St.exIs; rw [beq_eq_false_iff_ne]; exact h4
  rw [he,hi]
  have HRW:Hid (∀ rs W,HV h w s rs W→Below w.heap.size w W→Calls Tryz.prog 75 #[.pointer h.ptr,.string (keyL 15 [id])] W fun e w'=>∃ a k,e = .returned (.slice a (rowOf (s.val (keyL 15 [id]))).length k)∧HV h w s rs w'∧Below w.heap.size w w'):=fun rs W hW hb=>(hrw rs W hW).mono fun e w' ⟨v,he,ho,hg,hb2⟩=>by
   obtain ⟨_,a,k,rfl,_⟩:=ho.src
   exact ⟨a,k,he,QV.below hW hb2,bl_then hb hb2⟩
  have hne:(((rowOf (s.val (keyL 15 [id]))).length:Int) != 4)=true:=by
   rw [bne_iff_ne]; omega
  clear hB hb0 hk hrw h4 he hi hq hf
  generalize (rowOf (s.val (keyL 15 [id]))).length=n at *
  unfold zeroEx Ex.L
  go_enter Tryz.func44,Tryz.ntmps44
  go_wp2_with fail
  refine Calls.mono HK.out ?_
  rintro e w2 ⟨rfl,hB2,hb2⟩
  have HR2:=Lib.hid (HRW.out _ _ hB2 hb2)
  clear hB2 hb2 HK HRW
  go_wp2_with fail
  refine Calls.mono HR2.out ?_
  rintro e w3 ⟨a3,kc,rfl,hB10,hb10⟩
  have hz:=hB10.row (g:=w.heap.size) (o:=zeroO) (by simp)
  have hfz:=rowEf (x:=zeroEx) hz
  have y0:=hfz 0
  have y1:=hfz 1
  have y2:=hfz 2
  have y3:=hfz 3
  have y4:=hfz 4
  have y5:=hfz 5
  have y6:=hfz 6
  have y7:=hfz 7
  have y8:=hfz 8
  have y9:=hfz 9
  have y10:=hfz 10
  have y11:=hfz 11
  obtain ⟨⟨z0,z1,z2,z3⟩,⟨z4,z5,z6,z7⟩,⟨z8,z9,z10,z11⟩⟩:=rowE (x:=zeroEx) hz
  have HZ:=Lib.hid (ex_all (x:=zeroEx) hz zeroEx)
  have HBB:=Lib.hid (ex_below hb10 (Nat.le_refl _) zeroEx)
  clear hz hfz hB10 hb10 HR2
  go_wp2_with fail
  refine bodyPost_ret (results_cell_row2 rfl _ _ w.heap.size 26 (Ex.L zeroEx) (0,0) _ rfl HZ.out Tryz.underlying26 rfl (by kernel_rfl)) rfl ?_
  exact ⟨rfl,HBB.out⟩
end Go.Proofs.YtnkilceibkkjlaaGreat
