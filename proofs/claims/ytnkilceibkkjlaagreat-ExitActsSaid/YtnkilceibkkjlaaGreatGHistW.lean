/- What is proved here: one withdrawal that waits, read: exit.Get of the program. Conditions: sizes, int -/
import Derived.Test.YtnkilceibkkjlaaGreatGExG
import Derived.Test.YtnkilceibkkjlaaGreatGRelyG
set_option maxRecDepth 100000
set_option maxHeartbeats 16000000
namespace Go.Proofs.YtnkilceibkkjlaaGreat
open Go.RowKit
def z2q:Ex:=⟨0,0,0,0,(0,0,0,0),(0,0,0,0)⟩
def St.exIs(s:St)(id:Int):Bool:=(rowOf (s.val (keyL 15 [id]))).length==4
def St.ex(s:St)(id:Int):Ex:=match rowOf (s.val (keyL 15 [id]))with
 | [a,b,c,d]=>⟨a,b,c,d,s.amt (keyL 17 [id]),s.amt (keyL 18 [id])⟩
 | _=>z2q
abbrev zc7:Obj:=.cells #[.int .i64 0,.int .i64 0,.int .i64 0,.int .i64 0,.int .u64 0,.int .u64 0,.int .u64 0,.int .u64 0,.int .u64 0,.int .u64 0,.int .u64 0,.int .u64 0] 26
theorem zsk{w:World}{g:Nat}{x:Ex}(h:w.heap[g]?=some (exO x)):∀ o,w.frozen? ⟨g,o,none⟩=false:=fun _=>frozen_of_row _ _ _ _ _ h
theorem q0u{w:World}{g:Nat}{x:Ex}(h:w.heap[g]?=some (exO x))(q:W4):((((w.setCell ⟨g,4,none⟩ (.int .u64 q.1)).setCell ⟨g,5,none⟩ (.int .u64 q.2.1)).setCell ⟨g,6,none⟩ (.int .u64 q.2.2.1)).setCell ⟨g,7,none⟩ (.int .u64 q.2.2.2)).heap[g]?=some (exO ⟨x.st,x.op,x.sg,x.bl,q,x.mx⟩):=by
 obtain⟨a,b,c,d,W,M⟩:=x;exact z0b _ (z0b _ (z0b _ (z0b _ (h))))
theorem q0h{w:World}{g:Nat}{x:Ex}(h:w.heap[g]?=some (exO x))(q:W4):((((w.setCell ⟨g,8,none⟩ (.int .u64 q.1)).setCell ⟨g,9,none⟩ (.int .u64 q.2.1)).setCell ⟨g,10,none⟩ (.int .u64 q.2.2.1)).setCell ⟨g,11,none⟩ (.int .u64 q.2.2.2)).heap[g]?=some (exO ⟨x.st,x.op,x.sg,x.bl,x.wo,q⟩):=by
 obtain⟨a,b,c,d,W,M⟩:=x;exact z0b _ (z0b _ (z0b _ (z0b _ (h))))
theorem zur{w:World}{g:Nat}{x:Ex}(h:w.heap[g]?=some (exO x))(y:Ex):((((((((((((w.setCell ⟨g,0,none⟩ (.int .i64 y.st)).setCell ⟨g,1,none⟩ (.int .i64 y.op)).setCell ⟨g,2,none⟩ (.int .i64 y.sg)).setCell ⟨g,3,none⟩ (.int .i64 y.bl)).setCell ⟨g,4,none⟩ (.int .u64 y.wo.1)).setCell ⟨g,5,none⟩ (.int .u64 y.wo.2.1)).setCell ⟨g,6,none⟩ (.int .u64 y.wo.2.2.1)).setCell ⟨g,7,none⟩ (.int .u64 y.wo.2.2.2)).setCell ⟨g,8,none⟩ (.int .u64 y.mx.1)).setCell ⟨g,9,none⟩ (.int .u64 y.mx.2.1)).setCell ⟨g,10,none⟩ (.int .u64 y.mx.2.2.1)).setCell ⟨g,11,none⟩ (.int .u64 y.mx.2.2.2)).heap[g]?=some (exO y):=by
 obtain⟨a,b,c,d,W,M⟩:=x;unfold exO Ex.L at h;have h0:=z0b (off:=0) (.int .i64 y.st) h;have h1:=z0b (off:=1) (.int .i64 y.op) h0;have h2:=z0b (off:=2) (.int .i64 y.sg) h1;have h3:=z0b (off:=3) (.int .i64 y.bl) h2;have h4:=z0b (off:=4) (.int .u64 y.wo.1) h3;have h5:=z0b (off:=5) (.int .u64 y.wo.2.1) h4;have h6:=z0b (off:=6) (.int .u64 y.wo.2.2.1) h5;have h7:=z0b (off:=7) (.int .u64 y.wo.2.2.2) h6;have h8:=z0b (off:=8) (.int .u64 y.mx.1) h7;have h9:=z0b (off:=9) (.int .u64 y.mx.2.1) h8;have h10:=z0b (off:=10) (.int .u64 y.mx.2.2.1) h9;have h11:=z0b (off:=11) (.int .u64 y.mx.2.2.2) h10;rw[h11];simp[Ex.L]
theorem zfi{k g:Nat}{w0 w:World}(h:Below k w0 w)(hg:k<=g)(y:Ex):Below k w0 ((((((((((((w.setCell ⟨g,0,none⟩ (.int .i64 y.st)).setCell ⟨g,1,none⟩ (.int .i64 y.op)).setCell ⟨g,2,none⟩ (.int .i64 y.sg)).setCell ⟨g,3,none⟩ (.int .i64 y.bl)).setCell ⟨g,4,none⟩ (.int .u64 y.wo.1)).setCell ⟨g,5,none⟩ (.int .u64 y.wo.2.1)).setCell ⟨g,6,none⟩ (.int .u64 y.wo.2.2.1)).setCell ⟨g,7,none⟩ (.int .u64 y.wo.2.2.2)).setCell ⟨g,8,none⟩ (.int .u64 y.mx.1)).setCell ⟨g,9,none⟩ (.int .u64 y.mx.2.1)).setCell ⟨g,10,none⟩ (.int .u64 y.mx.2.2.1)).setCell ⟨g,11,none⟩ (.int .u64 y.mx.2.2.2)):=
 ((((((((((((h.setCell (p:=⟨g,0,none⟩) hg _).setCell (p:=⟨g,1,none⟩) hg _).setCell (p:=⟨g,2,none⟩) hg _).setCell (p:=⟨g,3,none⟩) hg _).setCell (p:=⟨g,4,none⟩) hg _).setCell (p:=⟨g,5,none⟩) hg _).setCell (p:=⟨g,6,none⟩) hg _).setCell (p:=⟨g,7,none⟩) hg _).setCell (p:=⟨g,8,none⟩) hg _).setCell (p:=⟨g,9,none⟩) hg _).setCell (p:=⟨g,10,none⟩) hg _).setCell (p:=⟨g,11,none⟩) hg _)
theorem QV.exWo{R:World->List Nat->St->Prop}{w W:World}{L:List Nat}{s:St}{rs:List (Nat × Obj)}(h:QV R w L s rs W){g:Nat}{x:Ex}(q:W4)(hm:(g,exO x)∈rs)(qs:List (Nat × Obj))(hqs:∀ x,x∈qs->x∈rs/\x.1≠g) :
  QV R w L s ((g,exO ⟨x.st,x.op,x.sg,x.bl,q,x.mx⟩)::qs) ((((W.setCell ⟨g,4,none⟩ (.int .u64 q.1)).setCell ⟨g,5,none⟩ (.int .u64 q.2.1)).setCell ⟨g,6,none⟩ (.int .u64 q.2.2.1)).setCell ⟨g,7,none⟩ (.int .u64 q.2.2.2)):=
 h.turn hm (q0u (h.row hm) q) (by simp) (fun _ hk=>by rw[Below.heap_setCell _ _ _ _ hk,Below.heap_setCell _ _ _ _ hk,Below.heap_setCell _ _ _ _ hk,Below.heap_setCell _ _ _ _ hk]) ⟨rfl,rfl,rfl⟩ qs hqs
theorem QV.exMx{R:World->List Nat->St->Prop}{w W:World}{L:List Nat}{s:St}{rs:List (Nat × Obj)}(h:QV R w L s rs W){g:Nat}{x:Ex}(q:W4)(hm:(g,exO x)∈rs)(qs:List (Nat × Obj))(hqs:∀ x,x∈qs->x∈rs/\x.1≠g) :
  QV R w L s ((g,exO ⟨x.st,x.op,x.sg,x.bl,x.wo,q⟩)::qs) ((((W.setCell ⟨g,8,none⟩ (.int .u64 q.1)).setCell ⟨g,9,none⟩ (.int .u64 q.2.1)).setCell ⟨g,10,none⟩ (.int .u64 q.2.2.1)).setCell ⟨g,11,none⟩ (.int .u64 q.2.2.2)):=
 h.turn hm (q0h (h.row hm) q) (by simp) (fun _ hk=>by rw[Below.heap_setCell _ _ _ _ hk,Below.heap_setCell _ _ _ _ hk,Below.heap_setCell _ _ _ _ hk,Below.heap_setCell _ _ _ _ hk]) ⟨rfl,rfl,rfl⟩ qs hqs
theorem QSt.row{w:World}{h:Hand}{s:St}{f:Nat}(hq:QSt w h s)(hf:s.Fit f)(hm:f<100000000000)(k:ByteArray):Calls Tryz.prog 75 #[.pointer h.ptr,.string k] w (z4u w (rowOf (s.val k))):=by
 have hr:=hq.read hf hm;obtain⟨ok,hg⟩:=hr.get k;exact zkg w h.ptr k _ ok hg (hr.vsz k)
theorem zru(w:World)(h:Hand)(s:St)(f:Nat)(id:Int)(hid:I63 id)(hq:QSt w h s)(hf:s.Fit f)(hm:f<100000000000) :
  Calls Tryz.prog 44 #[.pointer h.ptr,.int .i64 id] w fun e w'=>e= .returned (.tuple #[.agg (s.ex id).L,.bool (s.exIs id)])/\Below w.heap.size w w':=by
 have hB:=(HV.start hq).alloc (zc7);have hb0:=z04 (Below.refl _ w) (zc7);have hk:=z7x 15 (by decide) (by decide) id hid (w.alloc (zc7));rw[World.size_alloc]at hk;have HK:Hid (Calls Tryz.prog 90 #[.int .i64 15,.slice (some ⟨w.heap.size+1,0,none⟩) 1 1] ((w.alloc (zc7)).alloc (.cells #[.int .i64 id] 3)) fun e w'=>e= .returned (.string (keyL 15 [id]))/\HV h w s [(w.heap.size,zc7)] w'/\Below w.heap.size w w'):=hk.mono fun e w' ⟨he,hb⟩=>⟨he,hB.below (by rwa [World.size_alloc]),z0a hb0 (by rwa [World.size_alloc])⟩
 have hrw:∀ rs W,HV h w s rs W->Calls Tryz.prog 75 #[.pointer h.ptr,.string (keyL 15 [id])] W (z4u W (rowOf (s.val (keyL 15 [id])))):=fun rs W hW=>by
  obtain⟨L',h1,_⟩:=hW.on;exact QSt.row (h:=⟨h.ptr,h.on,L'⟩) h1 hf hm _
 by_cases h4:(rowOf (s.val (keyL 15 [id]))).length=4
 ·obtain⟨a,b,c,d,hl⟩:∃ a b c d,rowOf (s.val (keyL 15 [id])) = [a,b,c,d]:=by
   match hx:rowOf (s.val (keyL 15 [id])),h4 with
   | [a,b,c,d],_=>exact⟨a,b,c,d,rfl⟩
  have he:s.ex id=⟨a,b,c,d,s.amt (keyL 17 [id]),s.amt (keyL 18 [id])⟩:=by unfold St.ex;rw[hl]
  have hi:s.exIs id=true:=by unfold St.exIs;rw[hl];rfl
  rw[he,hi];rw[hl]at hrw;have HRW:Hid (∀ rs W,HV h w s rs W->Below w.heap.size w W->Calls Tryz.prog 75 #[.pointer h.ptr,.string (keyL 15 [id])] W fun e w'=>∃ g k cur,e= .returned (.slice (some ⟨g,0,none⟩) 4 k)/\HV h w s ((g,.cells cur 3)::rs) w'/\Below w.heap.size w w'/\cur[0]?=some (.int .i64 a)/\cur[1]?=some (.int .i64 b)/\cur[2]?=some (.int .i64 c)/\cur[3]?=some (.int .i64 d)):=fun rs W hW hb=>(hrw rs W hW).mono fun e w' ⟨v,he,ho,hg,hb2⟩=>by
   rcases ho.2 with⟨_,h0⟩ | ⟨g,cap,cur,rfl,hg2,_,_,_,ht⟩
   ·cases h0
   ·have hc:∀ j,j<4->cur[j]? = (znj [a,b,c,d])[j]?:=fun j hj=>by
     have:=congrArg (fun x=>x[j]?) ht;simp only[List.getElem?_take]at this;rw[if_pos (show j < [a,b,c,d].length*1 from by simpa using hj)]at this
     simpa using this
    exact⟨g,cap,cur,he,QV.add1 hW hb2 (hg g rfl) hg2,z0a hb hb2,hc 0 (by decide),hc 1 (by decide),hc 2 (by decide),hc 3 (by decide)⟩
  have HAM:Hid (∀ k rs W,HV h w s rs W->Below w.heap.size w W->Calls Tryz.prog 64 #[.pointer h.ptr,.string k] W fun e w'=>e= .returned (uV (s.amt k))/\HV h w s rs w'/\Below w.heap.size w w'):=fun k rs W hW hb=>(HV.camt hW hf hm _).mono fun e w' ⟨he,h2⟩=>⟨he,QV.below hW h2,z0a hb h2⟩
  have HK1:Hid (∀ t W,1<=t->t<=255->Calls Tryz.prog 90 #[.int .i64 ((t:Nat):Int),.slice (some ⟨W.heap.size,0,none⟩) 1 1] (W.alloc (.cells #[.int .i64 id] 3)) fun e w'=>e= .returned (.string (keyL t [id]))/\Below W.heap.size W w'):=fun t W h1 h2=>z7x t h1 h2 id hid W
  clear hB hb0 hk hrw h4 he hi hl hq hf;dsimp only[Ex.L]at HK ⊢;go_enter Tryz.func44,Tryz.ntmps44;go_wp2_with fail;refine zm HK.out ?_;rintro e w2 ⟨rfl,hB2,hb2⟩;have HR2:=zh (HRW.out _ _ hB2 hb2);clear hB2 hb2 HK HRW;go_wp2_with fail;refine zm HR2.out ?_;rintro e w3 ⟨g,kc,cur,rfl,hB3,hb3,u0,u1,u2,u3⟩;have hc:∀ j v,cur[j]?=some v->w3.cell? ⟨g,j,none⟩=some v:=fun j v hv=>by rw[cell_of_row _ _ _ _ _ _ (hB3.row (g:=g) (o:=.cells cur 3) (by simp))];exact hv
  have c0:=hc 0 _ u0;have c1:=hc 1 _ u1;have c2:=hc 2 _ u2;have c3:=hc 3 _ u3;clear hc u0 u1 u2 u3 HR2;have hn0:=World.new_ne w3;go_upto_region 4 with fail
  go_region_held3 (fun w'=>w'.cell? ⟨g,0,none⟩=some (.int .i64 a)/\w'.cell? ⟨g,1,none⟩=some (.int .i64 b)/\w'.cell? ⟨g,2,none⟩=some (.int .i64 c)/\w'.cell? ⟨g,3,none⟩=some (.int .i64 d)) (go_keep) (first | fail)
  have hB4:HV h w s ((w3.heap.size,exO ⟨a,b,c,d,(0,0,0,0),(0,0,0,0)⟩) :: [(g,.cells cur 3),(w.heap.size,zc7)]) (w3.alloc (.cells #[.int .i64 a,.int .i64 b,.int .i64 c,.int .i64 d,.int .u64 0,.int .u64 0,.int .u64 0,.int .u64 0,.int .u64 0,.int .u64 0,.int .u64 0,.int .u64 0] 26)).drew:=(hB3.alloc (exO ⟨a,b,c,d,(0,0,0,0),(0,0,0,0)⟩)).drew;have hb4:Below w.heap.size w (w3.alloc (.cells #[.int .i64 a,.int .i64 b,.int .i64 c,.int .i64 d,.int .u64 0,.int .u64 0,.int .u64 0,.int .u64 0,.int .u64 0,.int .u64 0,.int .u64 0,.int .u64 0] 26)).drew:=z0g (z04 hb3 _);have HGE:Hid (w.heap.size<=w3.heap.size):=hb3.size;have HNE:Hid (w.heap.size≠w3.heap.size):=Nat.ne_of_lt (z05 (hB3.row (g:=w.heap.size) (o:=zc7) (by simp)));clear hB3 hb3 hn0 c0 c1 c2 c3;generalize (w3.alloc (.cells #[.int .i64 a,.int .i64 b,.int .i64 c,.int .i64 d,.int .u64 0,.int .u64 0,.int .u64 0,.int .u64 0,.int .u64 0,.int .u64 0,.int .u64 0,.int .u64 0] 26)).drew=w4 at *
  generalize w3.heap.size=g7 at *
  have HK4:=zh (HK1.out 17 w4 (by decide) (by decide));have HB4:=zh (And.intro hB4 hb4);clear hB4 hb4;go_wp2_with fail;refine zm HK4.out ?_;rintro e w5 ⟨rfl,hb5⟩;have HA5:=zh (HAM.out (keyL 17 [id]) _ _ (QV.below HB4.out.1 hb5) (z0a HB4.out.2 hb5));clear hb5 HK4 HB4;go_wp2_with fail;refine zm HA5.out ?_;rintro e w6 ⟨rfl,hB6,hb6⟩;have hx6:=hB6.row (g:=g7) (o:=exO ⟨a,b,c,d,(0,0,0,0),(0,0,0,0)⟩) (by simp);have hf6:=zsk hx6;obtain⟨⟨k0,k1,k2,k3⟩,⟨p0,p1,p2,p3⟩,⟨q0,q1,q2,q3⟩⟩:=rowE hx6;have f4:=hf6 4;have f5:=hf6 5;have f6:=hf6 6;have f7:=hf6 7;generalize hwo:s.amt (keyL 17 [id])=wo at *
  have HWO:=zh hwo;clear hwo;have hB7:=QV.exWo hB6 (g:=g7) (x:=⟨a,b,c,d,(0,0,0,0),(0,0,0,0)⟩) wo (by simp) [(w.heap.size,zc7)] (by simpa using HNE.out);have hb7:=zjc hb6 HGE.out (.int .u64 wo.1) (.int .u64 wo.2.1) (.int .u64 wo.2.2.1) (.int .u64 wo.2.2.2);clear hx6 hf6 hB6 hb6 HA5;go_upto_region 6 with fail;clear k0 k1 k2 k3 p0 p1 p2 p3 q0 q1 q2 q3 f4 f5 f6 f7;generalize ((((w6.setCell ⟨g7,4,none⟩ (.int .u64 wo.1)).setCell ⟨g7,5,none⟩ (.int .u64 wo.2.1)).setCell ⟨g7,6,none⟩ (.int .u64 wo.2.2.1)).setCell ⟨g7,7,none⟩ (.int .u64 wo.2.2.2))=w7 at *
  have HK7:=zh (HK1.out 18 w7 (by decide) (by decide));have HB7:=zh (And.intro hB7 hb7);clear hB7 hb7;go_wp2_with fail;refine zm HK7.out ?_;rintro e w8 ⟨rfl,hb8⟩;have HA8:=zh (HAM.out (keyL 18 [id]) _ _ (QV.below HB7.out.1 hb8) (z0a HB7.out.2 hb8));clear hb8 HK7 HB7;go_wp2_with fail;refine zm HA8.out ?_;rintro e w9 ⟨rfl,hB9,hb9⟩;have hx9:=hB9.row (g:=g7) (o:=exO ⟨a,b,c,d,wo,(0,0,0,0)⟩) (by simp);have hf9:=zsk hx9;obtain⟨⟨k0,k1,k2,k3⟩,⟨p0,p1,p2,p3⟩,⟨q0,q1,q2,q3⟩⟩:=rowE hx9;have f8:=hf9 8;have f9:=hf9 9;have f10:=hf9 10;have f11:=hf9 11;generalize hmx:s.amt (keyL 18 [id])=mx at *
  have HMX:=zh hmx;clear hmx;have hB10:=QV.exMx hB9 (g:=g7) (x:=⟨a,b,c,d,wo,(0,0,0,0)⟩) mx (by simp) [(w.heap.size,zc7)] (by simpa using HNE.out);have hb10:Below w.heap.size w ((((w9.setCell ⟨g7,8,none⟩ (.int .u64 mx.1)).setCell ⟨g7,9,none⟩ (.int .u64 mx.2.1)).setCell ⟨g7,10,none⟩ (.int .u64 mx.2.2.1)).setCell ⟨g7,11,none⟩ (.int .u64 mx.2.2.2)):=(((hb9.setCell (p:=⟨g7,8,none⟩) HGE.out _).setCell (p:=⟨g7,9,none⟩) HGE.out _).setCell (p:=⟨g7,10,none⟩) HGE.out _).setCell (p:=⟨g7,11,none⟩) HGE.out _;clear hx9 hf9 hB9 hb9 HA8;go_upto_region 7 with fail;clear k0 k1 k2 k3 p0 p1 p2 p3 q0 q1 q2 q3 f8 f9 f10 f11;generalize ((((w9.setCell ⟨g7,8,none⟩ (.int .u64 mx.1)).setCell ⟨g7,9,none⟩ (.int .u64 mx.2.1)).setCell ⟨g7,10,none⟩ (.int .u64 mx.2.2.1)).setCell ⟨g7,11,none⟩ (.int .u64 mx.2.2.2))=w10 at *
  obtain⟨⟨k0,k1,k2,k3⟩,⟨p0,p1,p2,p3⟩,⟨q0,q1,q2,q3⟩⟩:=rowE (hB10.row (g:=g7) (o:=exO ⟨a,b,c,d,wo,mx⟩) (by simp));have hz:=hB10.row (g:=w.heap.size) (o:=zc7) (by simp);have hfz:=zsk (x:=z2q) hz;obtain⟨⟨z0,z1,z2,z3⟩,⟨z4,z5,z6,z7⟩,⟨z8,z9,z10,z11⟩⟩:=rowE (x:=z2q) hz;have y0:=hfz 0;have y1:=hfz 1;have y2:=hfz 2;have y3:=hfz 3;have y4:=hfz 4;have y5:=hfz 5;have y6:=hfz 6;have y7:=hfz 7;have y8:=hfz 8;have y9:=hfz 9;have y10:=hfz 10;have y11:=hfz 11;have HZ:=zh (zur (x:=z2q) hz ⟨a,b,c,d,wo,mx⟩);have HBB:=zh (zfi hb10 (Nat.le_refl _) ⟨a,b,c,d,wo,mx⟩);clear hz hfz hB10 hb10;go_wp2_with fail;refine bodyPost_ret (z00 rfl _ _ w.heap.size 26 (Ex.L ⟨a,b,c,d,wo,mx⟩) (0,0) _ rfl HZ.out Tryz.underlying26 rfl (by kernel_rfl)) rfl ?_;exact⟨by rw[<- HWO.out,<- HMX.out];rfl,HBB.out⟩
 ·have he:s.ex id=z2q:=by
   unfold St.ex
   match hx:rowOf (s.val (keyL 15 [id])),h4 with
   | [],_ | [_],_ | [_,_],_ | [_,_,_],_ | _::_::_::_::_::_,_=>rfl
   | [_,_,_,_],h4=>exact absurd rfl h4
  have hi:s.exIs id=false:=by unfold St.exIs;rw[beq_eq_false_iff_ne];exact h4
  rw[he,hi];have HRW:Hid (∀ rs W,HV h w s rs W->Below w.heap.size w W->Calls Tryz.prog 75 #[.pointer h.ptr,.string (keyL 15 [id])] W fun e w'=>∃ a k,e= .returned (.slice a (rowOf (s.val (keyL 15 [id]))).length k)/\HV h w s rs w'/\Below w.heap.size w w'):=fun rs W hW hb=>(hrw rs W hW).mono fun e w' ⟨v,he,ho,hg,hb2⟩=>by
   obtain⟨_,a,k,rfl,_⟩:=ho.src;exact⟨a,k,he,QV.below hW hb2,z0a hb hb2⟩
  have hne:(((rowOf (s.val (keyL 15 [id]))).length:Int) != 4)=true:=by
   rw[bne_iff_ne];omega
  clear hB hb0 hk hrw h4 he hi hq hf;generalize (rowOf (s.val (keyL 15 [id]))).length=n at *
  unfold z2q Ex.L;go_enter Tryz.func44,Tryz.ntmps44;go_wp2_with fail;refine zm HK.out ?_;rintro e w2 ⟨rfl,hB2,hb2⟩;have HR2:=zh (HRW.out _ _ hB2 hb2);clear hB2 hb2 HK HRW;go_wp2_with fail;refine zm HR2.out ?_;rintro e w3 ⟨a3,kc,rfl,hB10,hb10⟩;have hz:=hB10.row (g:=w.heap.size) (o:=zc7) (by simp);have hfz:=zsk (x:=z2q) hz;have y0:=hfz 0;have y1:=hfz 1;have y2:=hfz 2;have y3:=hfz 3;have y4:=hfz 4;have y5:=hfz 5;have y6:=hfz 6;have y7:=hfz 7;have y8:=hfz 8;have y9:=hfz 9;have y10:=hfz 10;have y11:=hfz 11;obtain⟨⟨z0,z1,z2,z3⟩,⟨z4,z5,z6,z7⟩,⟨z8,z9,z10,z11⟩⟩:=rowE (x:=z2q) hz;have HZ:=zh (zur (x:=z2q) hz z2q);have HBB:=zh (zfi hb10 (Nat.le_refl _) z2q);clear hz hfz hB10 hb10 HR2;go_wp2_with fail;refine bodyPost_ret (z00 rfl _ _ w.heap.size 26 (Ex.L z2q) (0,0) _ rfl HZ.out Tryz.underlying26 rfl (by kernel_rfl)) rfl ?_;exact⟨rfl,HBB.out⟩
def rcEq(vs:Nat->Value)(cs:List Value):List Nat->Prop
 | []=>True
 | j::l=>vs j=cs.getD j undef/\rcEq vs cs l
theorem zot{vs:Nat->Value}{cs:List Value}:∀ {l:List Nat},(∀ j∈l,vs j=cs.getD j undef)->rcEq vs cs l
 | [],_=>trivial
 | j::_,h=>⟨h j (by simp),zot fun i hi=>h i (by simp[hi])⟩
def zet(P:Program)(ops:Array Oper)(pr:List (List Nat))(cs:List Value)(so:List Nat)(Ph:Nat->World->Prop)(fr:(Nat->Value)->Act):Nat->List Oper->Prop
 | _,[]=>True
 | k,o::l=>(∀ vs p w,rcEq vs cs (pr.getD k [])->Ph p w->(∀ q,so[q]?=some k->p=q)->rgDo P ops o (fr vs) w fun v w'=>v=cs.getD k undef/\Ph (bif so.contains k then p+1 else p) w')/\zet P ops pr cs so Ph fr (k+1) l
theorem ze6{P:Program}{ops:Array Oper}{pr:List (List Nat)}{cs:List Value}{so:List Nat}{Ph:Nat->World->Prop}{fr:(Nat->Value)->Act}:∀ {l:List Oper} {k:Nat},zet P ops pr cs so Ph fr k l->∀ (i:Nat) (o:Oper),l[i]?=some o ->
  ∀ vs p w,rcEq vs cs (pr.getD (k+i) [])->Ph p w->(∀ q,so[q]?=some (k+i)->p=q)->rgDo P ops o (fr vs) w fun v w'=>v=cs.getD (k+i) undef/\Ph (bif so.contains (k+i)then p+1 else p) w'
 | [],_,_,i,o,h=>by simp at h
 | x::l,k,h,0,o,ho=>by
  simp only[List.getElem?_cons_zero,Option.some.injEq]at ho
  subst ho;exact h.1
 | x::l,k,h,i+1,o,ho=>by
  have:=ze6 h.2 i o (by simpa using ho)
  rwa [show k+1+i=k+(i+1)by omega]at this
def rcB(so:List Nat)(pr:List (List Nat))(n:Nat):Bool:=(List.range so.length).all fun q=>decide (so.getD q 0<n)&&(List.range q).all fun q'=>(pr.getD (so.getD q 0) []).contains (so.getD q' 0)&&(so.getD q' 0 != so.getD q 0)
theorem z8s{so:List Nat}{pr:List (List Nat)}{n:Nat}(h:rcB so pr n=true){q k:Nat}(hq:so[q]?=some k):k<n/\∀ q' k',q'<q->so[q']?=some k'->k'∈pr.getD k []/\k'≠k:=by
 have hl:q<so.length:=(List.getElem?_eq_some_iff.1 hq).1;have h1:=List.all_eq_true.1 h q (List.mem_range.2 hl);rw[Bool.and_eq_true,decide_eq_true_eq]at h1;have e:so.getD q 0=k:=by rw[List.getD_eq_getElem?_getD,hq];rfl
 rw[e]at h1;refine⟨h1.1,fun q' k' hlt hq' => ?_⟩;have h2:=List.all_eq_true.1 h1.2 q' (List.mem_range.2 hlt);have e':so.getD q' 0=k':=by rw[List.getD_eq_getElem?_getD,hq'];rfl
 rw[e',Bool.and_eq_true]at h2;exact⟨by simpa using h2.1,by simpa using h2.2⟩
theorem zcy(l:List Oper):∀ (k:Nat) (vs vs':Nat->Value) (t:Array Value),(∀ j,j<l.length->vs (k+j)=vs' (k+j))->z1i l k vs t=z1i l k vs' t:=by
 induction l with
 | nil=>intro k vs vs' t _;rfl
 | cons o l ih =>
  intro k vs vs' t h;have h0:vs k=vs' k:=h 0 (by simp);simp only[z1i,h0];exact ih (k+1) vs vs' _ fun j hj=>by
   have:=h (j+1) (by simpa using hj)
   rwa [show k+(j+1)=k+1+j by omega]at this
theorem zbq{P:Program}{id:Nat}{Q:Exit->Act->World->Prop}{a:Act}{w:World}{l:List Oper}(pr:List (List Nat))(cs:List Value)(so:List Nat)(Ph:Nat->World->Prop)(fr:(Nat->Value)->Act)
  (hm:P.follows .mixedOrders=true) (hB:rgB l.toArray pr a.tmps.size=true) (hso:rcB so pr l.length=true) (hfr:∀ vs,z14 l a vs=fr vs)
  (h0:Ph 0 w.drew)
  (hs:zet P l.toArray pr cs so Ph fr 0 l)
  (hend:∀ w,Ph so.length w->Q .normal (fr fun j=>cs.getD j undef) w):(Code.region id l.toArray true).wp P Q a w:=by
 refine wp_region_any hm ?_;have hok:=zi3 hB;have hsz:l.toArray.size=l.length:=by simp
 refine z6c hok (fun L vs w=>(∀ j,L j=true->vs j=cs.getD j undef)/\∃ p,Ph p w/\p<=so.length/\∀ q k,so[q]?=some k->(L k=true↔q<p)) ?_ ?_ l.toArray.size (Array.replicate l.toArray.size false) (fun _=>undef) a w.drew ?_ ?_ ?_
 ·intro i o ho L vs w hI hpre hLi hpost;obtain⟨hv,p,hP,hple,hp⟩:=hI;have hil:i<l.length:=by rw[<- hsz];exact(Array.getElem?_eq_some_iff.1 ho).1
  have hi:=ze6 hs i o (by simpa using ho);rw[Nat.zero_add]at hi;have hkey:∀ q,so[q]?=some i->p=q:=fun q hq=>by
   have h1:¬ q<p:=fun h=>by have:=(hp q i hq).2 h;rw[hLi]at this;cases this
   refine Nat.le_antisymm (Nat.le_of_not_lt h1) (Nat.le_of_not_lt fun h2 => ?_);have hql:q<so.length:=(List.getElem?_eq_some_iff.1 hq).1;have hk:so[p]?=some so[p]:=List.getElem?_eq_getElem (by omega);have h3:=((z8s hso hq).2 p _ h2 hk).1;exact Nat.lt_irrefl p ((hp p _ hk).1 (hpre _ h3))
  rw[show z14 l.toArray.toList a vs=z14 l a vs from rfl,hfr vs]
  refine z3t (fun v w' he=>⟨fun j hj => ?_,?_⟩) (hi vs p w (zot fun j hj=>hv j (hpre j hj)) hP hkey)
  ·by_cases hji:j=i
   ·subst hji;rw[<- he.1];simp[z1h]
   ·have:(if j=i then true else L j)=true:=hj;rw[if_neg hji]at this;rw[<- hv j this];simp[z1h,hji]
  ·have hw:=he.2;cases hc:so.contains i with
   | false =>
    rw[hc]at hw;refine⟨p,hw,hple,fun q k hq => ?_⟩;have hki:k≠i:=fun e=>by
     have:so.contains k=true:=by simpa using List.mem_of_getElem? hq
     rw[e,hc]at this;cases this
    show(if k=i then true else L k)=true↔_
    rw[if_neg hki];exact hp q k hq
   | true =>
    rw[hc]at hw;obtain⟨q,hq⟩:=List.mem_iff_getElem?.1 (by simpa using hc:i∈so);have hpq:=hkey q hq;have hql:q<so.length:=(List.getElem?_eq_some_iff.1 hq).1;refine⟨p+1,hw,by omega,fun q' k hq' => ?_⟩;show(if k=i then true else L k)=true↔_
    rcases Nat.lt_trichotomy q' q with h | h | h
    ·have h1:=(z8s hso hq).2 q' k h hq';rw[if_neg h1.2,hp q' k hq'];omega
    ·subst h;rw[hq]at hq';cases hq';rw[if_pos rfl];constructor
     ·intro _;omega
     ·intro _;rfl
    ·have h1:=(z8s hso hq').2 q i h hq;have hkl:=(z8s hso hq').1;have h2:=hpost k _ (by simp[hkl]:l.toArray[k]?=some l[k]) h1.1;rw[if_neg (Ne.symm h1.2),h2];constructor
     ·intro h;cases h
     ·intro h;omega
 ·intro L vs w hI hall;obtain⟨hv,p,hP,hple,hp⟩:=hI;have hpl:p=so.length:=by
   refine Nat.le_antisymm hple (Nat.le_of_not_lt fun h => ?_);have hk:so[p]?=some so[p]:=List.getElem?_eq_getElem h;have:=(hp p _ hk).1 (hall _ (by rw[hsz];exact(z8s hso hk).1));exact Nat.lt_irrefl _ this
  subst hpl;have e:z14 l.toArray.toList a vs=fr fun j=>cs.getD j undef:=by
   rw[<- hfr];show({ a with tmps:=_ }:Act) = { a with tmps:=_ }
   congr 1;exact zcy l 0 _ _ _ fun j hj=>by rw[Nat.zero_add];exact hv j (hall j (by rw[hsz];exact hj))
  rw[e];exact hend w hP
 ·refine⟨rfl,rfl,fun t ht => ?_,by simp,fun j oj _ hl => ?_⟩
  ·refine(z5t _ _ _ _ _ fun j o hj hd => ?_).symm;have:=ht j o (by simpa using hj) hd;rw[getD_replicate_false]at this;cases this
  ·rw[getD_replicate_false]at hl;cases hl
 ·refine Nat.le_trans (List.length_filter_le _ _) (by simp)
 ·refine⟨fun j hj => ?_,0,h0,Nat.zero_le _,fun q k _ => ?_⟩
  ·have:(Array.replicate l.toArray.size false).getD j false=true:=hj;rw[getD_replicate_false]at this;cases this
  ·constructor
   ·intro h;have:(Array.replicate l.toArray.size false).getD k false=true:=h;rw[getD_replicate_false]at this;cases this
   ·intro h;omega
theorem z4w{P:Program}{id:Nat}{Q:Exit->Act->World->Prop}{a:Act}{w:World}{l:List Oper}(pr:List (List Nat))(cs:List Value)(so:List Nat)(Ph:Nat->World->Prop)(fr:(Nat->Value)->Act){frc:Act}
  (hm:P.follows .mixedOrders=true) (hB:rgB l.toArray pr a.tmps.size=true) (hso:rcB so pr l.length=true) (hfr:∀ vs,z14 l a vs=fr vs) (hfc:(fr fun j=>cs.getD j undef)=frc)
  (h0:Ph 0 w.drew)
  (hs:zet P l.toArray pr cs so Ph fr 0 l)
  (hend:∀ w,Ph so.length w->Q .normal frc w):(Code.region id l.toArray true).wp P Q a w:=
 zbq pr cs so Ph fr hm hB hso hfr h0 hs fun w h=>by rw[hfc];exact hend w h
theorem zzj(w:World)(h:Hand)(s:St)(k v:ByteArray)(hon:h.on=true)(hq:QSt w h s)(hk:k≠z0d)(hz:s.size<1000000000000) :
  Calls Tryz.prog 208 #[.pointer h.ptr,.string k,.string v] w fun e w'=>e= .returned (.int .i64 0)/\QOn w h (s.set k v) w':=by
 rcases hq with⟨_,b,hp,hS⟩ | ⟨h0,_⟩
 ·rw[hp];exact(set_any w b s h.L k v hS hk hz).mono fun e w' ⟨he,L',h1,h2⟩=>⟨he,L',.inl ⟨hon,b,hp,h1⟩,h2⟩
 ·rw[hon]at h0;cases h0
theorem zhn(w:World)(h:Hand)(s:St)(k:ByteArray)(n:Int)(hon:h.on=true)(hn:n<9223372036854775808)(hq:QSt w h s)(hz:s.size<1000000000000) :
  Calls Tryz.prog 114 #[.pointer h.ptr,.string k,.int .i64 n] w fun e w'=>e= .returned (.tuple #[])/\QOn w h (s.z0m k n) w':=by
 rcases hq with⟨_,b,hp,hS⟩ | ⟨h0,_⟩
 ·rw[hp];exact(zbu w b s h.L k n hn hS hz).mono fun e w' ⟨he,L',h1,h2⟩=>⟨he,L',.inl ⟨hon,b,hp,h1⟩,h2⟩
 ·rw[hon]at h0;cases h0
def ptB(b:Nat)(a:W4):ByteArray:=numB b++amtB a
theorem zzl{ops:Array Oper}{o:Oper}{a:Act}{w:World}{K:Value->World->Prop}{x:Operand}{g:Nat}(hg:Region.wanted o (yielded ops a.tmps)=true)(ho:o.op= .fieldAddr 233 x 0)(hx:a.eval x= .pointer (some ⟨g,0,none⟩))(hk:K (.pointer (some ⟨g,0,none⟩)) w):rgDo Tryz.prog ops o a w K:=by
 refine z0j hg ?_ hk;unfold execOp;simp only[ho,hx]
 go_simp
theorem zyj{ops:Array Oper}{o:Oper}{a:Act}{w:World}{K:Value->World->Prop}{x:Operand}{g:Nat}(hg:Region.wanted o (yielded ops a.tmps)=true)(ho:o.op= .fieldAddr 233 x 1)(hx:a.eval x= .pointer (some ⟨g,0,none⟩))(hk:K (.pointer (some ⟨g,1,none⟩)) w):rgDo Tryz.prog ops o a w K:=by
 refine z0j hg ?_ hk;unfold execOp;simp only[ho,hx]
 go_simp
theorem z19{ops:Array Oper}{o:Oper}{a:Act}{w:World}{K:Value->World->Prop}{x:Operand}{g k:Nat}{n:Int}(hg:Region.wanted o (yielded ops a.tmps)=true)(ho:o.op= .load 3 x)(hx:a.eval x= .pointer (some ⟨g,k,none⟩))(hc:w.cell? ⟨g,k,none⟩=some (.int .i64 n))(hk:K (.int .i64 n) w):rgDo Tryz.prog ops o a w K:=by
 refine z0j hg ?_ hk;unfold execOp;simp only[ho,hx]
 go_simp
theorem zv0{ops:Array Oper}{o:Oper}{a:Act}{w:World}{K:Value->World->Prop}{x y:Operand}{u v:ByteArray}(hg:Region.wanted o (yielded ops a.tmps)=true)(ho:o.op= .binOp .add 9 x y 9)(hx:a.eval x= .string u)(hy:a.eval y= .string v)(hu:u.size=8)(hs:v.size=32)(hk:K (.string (u++v)) w):rgDo Tryz.prog ops o a w K:=by
 refine z0j hg ?_ hk;unfold execOp;simp only[ho,hx,hy]
 go_simp
def HwPh(h:Hand)(w:World)(s s2:St)(rs:List (Nat × Obj)):Nat->World->Prop
 | 0,W=>HV h w s rs W/\Below w.heap.size w W
 | 1,W=>HV h w s rs W/\Below w.heap.size w W
 | 2,W=>HV h w s rs W/\Below w.heap.size w W
 | 3,W=>HV h w s rs W/\Below w.heap.size w W
 | _+4,W=>HV h w s2 rs W
theorem HwPh.row{h:Hand}{w W:World}{s s2:St}{rs:List (Nat × Obj)}{p:Nat}(hP:HwPh h w s s2 rs p W){g:Nat}{o:Obj}(hm:(g,o)∈rs):W.heap[g]?=some o:=by
 match p,hP with
 | 0,hP | 1,hP | 2,hP | 3,hP=>exact QV.row hP.1 hm
 | _+4,hP=>exact QV.row hP hm
theorem zq7(w:World)(h:Hand)(s:St)(t:Nat)(ht1:1<=t)(ht2:t<=255)(y:Value)(l:List Int)(n:Int)(b:Nat)(a:W4)(hon:h.on=true)(hi:z0w w y l)(hl:IdOk l)(hn:I63 n)(hb63:b<9223372036854775808)(hq:QSt w h s)(hz:s.size<1000000000000)(hk:keyL t (l ++ [n])≠z0d) :
  Calls Tryz.prog 219 #[.pointer h.ptr,.int .i64 t,y,.int .i64 n,.agg (pL b a)] w fun e w'=>e= .returned (.tuple #[])/\QOn w h (s.set (keyL t (l ++ [n])) (ptB b a)) w':=by
 have hB:=(HV.start hq).alloc (pO b a);have hb0:=z04 (Below.refl _ w) (pO b a);have HAT:Hid (∀ rs W,HV h w s rs W/\Below w.heap.size w W->Calls Tryz.prog 228 #[.int .i64 t,y,.int .i64 n] W fun e w'=>e= .returned (.string (keyL t (l ++ [n])))/\HV h w s rs w'/\Below w.heap.size w w'):=fun rs W hW=>(zdy t ht1 ht2 W y l n (hi.below hW.2) hl hn).mono fun e w' ⟨he,h2⟩=>⟨he,QV.below hW.1 h2,z0a hW.2 h2⟩
 have HNU:Hid (∀ rs W,HV h w s rs W/\Below w.heap.size w W->Calls Tryz.prog 162 #[.int .i64 b] W fun e w'=>e= .returned (.string (numB b))/\HV h w s rs w'/\Below w.heap.size w w'):=fun rs W hW=>(zfj b W hb63).mono fun e w' ⟨he,h2⟩=>⟨he,QV.below hW.1 h2,z0a hW.2 h2⟩
 have HAM:Hid (∀ rs W,HV h w s rs W/\Below w.heap.size w W->Calls Tryz.prog 150 #[uV a] W fun e w'=>e= .returned (.string (amtB a))/\HV h w s rs w'/\Below w.heap.size w w'):=fun rs W hW=>(z92 a W).mono fun e w' ⟨he,h2⟩=>⟨he,QV.below hW.1 h2,z0a hW.2 h2⟩
 have HST:Hid (∀ rs W,HV h w s rs W/\Below w.heap.size w W->Calls Tryz.prog 208 #[.pointer h.ptr,.string (keyL t (l ++ [n])),.string (numB b++amtB a)] W fun e w'=>e= .returned (.int .i64 0)/\HV h w (s.set (keyL t (l ++ [n])) (ptB b a)) rs w'):=fun rs W hW=>QV.call hW.1 fun L' h1=>zzj W ⟨h.ptr,h.on,L'⟩ s _ _ hon h1 hk hz
 have h32:(amtB a).size=32:=by show(amtL a).toArray.size=32;simp[amtL]
 have h8:(numB b).size=8:=rfl;generalize s.set (keyL t (l ++ [n])) (ptB b a)=s2 at *
 generalize keyL t (l ++ [n])=kk at *
 generalize amtB a=am at *
 generalize numB b=nb at *
 have HB0:Hid (HwPh h w s s2 [(w.heap.size,pO b a)] 0 (w.alloc (pO b a)).drew):=⟨hB.drew,z0g hb0⟩;have HS32:=zh h32;have HS8:=zh h8;clear hB hb0 hi hl hn hq hz hk h32 h8;go_enter Tryz.func219,Tryz.ntmps219;go_upto_region 1 with fail;refine z4w [[],[],[],[],[1,2,3],[],[5],[1,2,3,4,5,6],[],[8],[1,2,3,4,5,6,7,8,9],[1,2,3,4,5,6,7,8,9,10],[0,1,2,3,4,5,6,7,8,9,10,11]]
  [.pointer h.ptr,.int .i64 t,y,.int .i64 n,.string kk,.pointer (some ⟨w.heap.size,0,none⟩),.int .i64 b,.string nb,.pointer (some ⟨w.heap.size,1,none⟩),uV a,.string am,.string (nb++am),.int .i64 0]
  [4,7,10,12] (HwPh h w s s2 [(w.heap.size,pO b a)]) _ (by kernel_rfl) (by kernel_rfl) (by kernel_rfl)
  (fun vs=>by simp only[z14,z1i,List.setIfInBounds_toArray,List.set_cons_zero,List.set_cons_succ];exact rfl)
  (by simp only[List.getD_cons_zero,List.getD_cons_succ];exact rfl) HB0.out ?_ ?_
 ·refine⟨?_,?_,?_,?_,?_,?_,?_,?_,?_,?_,?_,?_,?_,trivial⟩
  ·intro vs p w1 hA hP hq;exact z08 rfl (.inl rfl) rfl ⟨rfl,hP⟩
  ·intro vs p w1 hA hP hq;exact z08 rfl (.inl rfl) rfl ⟨rfl,hP⟩
  ·intro vs p w1 hA hP hq;exact z08 rfl (.inl rfl) rfl ⟨rfl,hP⟩
  ·intro vs p w1 hA hP hq;exact z08 rfl (.inl rfl) rfl ⟨rfl,hP⟩
  ·intro vs p w1 hA hP hq;obtain⟨e1,e2,e3,_⟩:=hA;have e1:vs 1= .int .i64 t:=e1;have e2:vs 2=y:=e2;have e3:vs 3= .int .i64 n:=e3;have hp:=hq 0 rfl;subst hp;refine z0v rfl rfl rfl (by kernel_rfl) (show [vs 1,vs 2,vs 3]=_ from by rw[e1,e2,e3]) (zm (HAT.out _ _ hP) ?_);rintro e w2 ⟨rfl,hP2⟩;exact⟨_,rfl,rfl,hP2⟩
  ·intro vs p w1 hA hP hq;exact zzl rfl rfl rfl ⟨rfl,hP⟩
  ·intro vs p w1 hA hP hq;obtain⟨e5,_⟩:=hA;have e5:vs 5= .pointer (some ⟨w.heap.size,0,none⟩):=e5;exact z19 rfl rfl e5 (row5 (n:=(b:Int)) (a:=a) (HwPh.row hP (by simp))).1.1 ⟨rfl,hP⟩
  ·intro vs p w1 hA hP hq;obtain⟨_,_,_,_,_,e6,_⟩:=hA;have e6:vs 6= .int .i64 b:=e6;have hp:=hq 1 rfl;subst hp;refine z0v rfl rfl rfl (by kernel_rfl) (show [vs 6]=_ from by rw[e6]) (zm (HNU.out _ _ hP) ?_);rintro e w2 ⟨rfl,hP2⟩;exact⟨_,rfl,rfl,hP2⟩
  ·intro vs p w1 hA hP hq;exact zyj rfl rfl rfl ⟨rfl,hP⟩
  ·intro vs p w1 hA hP hq;obtain⟨e8,_⟩:=hA;have e8:vs 8= .pointer (some ⟨w.heap.size,1,none⟩):=e8;exact z4d rfl rfl e8 ⟨(row5 (n:=(b:Int)) (a:=a) (HwPh.row hP (by simp))).1.2.1,(row5 (n:=(b:Int)) (a:=a) (HwPh.row hP (by simp))).1.2.2.1,(row5 (n:=(b:Int)) (a:=a) (HwPh.row hP (by simp))).1.2.2.2.1,(row5 (n:=(b:Int)) (a:=a) (HwPh.row hP (by simp))).1.2.2.2.2⟩ ⟨rfl,hP⟩
  ·intro vs p w1 hA hP hq;obtain⟨_,_,_,_,_,_,_,_,e9,_⟩:=hA;have e9:vs 9=uV a:=e9;have hp:=hq 2 rfl;subst hp;refine z0v rfl rfl rfl (by kernel_rfl) (show [vs 9]=_ from by rw[e9]) (zm (HAM.out _ _ hP) ?_);rintro e w2 ⟨rfl,hP2⟩;exact⟨_,rfl,rfl,hP2⟩
  ·intro vs p w1 hA hP hq;obtain⟨_,_,_,_,_,_,e7,_,_,e10,_⟩:=hA;have e7:vs 7= .string nb:=e7;have e10:vs 10= .string am:=e10;exact zv0 rfl rfl e7 e10 HS8.out HS32.out ⟨rfl,hP⟩
  ·intro vs p w1 hA hP hq;obtain⟨e0,_,_,_,e4,_,_,_,_,_,_,e11,_⟩:=hA;have e0:vs 0= .pointer h.ptr:=e0;have e4:vs 4= .string kk:=e4;have e11:vs 11= .string (nb++am):=e11;have hp:=hq 3 rfl;subst hp;refine z0v rfl rfl rfl (by kernel_rfl) (show [vs 0,vs 4,vs 11]=_ from by rw[e0,e4,e11]) (zm (HST.out _ _ hP) ?_);rintro e w2 ⟨rfl,hP2⟩;exact⟨_,rfl,rfl,hP2⟩
 ·intro W hW;have HW:Hid (HV h w s2 [(w.heap.size,pO b a)] W):=hW;clear hW;go_wp2_with fail
  go_end0
  exact⟨rfl,HV.done HW.out⟩
end Go.Proofs.YtnkilceibkkjlaaGreat
