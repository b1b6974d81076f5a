/- What is proved here: u256.used, and the product of two ha -/
import Derived.Test.YtnkilceibkkjlaaGreatKDigG
set_option maxRecDepth 100000
set_option maxHeartbeats 16000000
namespace Go.Proofs.YtnkilceibkkjlaaGreat
open Go.RowKit
def z8l(x:W4):Nat:=if x.2.2.2≠0 then 4 else if x.2.2.1≠0 then 3 else if x.2.1≠0 then 2 else if x.1≠0 then 1 else 0
theorem ztv(x:W4)(k:Nat)(hk:k<4)(h:∀ j,k<j->j<4->x.at j=0)(h0:x.at k≠0):z8l x=k+1:=by
 obtain⟨x0,x1,x2,x3⟩:=x;have h1:=h 1;have h2:=h 2;have h3:=h 3;simp only[W4.at]at *
 unfold z8l
 match k,hk with
 | 0,_=>simp only at h0;have e1:=h1 (by omega) (by omega);have e2:=h2 (by omega) (by omega);have e3:=h3 (by omega) (by omega);simp[h0,e1,e2,e3]
 | 1,_=>simp only at h0;have e2:=h2 (by omega) (by omega);have e3:=h3 (by omega) (by omega);simp[h0,e2,e3]
 | 2,_=>simp only at h0;have e3:=h3 (by omega) (by omega);simp[h0,e3]
 | 3,_=>simp only at h0;simp[h0]
theorem zwg(x:W4)(h:∀ j,j<4->x.at j=0):z8l x=0:=by
 obtain⟨x0,x1,x2,x3⟩:=x;have h0:=h 0 (by decide);have h1:=h 1 (by decide);have h2:=h 2 (by decide);have h3:=h 3 (by decide);simp only[W4.at]at *
 simp[z8l,h0,h1,h2,h3]
theorem zsp(x:W4):z8l x<=4:=by
 unfold z8l;split<;>(try split)<;>(try split)<;>(try split)<;>omega
theorem zh9(x:W4):dLow 18446744073709551616 x.at (z8l x)=uN x:=by
 obtain⟨x0,x1,x2,x3⟩:=x;unfold z8l;simp only;split
 ·exact zol _
 ·rename_i h3;split
  ·simp only[dLow,uN,W4.at];omega
  ·rename_i h2;split
   ·simp only[dLow,uN,W4.at];omega
   ·rename_i h1;split
    ·simp only[dLow,uN,W4.at];omega
    ·simp only[dLow,uN];omega
theorem ztq(x:W4)(w:World):Calls Tryz.prog 264 #[uV x] w fun e w'=>e= .returned (.int .i64 (z8l x))/\Below w.heap.size w w':=by
 have H0:Hid (Below w.heap.size w (w.alloc (.cells (uL x) 24))/\(w.alloc (.cells (uL x) 24)).heap[w.heap.size]?=some (.cells (uL x) 24 (0,0))):=⟨z00 zb _,heap_alloc_new w _⟩;have HL:Hid (∀ k,k<4->(∀ j,k<j->j<4->x.at j=0)->x.at k≠0->z8l x=k+1):=fun k hk h h0=>ztv x k hk h h0
 have HE:Hid ((∀ j,j<4->x.at j=0)->z8l x=0):=zwg x;generalize z8l x=r at *
 go_enter Tryz.func264,Tryz.ntmps264;go_wp2_with fail
 go_loopw [3] (fun iv wr=>∃ k:Nat,iv= .int .i64 k/\k<=4/\(∀ j,k<=j->j<4->x.at j=0)/\Below w.heap.size w wr/\wr.heap[w.heap.size]?=some (.cells (uL x) 24 (0,0))) (fun iv _=>(intOf iv).toNat)
 case atStart=>exact⟨4,rfl,by omega,fun j h1 h2=>by omega,H0.out⟩
 case round =>
  obtain⟨k,rfl,hk,hj,hb,hX⟩:=hrel;have HJ:=zh hj;have HB:=zh hb;have HX:=zh hX;clear hj hb hX H0;cases k with
  | zero =>
   go_wp2_with fail;go_ret;exact⟨by rw[HE.out fun j h=>HJ.out j (by omega) h];rfl,HB.out⟩
  | succ k =>
   have hlt:k<4:=by omega
   have hz:IntKind.i64.wrap (((k+1:Nat):Int)-1)=(k:Int):=by rw[IntKind.wrap_i64];omega
   have cA:wr.cell? ⟨w.heap.size,k,none⟩=some (.int .u64 (x.at k)):=by rw[cell_of_row _ _ _ _ _ _ HX.out];exact z4v x k hlt
   by_cases h1:x.at k=0
   ·have hd:(((x.at k:Nat):Int)==0)=true:=beq_iff_eq.2 (by omega);have hd2:(((x.at k:Nat):Int) != 0)=false:=by rw[bne,hd];rfl
    go_wp2_with fail;go_roundw
    case rel=>exact⟨k,by go_num,by omega,fun j h3 h4=>(by
     by_cases e:j=k
     ·subst e;exact h1
     ·exact HJ.out j (by omega) h4),HB.out,HX.out⟩
    case measure=>first | (simp[intOf];done)|(simp[intOf];omega)
   ·have hd:(((x.at k:Nat):Int)==0)=false:=beq_eq_false_iff_ne.2 (by omega);have hd2:(((x.at k:Nat):Int) != 0)=true:=by rw[bne,hd];rfl
    go_wp2_with fail;go_ret;exact⟨by rw[HL.out k hlt (fun j h2 h3=>HJ.out j (by omega) h3) h1];rfl,HB.out⟩
abbrev aV(l:List Nat):Array Value:=(l.map fun (n:Nat)=>Value.int .u64 (n:Int)).toArray
theorem zy2{l:List Nat}{k:Nat}(h:k<l.length):(aV l)[k]?=some (.int .u64 ((l.getD k 0:Nat):Int)):=by
 rw[List.getElem?_toArray,List.getElem?_map,getD_at h];rfl
theorem zyy(l:List Nat)(k v:Nat):(aV l).setIfInBounds k (.int .u64 v)=aV (l.set k v):=by
 simp[aV,List.map_set]
theorem zu4(x:W4)(w:World)(j:Nat)(hj:j<4):(Instr.index 24 (.agg #[.int .u64 x.1,.int .u64 x.2.1,.int .u64 x.2.2.1,.int .u64 x.2.2.2]) (.int .i64 j)).run Tryz.prog w= .ok (.int .u64 (x.at j)) w:=by
 rcases(by omega:j=0\/j=1\/j=2\/j=3)with rfl | rfl | rfl | rfl
 ·kernel_rfl
 ·kernel_rfl
 ·kernel_rfl
 ·kernel_rfl
structure PAt (T R:TypeId) (rs:Array Value) (g:Nat) (w:World) (x y:W4) (l:List Nat) (wr:World):Prop where
 b:Below w.heap.size w wr
 x:wr.heap[w.heap.size]?=some (.cells (uL x) 24 (0,0))
 y:wr.heap[w.heap.size+1]?=some (.cells (uL y) 24 (0,0))
 r:wr.heap[w.heap.size+2]?=some (.cells rs R (0,0))
 o:wr.heap[g]?=some (.cells (aV l) T (0,0))
 g:w.heap.size+2<g
theorem PAt.start(T R:TypeId)(rs:Array Value)(w:World)(x y:W4):PAt T R rs (w.heap.size+3) w x y (List.replicate 8 0) ((((w.alloc (.cells (uL x) 24)).alloc (.cells (uL y) 24)).alloc (.cells rs R)).alloc (.cells (aV (List.replicate 8 0)) T)):=by
 refine⟨z00 (z00 (z00 (z00 zb _) _) _) _,?_,?_,?_,?_,by omega⟩
 ·rw[heap_alloc_old _ _ (by first | (simp;done)|(simp;omega)),heap_alloc_old _ _ (by first | (simp;done)|(simp;omega)),heap_alloc_old _ _ (by simp)];exact heap_alloc_new w _
 ·rw[heap_alloc_old _ _ (by first | (simp;done)|(simp;omega)),heap_alloc_old _ _ (by simp)];have:=heap_alloc_new (w.alloc (.cells (uL x) 24)) (.cells (uL y) 24)
  rwa [World.size_alloc]at this
 ·rw[heap_alloc_old _ _ (by simp)];have:=heap_alloc_new ((w.alloc (.cells (uL x) 24)).alloc (.cells (uL y) 24)) (.cells rs R)
  rwa [World.size_alloc,World.size_alloc]at this
 ·have:=heap_alloc_new (((w.alloc (.cells (uL x) 24)).alloc (.cells (uL y) 24)).alloc (.cells rs R)) (.cells (aV (List.replicate 8 0)) T)
  rwa [World.size_alloc,World.size_alloc,World.size_alloc]at this
theorem PAt.put{T R:TypeId}{rs:Array Value}{g:Nat}{w wr:World}{x y:W4}{l:List Nat}(h:PAt T R rs g w x y l wr)(k v:Nat):PAt T R rs g w x y (l.set k v) (wr.setCell ⟨g,k,none⟩ (.int .u64 v)):=by
 have hg:=h.g;have hoth:∀ j,j≠g->(wr.setCell ⟨g,k,none⟩ (.int .u64 v)).heap[j]?=wr.heap[j]?:=fun j hj=>Below.heap_setCell _ _ _ _ hj
 refine⟨?_,by rw[hoth _ (by omega)];exact h.x,by rw[hoth _ (by omega)];exact h.y,by rw[hoth _ (by omega)];exact h.r,?_,h.g⟩
 ·exact h.b.setCell (p:=⟨g,k,none⟩) (by simp;omega) _
 ·rw[<- zyy l k v];exact heap_setCell_same _ _ _ _ _ _ h.o
theorem zzp{x y o c:Nat}(hx:x<18446744073709551616)(hy:y<18446744073709551616)(ho:o<18446744073709551616)(hc:c<18446744073709551616) :
  addS (addS (x*y%18446744073709551616) o 0) c 0=(x*y+o+c)%18446744073709551616 /\
  IntKind.u64.wrap (IntKind.u64.wrap ((x:Int)*(y:Int)/18446744073709551616+((addC (x*y%18446744073709551616) o 0:Nat):Int))+((addC (addS (x*y%18446744073709551616) o 0) c 0:Nat):Int))=(((x*y+o+c)/18446744073709551616:Nat):Int):=by
 have h:=zkg hx hy ho hc;rw[show(x:Int)*(y:Int)/18446744073709551616=((x*y/18446744073709551616:Nat):Int)by simp]
 generalize x*y=p at *
 unfold addS addC;refine⟨by omega,?_⟩;rw[wrap_add (by omega),wrap_add (by omega)];congr 1;omega
abbrev Bq:Nat:=18446744073709551616
abbrev wL(hi lo:W4):Array Value:=#[.int .u64 hi.1,.int .u64 hi.2.1,.int .u64 hi.2.2.1,.int .u64 hi.2.2.2,.int .u64 lo.1,.int .u64 lo.2.1,.int .u64 lo.2.2.1,.int .u64 lo.2.2.2]
abbrev wV(hi lo:W4):Value:=.agg (wL hi lo)
def hiOf(n:Nat):W4:=uOf (n/115792089237316195423570985008687907853269984665640564039457584007913129639936)
theorem zsv(g:Nat)(w:World):(Instr.sliceAt 266 (.pointer (some ⟨g,0,none⟩)) (some (.int .i64 4)) none none).run Tryz.prog w= .ok (.slice (some ⟨g,4,none⟩) 4 4) w:=by kernel_rfl
theorem zrh(g:Nat)(w:World):(Instr.sliceAt 266 (.pointer (some ⟨g,0,none⟩)) none (some (.int .i64 4)) none).run Tryz.prog w= .ok (.slice (some ⟨g,0,none⟩) 4 8) w:=by kernel_rfl
theorem zun(g o c:Nat)(w:World):(Instr.arrayAt 24 (.slice (some ⟨g,o,none⟩) 4 c)).run Tryz.prog w= .ok (.pointer (some ⟨g,o,none⟩)) w:=by kernel_rfl
theorem put8{w:World}{g:Nat}{a b:W4}{T:TypeId}(h:w.heap[g]?=some (.cells (wL a b) T (0,0)))(hi lo:W4):(((((((((w.setCell ⟨g,0,none⟩ (.int .u64 hi.1)).setCell ⟨g,1,none⟩ (.int .u64 hi.2.1)).setCell ⟨g,2,none⟩ (.int .u64 hi.2.2.1)).setCell ⟨g,3,none⟩ (.int .u64 hi.2.2.2)).setCell ⟨g,4,none⟩ (.int .u64 lo.1)).setCell ⟨g,5,none⟩ (.int .u64 lo.2.1)).setCell ⟨g,6,none⟩ (.int .u64 lo.2.2.1)).setCell ⟨g,7,none⟩ (.int .u64 lo.2.2.2))).heap[g]?=some (.cells (wL hi lo) T (0,0)):=by
 have h0:=z0d (off:=0) (.int .u64 hi.1) h;have h1:=z0d (off:=1) (.int .u64 hi.2.1) h0;have h2:=z0d (off:=2) (.int .u64 hi.2.2.1) h1;have h3:=z0d (off:=3) (.int .u64 hi.2.2.2) h2;have h4:=z0d (off:=4) (.int .u64 lo.1) h3;have h5:=z0d (off:=5) (.int .u64 lo.2.1) h4;have h6:=z0d (off:=6) (.int .u64 lo.2.2.1) h5;have h7:=z0d (off:=7) (.int .u64 lo.2.2.2) h6;rw[h7];simp
theorem z6n{w:World}{k:Nat}{o:Option Obj}(h:w.heap[k]?=o):w.drew.heap[k]?=o:=h
theorem zmu{n g:Nat}{w0 w:World}(h:Below n w0 w)(hg:n<=g)(hi lo:W4):Below n w0 (((((((((w.setCell ⟨g,0,none⟩ (.int .u64 hi.1)).setCell ⟨g,1,none⟩ (.int .u64 hi.2.1)).setCell ⟨g,2,none⟩ (.int .u64 hi.2.2.1)).setCell ⟨g,3,none⟩ (.int .u64 hi.2.2.2)).setCell ⟨g,4,none⟩ (.int .u64 lo.1)).setCell ⟨g,5,none⟩ (.int .u64 lo.2.1)).setCell ⟨g,6,none⟩ (.int .u64 lo.2.2.1)).setCell ⟨g,7,none⟩ (.int .u64 lo.2.2.2))):=
 (((((((h.setCell (p:=⟨g,0,none⟩) hg _).setCell (p:=⟨g,1,none⟩) hg _).setCell (p:=⟨g,2,none⟩) hg _).setCell (p:=⟨g,3,none⟩) hg _).setCell (p:=⟨g,4,none⟩) hg _).setCell (p:=⟨g,5,none⟩) hg _).setCell (p:=⟨g,6,none⟩) hg _).setCell (p:=⟨g,7,none⟩) hg _
theorem ztd(x y:W4)(hx:x.Ok)(hy:y.Ok)(w:World):Calls Tryz.prog 176 #[uV x,uV y] w fun e w'=>e= .returned (wV (hiOf (uN x*uN y)) (uOf (uN x*uN y)))/\Below w.heap.size w w':=by
 have H0:=zh (PAt.start 266 225 (wL (0,0,0,0) (0,0,0,0)) w x y);go_enter Tryz.func176,Tryz.ntmps176;go_wp2_with fail
 go_loopw [15] (fun iv wr=>∃ i:Nat,iv= .int .i64 i/\i<=4/\PAt 266 225 (wL (0,0,0,0) (0,0,0,0)) (w.heap.size+3) w x y (mOut Bq 8 x.at y.at 4 i) wr) (fun iv _=>4-(intOf iv).toNat)
 case atStart=>exact⟨0,rfl,by omega,H0.out⟩
 case round =>
  obtain⟨i,rfl,hi,hA⟩:=hrel;obtain⟨wo,rfl⟩:∃ wo:World,wo=wr:=⟨_,rfl⟩;have HA:=zh hA;clear hA H0
  by_cases hlt:i<4
  ·obtain⟨y0,y1,y2,y3,_⟩:=row4 HA.out.y;have hix:=zu4 x wo i hlt;have hdi:decide ((i:Int)<4)=true:=decide_eq_true (by omega);go_wp2_with fail;have HX1:=hx.at i;have HI:=zh (fun j (hj:j<=4)=>zfz Bq (x.at i) y.at i 4 (mOut Bq 8 x.at y.at 4 i) HX1 (fun k=>hy.at k) (z5b Bq 8 x.at y.at 4 (by decide) (fun k=>hx.at k) (fun k=>hy.at k) i (by omega)).2.1 (by rw[(z5b Bq 8 x.at y.at 4 (by decide) (fun k=>hx.at k) (fun k=>hy.at k) i (by omega)).1];omega) j hj);have HLn:=zh (z5b Bq 8 x.at y.at 4 (by decide) (fun k=>hx.at k) (fun k=>hy.at k) i (by omega)).1;have HM:Hid (mOut Bq 8 x.at y.at 4 (i+1)=(mIn Bq (x.at i) y.at i (mOut Bq 8 x.at y.at 4 i) 4).1.set (i+4) (mIn Bq (x.at i) y.at i (mOut Bq 8 x.at y.at 4 i) 4).2):=rfl;clear hix y0 y1 y2 y3;generalize hl0:mOut Bq 8 x.at y.at 4 i=l0 at *
   clear hl0
   go_loopw [20,8] (fun jv cv wr=>∃ j:Nat,jv= .int .i64 j/\j<=4/\cv= .int .u64 (mIn Bq (x.at i) y.at i l0 j).2/\PAt 266 225 (wL (0,0,0,0) (0,0,0,0)) (w.heap.size+3) w x y (mIn Bq (x.at i) y.at i l0 j).1 wr) (fun jv _ _=>4-(intOf jv).toNat)
   case atStart=>exact⟨0,rfl,by omega,rfl,HA.out⟩
   case round =>
    obtain⟨j,rfl,hj,rfl,hA⟩:=hrel;have HA2:=zh hA;clear hA HA
    by_cases hjl:j<4
    ·obtain⟨z1,z2,z3,z4,z5⟩:=HI.out j hj;have hlen:i+j<(mIn Bq (x.at i) y.at i l0 j).1.length:=by rw[z1,HLn.out];omega
     have cO:wr.cell? ⟨w.heap.size+3,i+j,none⟩=some (.int .u64 (((mIn Bq (x.at i) y.at i l0 j).1.getD (i+j) 0:Nat):Int)):=by rw[cell_of_row _ _ _ _ _ _ HA2.out.o];exact zy2 hlen
     have fO:wr.frozen? ⟨w.heap.size+3,i+j,none⟩=false:=frozen_of_row _ _ _ _ _ HA2.out.o;have hix:=zu4 y wr j hjl;have HO:=Words.getD (by decide) z2 (i+j);have HY1:=hy.at j;have HS:=zh (zzp HX1 HY1 HO z3);have HN:Hid (PAt 266 225 (wL (0,0,0,0) (0,0,0,0)) (w.heap.size+3) w x y (mIn Bq (x.at i) y.at i l0 (j+1)).1 (wr.setCell ⟨w.heap.size+3,i+j,none⟩ (.int .u64 (((x.at i*y.at j+(mIn Bq (x.at i) y.at i l0 j).1.getD (i+j) 0+(mIn Bq (x.at i) y.at i l0 j).2)%Bq:Nat):Int)))):=HA2.out.put _ _;have HC:Hid ((mIn Bq (x.at i) y.at i l0 (j+1)).2=(x.at i*y.at j+(mIn Bq (x.at i) y.at i l0 j).1.getD (i+j) 0+(mIn Bq (x.at i) y.at i l0 j).2)/Bq):=rfl;have HPr:=zh (zjv (x.at i) (y.at j) HX1 HY1 wr);have HC1:=zh (zck (x.at i*y.at j%18446744073709551616) ((mIn Bq (x.at i) y.at i l0 j).1.getD (i+j) 0) 0 (Nat.mod_lt _ (by decide)) HO (by decide) wr);have HC2:=zh (zck (addS (x.at i*y.at j%18446744073709551616) ((mIn Bq (x.at i) y.at i l0 j).1.getD (i+j) 0) 0) ((mIn Bq (x.at i) y.at i l0 j).2) 0 (Nat.mod_lt _ (by decide)) z3 (by decide) wr);have hwr:IntKind.i64.wrap ((i:Int)+(j:Int))=((i+j:Nat):Int):=by rw[IntKind.wrap_i64];omega
     clear z1 z2 z3 z4 z5 hlen HO HY1 HX1 HI;generalize (mIn Bq (x.at i) y.at i l0 j).2=c0 at *
     generalize (mIn Bq (x.at i) y.at i l0 j).1.getD (i+j) 0=o0 at *
     go_wp2_with fail;refine zm HPr.out ?_;rintro e w' ⟨rfl,rfl⟩;go_wp2_with fail;refine zm HC1.out ?_;rintro e w' ⟨rfl,rfl⟩;go_wp2_with fail;refine zm HC2.out ?_;rintro e w' ⟨rfl,rfl⟩;go_wp2_with fail;rw[HS.out.1];go_roundw
     case rel=>exact⟨j+1,by go_num,by omega,by rw[HC.out,<- HS.out.2],HN.out⟩
     case measure=>simp[intOf];omega
    ·obtain rfl:j=4:=by omega
     have fO:wr.frozen? ⟨w.heap.size+3,i+4,none⟩=false:=frozen_of_row _ _ _ _ _ HA2.out.o;have hlen:i+4<(mIn Bq (x.at i) y.at i l0 4).1.length:=by rw[(HI.out 4 (by omega)).1,HLn.out];omega
     have cO:wr.cell? ⟨w.heap.size+3,i+4,none⟩=some (.int .u64 (((mIn Bq (x.at i) y.at i l0 4).1.getD (i+4) 0:Nat):Int)):=by rw[cell_of_row _ _ _ _ _ _ HA2.out.o];exact zy2 hlen
     have HN:Hid (PAt 266 225 (wL (0,0,0,0) (0,0,0,0)) (w.heap.size+3) w x y (mOut Bq 8 x.at y.at 4 (i+1)) (wr.setCell ⟨w.heap.size+3,i+4,none⟩ (.int .u64 ((mIn Bq (x.at i) y.at i l0 4).2:Nat)))):=by rw[HM.out];exact HA2.out.put _ _
     clear hlen HI HM;generalize (mIn Bq (x.at i) y.at i l0 4).2=c0 at *
     generalize (mIn Bq (x.at i) y.at i l0 4).1.getD (i+4) 0=o0 at *
     go_wp2_with fail;go_roundw
     case rel=>exact⟨i+1,by go_num,by omega,HN.out⟩
     case measure=>simp[intOf];omega
  ·obtain rfl:i=4:=by omega
   have hinv:=z5b Bq 8 x.at y.at 4 (by decide) (fun k=>hx.at k) (fun k=>hy.at k) 4 (by omega);have hw8:=zxu hinv.1 hinv.2.1;rw[hinv.2.2.1,zol,zol]at hw8;have hrow:wo.heap[w.heap.size+3]?=some (.cells (wL (uOf (uN x*uN y)) (hiOf (uN x*uN y))) 266 (0,0)):=by
    have h1:=HA.out.o;rw[hw8]at h1;exact h1
   clear hinv hw8;have HL:Hid (∀ lo hh,uOf (uN x*uN y)=lo->hiOf (uN x*uN y)=hh->Ending.returned (Value.agg (wL hh lo))=Ending.returned (wV (hiOf (uN x*uN y)) (uOf (uN x*uN y)))):=fun lo hh h1 h2=>by rw[h1,h2]
   generalize hlo:uOf (uN x*uN y)=lo at hrow;generalize hhh:hiOf (uN x*uN y)=hh at hrow;have HLo:=zh (HL.out lo hh hlo hhh);clear HL hlo hhh;have hc:∀ k v,(wL lo hh)[k]?=some v->wo.cell? ⟨w.heap.size+3,k,none⟩=some v:=fun k v hk=>by rw[cell_of_row _ _ _ _ _ _ hrow];exact hk
   have c0:=hc 0 _ rfl;have c1:=hc 1 _ rfl;have c2:=hc 2 _ rfl;have c3:=hc 3 _ rfl;have c4:=hc 4 _ rfl;have c5:=hc 5 _ rfl;have c6:=hc 6 _ rfl;have c7:=hc 7 _ rfl;have hr:∀ k v,(wL (0,0,0,0) (0,0,0,0))[k]?=some v->wo.cell? ⟨w.heap.size+2,k,none⟩=some v:=fun k v hk=>by rw[cell_of_row _ _ _ _ _ _ HA.out.r];exact hk
   have r0:=hr 0 _ rfl;have r1:=hr 1 _ rfl;have r2:=hr 2 _ rfl;have r3:=hr 3 _ rfl;have r4:=hr 4 _ rfl;have r5:=hr 5 _ rfl;have r6:=hr 6 _ rfl;have r7:=hr 7 _ rfl;have hf:∀ k,wo.frozen? ⟨w.heap.size+2,k,none⟩=false:=fun k=>frozen_of_row _ _ _ _ _ HA.out.r
   have f0:=hf 0;have f1:=hf 1;have f2:=hf 2;have f3:=hf 3;have f4:=hf 4;have f5:=hf 5;have f6:=hf 6;have f7:=hf 7;have s1:=zsv (w.heap.size+3);have s2:=zrh (w.heap.size+3);have s3:=zun (w.heap.size+3) 4 4;have s4:=zun (w.heap.size+3) 0 8;have HR:=zh (z6n (put8 (a:=(0,0,0,0)) (b:=(0,0,0,0)) HA.out.r hh lo));have HB:=zh (z0h (zmu HA.out.b (g:=w.heap.size+2) (by omega) hh lo));clear hc hf hr hrow;go_wp2_with fail
   go_region
   all_goals
    go_wp2_with fail;refine bodyPost_ret (results_cell_row rfl _ _ (w.heap.size+2) 225 (wL hh lo) (0,0) _ rfl HR.out Tryz.underlying225 rfl (by kernel_rfl)) rfl ?_;exact⟨HLo.out,HB.out⟩
end Go.Proofs.YtnkilceibkkjlaaGreat
