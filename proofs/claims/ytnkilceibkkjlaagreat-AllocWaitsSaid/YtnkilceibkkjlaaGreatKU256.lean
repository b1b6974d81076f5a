/- What is proved here: numbers of 256 bits in the program:  -/
import Derived.Test.YtnkilceibkkjlaaGreatKBl
import Derived.Laws.Bits64b
set_option maxRecDepth 100000
set_option maxHeartbeats 16000000
namespace Go.Proofs.YtnkilceibkkjlaaGreat
open Go.RowKit
theorem zky(X Y:BitVec 64):bits .and .u64 (X.toNat:Int) (Y.toNat:Int)=((X &&& Y).toNat:Int):=by
 have h:=(X &&& Y).isLt;show IntKind.u64.wrap ((BitVec.ofInt 64 (X.toNat:Int) &&& BitVec.ofInt 64 (Y.toNat:Int)).toNat:Int)=_
 rw[BitVec.ofInt_natCast,BitVec.ofInt_natCast,BitVec.ofNat_toNat,BitVec.ofNat_toNat,IntKind.wrap_u64];simp only[BitVec.setWidth_eq];omega
theorem zop(X Y:BitVec 64):bits .or .u64 (X.toNat:Int) (Y.toNat:Int)=((X ||| Y).toNat:Int):=by
 have h:=(X ||| Y).isLt;show IntKind.u64.wrap ((BitVec.ofInt 64 (X.toNat:Int) ||| BitVec.ofInt 64 (Y.toNat:Int)).toNat:Int)=_
 rw[BitVec.ofInt_natCast,BitVec.ofInt_natCast,BitVec.ofNat_toNat,BitVec.ofNat_toNat,IntKind.wrap_u64];simp only[BitVec.setWidth_eq];omega
theorem zy1(X Y:BitVec 64):bits .xor .u64 (X.toNat:Int) (Y.toNat:Int)=((X ^^^ Y).toNat:Int):=by
 have h:=(X ^^^ Y).isLt;show IntKind.u64.wrap ((BitVec.ofInt 64 (X.toNat:Int) ^^^ BitVec.ofInt 64 (Y.toNat:Int)).toNat:Int)=_
 rw[BitVec.ofInt_natCast,BitVec.ofInt_natCast,BitVec.ofNat_toNat,BitVec.ofNat_toNat,IntKind.wrap_u64];simp only[BitVec.setWidth_eq];omega
theorem zqi(X Y:BitVec 64):bits .andNot .u64 (X.toNat:Int) (Y.toNat:Int)=((X &&& ~~~Y).toNat:Int):=by
 have h:=(X &&& ~~~Y).isLt;show IntKind.u64.wrap ((BitVec.ofInt 64 (X.toNat:Int) &&& ~~~BitVec.ofInt 64 (Y.toNat:Int)).toNat:Int)=_
 rw[BitVec.ofInt_natCast,BitVec.ofInt_natCast,BitVec.ofNat_toNat,BitVec.ofNat_toNat,IntKind.wrap_u64];simp only[BitVec.setWidth_eq];omega
theorem zue(X:BitVec 64):((X.toNat:Nat):Int)/9223372036854775808=(X.msb.toNat:Int):=by
 have h:=X.isLt;rw[BitVec.msb_eq_decide]
 by_cases h1:9223372036854775808<=X.toNat
 ·rw[decide_eq_true (by simpa using h1)];show _=((1:Nat):Int);omega
 ·rw[decide_eq_false (by simpa using h1)];show _=((0:Nat):Int);omega
theorem zfj{n:Nat}(h:n<18446744073709551616):∃ X:BitVec 64,X.toNat=n/\X.msb=decide (9223372036854775808<=n):=by
 refine⟨BitVec.ofNat 64 n,?_,?_⟩
 ·rw[BitVec.toNat_ofNat];exact Nat.mod_eq_of_lt h
 ·rw[BitVec.msb_eq_decide,BitVec.toNat_ofNat,Nat.mod_eq_of_lt (by omega)]
def addC(a b c:Nat):Nat:=(a+b+c)/18446744073709551616
def addS(a b c:Nat):Nat:=(a+b+c)%18446744073709551616
def subC(a b c:Nat):Nat:=if a<b+c then 1 else 0
def subS(a b c:Nat):Nat:=(a+36893488147419103232-(b+c))%18446744073709551616
theorem zqm(a b c:Nat):IntKind.u64.wrap (IntKind.u64.wrap ((a:Int)+(b:Int))+(c:Int))=(((a+b+c)%18446744073709551616:Nat):Int):=by
 rw[IntKind.wrap_u64,IntKind.wrap_u64];omega
theorem zpk(a b c:Nat)(ha:a<18446744073709551616)(hb:b<18446744073709551616)(hc:c<=1) :
  bits BinOp.or IntKind.u64 (bits BinOp.and IntKind.u64 a b) (bits BinOp.andNot IntKind.u64 (bits BinOp.or IntKind.u64 a b) (((a+b+c)%18446744073709551616:Nat):Int))/9223372036854775808=(((a+b+c)/18446744073709551616:Nat):Int):=by
 obtain⟨A,hA,mA⟩:=zfj ha;obtain⟨B,hB,mB⟩:=zfj hb;obtain⟨S,hS,mS⟩:=zfj (n:=(a+b+c)%18446744073709551616) (by omega);rw[<- hS,<- hA,<- hB,zky,zop,zqi,zop,zue];rw[BitVec.msb_or,BitVec.msb_and,BitVec.msb_and,BitVec.msb_or,BitVec.msb_not,mA,mB,mS,hA,hB]
 by_cases h1:9223372036854775808<=a<;>by_cases h2:9223372036854775808<=b<;>by_cases h3:9223372036854775808<=(a+b+c)%18446744073709551616<;>simp[h1,h2,h3]<;>omega
theorem zlr(a b c:Nat)(hb:b<18446744073709551616)(hc:c<=1):IntKind.u64.wrap (IntKind.u64.wrap ((a:Int)-(b:Int))-(c:Int))=(((a+36893488147419103232-(b+c))%18446744073709551616:Nat):Int):=by
 rw[IntKind.wrap_u64,IntKind.wrap_u64];omega
theorem zmd(a b c:Nat)(ha:a<18446744073709551616)(hb:b<18446744073709551616)(hc:c<=1) :
  bits BinOp.or IntKind.u64 (bits BinOp.and IntKind.u64 (bits BinOp.xor IntKind.u64 IntKind.u64.max a) b) (bits BinOp.and IntKind.u64 (bits BinOp.or IntKind.u64 (bits BinOp.xor IntKind.u64 IntKind.u64.max a) b) (((a+36893488147419103232-(b+c))%18446744073709551616:Nat):Int))/9223372036854775808=((if a<b+c then 1 else 0:Nat):Int):=by
 obtain⟨A,hA,mA⟩:=zfj ha;obtain⟨B,hB,mB⟩:=zfj hb;obtain⟨S,hS,mS⟩:=zfj (n:=(a+36893488147419103232-(b+c))%18446744073709551616) (by omega);have hM:IntKind.u64.max=(((BitVec.allOnes 64).toNat:Nat):Int):=by rw[BitVec.toNat_allOnes];rfl
 rw[<- hS,hM,<- hA,<- hB,zy1,zky,zop,zky,zop,zue];rw[BitVec.msb_or,BitVec.msb_and,BitVec.msb_and,BitVec.msb_or,BitVec.msb_xor,mA,mB,mS,hA,hB];have hO:(BitVec.allOnes 64).msb=true:=by decide
 rw[hO]
 by_cases h1:9223372036854775808<=a<;>by_cases h2:9223372036854775808<=b<;>by_cases h3:9223372036854775808<=(a+36893488147419103232-(b+c))%18446744073709551616<;>by_cases h4:a<b+c<;>simp[h1,h2,h3,h4]<;>omega
theorem zck(a b c:Nat)(ha:a<18446744073709551616)(hb:b<18446744073709551616)(hc:c<=1)(w:World):Calls Tryz.prog 148 #[.int .u64 a,.int .u64 b,.int .u64 c] w fun e w'=>e= .returned (.tuple #[.int .u64 (addS a b c),.int .u64 (addC a b c)])/\w=w':=by
 have h1:=zh (zqm a b c);have h2:=zh (zpk a b c ha hb hc);go_enter Tryz.func148,Tryz.ntmps148;go_wp2_with fail;refine bodyPost_ret (results_tmp2 rfl _ _ _) rfl ⟨?_,rfl⟩;show Ending.returned (.tuple #[.int .u64 (IntKind.u64.wrap (IntKind.u64.wrap ((a:Int)+(b:Int))+(c:Int))),.int .u64 (bits BinOp.or IntKind.u64 (bits BinOp.and IntKind.u64 a b) (bits BinOp.andNot IntKind.u64 (bits BinOp.or IntKind.u64 a b) (IntKind.u64.wrap (IntKind.u64.wrap ((a:Int)+(b:Int))+(c:Int))))/9223372036854775808)])=_
 rw[h1.out,h2.out];rfl
theorem zaq(a b c:Nat)(ha:a<18446744073709551616)(hb:b<18446744073709551616)(hc:c<=1)(w:World):Calls Tryz.prog 144 #[.int .u64 a,.int .u64 b,.int .u64 c] w fun e w'=>e= .returned (.tuple #[.int .u64 (subS a b c),.int .u64 (subC a b c)])/\w=w':=by
 have hsg:IntKind.u64.signed=false:=rfl;have h1:=zh (zlr a b c hb hc);have h2:=zh (zmd a b c ha hb hc);go_enter Tryz.func144,Tryz.ntmps144;go_wp2_with fail;refine bodyPost_ret (results_tmp2 rfl _ _ _) rfl ⟨?_,rfl⟩;show Ending.returned (.tuple #[.int .u64 (IntKind.u64.wrap (IntKind.u64.wrap ((a:Int)-(b:Int))-(c:Int))),.int .u64 (bits BinOp.or IntKind.u64 (bits BinOp.and IntKind.u64 (bits BinOp.xor IntKind.u64 IntKind.u64.max a) b) (bits BinOp.and IntKind.u64 (bits BinOp.or IntKind.u64 (bits BinOp.xor IntKind.u64 IntKind.u64.max a) b) (IntKind.u64.wrap (IntKind.u64.wrap ((a:Int)-(b:Int))-(c:Int))))/9223372036854775808)])=_
 rw[h1.out,h2.out];rfl
abbrev W4:=Nat × Nat × Nat × Nat
def W4.Ok(x:W4):Prop:=x.1<18446744073709551616/\x.2.1<18446744073709551616/\x.2.2.1<18446744073709551616/\x.2.2.2<18446744073709551616
abbrev uL(x:W4):Array Value:=#[.int .u64 x.1,.int .u64 x.2.1,.int .u64 x.2.2.1,.int .u64 x.2.2.2]
abbrev uV(x:W4):Value:=.agg (uL x)
def uN(x:W4):Nat:=x.1+18446744073709551616*(x.2.1+18446744073709551616*(x.2.2.1+18446744073709551616*x.2.2.2))
def W4.at(x:W4):Nat->Nat
 | 0=>x.1
 | 1=>x.2.1
 | 2=>x.2.2.1
 | _=>x.2.2.2
def W4.set(x:W4)(k v:Nat):W4:=match k with
 | 0=>(v,x.2)
 | 1=>(x.1,v,x.2.2)
 | 2=>(x.1,x.2.1,v,x.2.2.2)
 | _=>(x.1,x.2.1,x.2.2.1,v)
theorem W4.Ok.at{x:W4}(h:x.Ok)(k:Nat):x.at k<18446744073709551616:=by
 obtain⟨h0,h1,h2,h3⟩:=h;unfold W4.at
 split<;>assumption
theorem z4v(x:W4)(k:Nat)(hk:k<4):(uL x)[k]?=some (.int .u64 (x.at k)):=by
 match k,hk with
 | 0,_=>rfl
 | 1,_=>rfl
 | 2,_=>rfl
 | 3,_=>rfl
theorem z9j(x:W4)(k v:Nat)(hk:k<4):(uL x).setIfInBounds k (.int .u64 v)=uL (x.set k v):=by
 match k,hk with
 | 0,_=>rfl
 | 1,_=>rfl
 | 2,_=>rfl
 | 3,_=>rfl
def z1l(S C:Nat->Nat->Nat->Nat)(x y:W4):Nat->Nat × W4
 | 0=>(0,(0,0,0,0))
 | k+1=>(C (x.at k) (y.at k) (z1l S C x y k).1,(z1l S C x y k).2.set k (S (x.at k) (y.at k) (z1l S C x y k).1))
def z8j(x y:W4):Nat:=(z1l addS addC x y 4).1
def zcf(x y:W4):W4:=(z1l addS addC x y 4).2
def z3l(x y:W4):Nat:=(z1l subS subC x y 4).1
def z3s(x y:W4):W4:=(z1l subS subC x y 4).2
theorem zx1{a b c:Nat}(ha:a<18446744073709551616)(hb:b<18446744073709551616)(hc:c<=1):addC a b c<=1:=by unfold addC;omega
theorem zvc(a b c:Nat):subC a b c<=1:=by unfold subC;split<;>omega
theorem znt{x y:W4}(hx:x.Ok)(hy:y.Ok):∀ k,(z1l addS addC x y k).1<=1
 | 0=>Nat.zero_le _
 | k+1=>zx1 (hx.at k) (hy.at k) (znt hx hy k)
theorem zbs(x y:W4):∀ k,(z1l subS subC x y k).1<=1
 | 0=>Nat.zero_le _
 | _+1=>zvc _ _ _
theorem zkv{x y:W4}:uN (zcf x y)+115792089237316195423570985008687907853269984665640564039457584007913129639936*z8j x y=uN x+uN y:=by
 obtain⟨x0,x1,x2,x3⟩:=x;obtain⟨y0,y1,y2,y3⟩:=y;simp only[uN,zcf,z8j,z1l,W4.set,W4.at,addS,addC];omega
theorem zia(x y:W4):(zcf x y).Ok:=by
 simp only[W4.Ok,zcf,z1l,W4.set,W4.at,addS];omega
theorem zdo(x y:W4):(z3s x y).Ok:=by
 simp only[W4.Ok,z3s,z1l,W4.set,W4.at,subS];omega
structure UAt (w:World) (x y o:W4) (wr:World):Prop where
 b:Below w.heap.size w wr
 x:wr.heap[w.heap.size]?=some (.cells (uL x) 24 (0,0))
 y:wr.heap[w.heap.size+1]?=some (.cells (uL y) 24 (0,0))
 r:wr.heap[w.heap.size+2]?=some (.cells (uL (0,0,0,0)) 24 (0,0))
 o:wr.heap[w.heap.size+3]?=some (.cells (uL o) 24 (0,0))
theorem UAt.start(w:World)(x y:W4):UAt w x y (0,0,0,0) ((((w.alloc (.cells (uL x) 24)).alloc (.cells (uL y) 24)).alloc (.cells (uL (0,0,0,0)) 24)).alloc (.cells (uL (0,0,0,0)) 24)):=by
 refine⟨z00 (z00 (z00 (z00 zb _) _) _) _,?_,?_,?_,?_⟩
 ·rw[heap_alloc_old _ _ (by first | (simp;done)|(simp;omega)),heap_alloc_old _ _ (by first | (simp;done)|(simp;omega)),heap_alloc_old _ _ (by simp)];exact heap_alloc_new w _
 ·rw[heap_alloc_old _ _ (by first | (simp;done)|(simp;omega)),heap_alloc_old _ _ (by simp)];have:=heap_alloc_new (w.alloc (.cells (uL x) 24)) (.cells (uL y) 24)
  rwa [World.size_alloc]at this
 ·rw[heap_alloc_old _ _ (by simp)];have:=heap_alloc_new ((w.alloc (.cells (uL x) 24)).alloc (.cells (uL y) 24)) (.cells (uL (0,0,0,0)) 24)
  rwa [World.size_alloc,World.size_alloc]at this
 ·have:=heap_alloc_new (((w.alloc (.cells (uL x) 24)).alloc (.cells (uL y) 24)).alloc (.cells (uL (0,0,0,0)) 24)) (.cells (uL (0,0,0,0)) 24)
  rwa [World.size_alloc,World.size_alloc,World.size_alloc]at this
theorem row4{w:World}{g:Nat}{x:W4}(h:w.heap[g]?=some (.cells (uL x) 24 (0,0))):w.cell? ⟨g,0,none⟩=some (.int .u64 x.1)/\w.cell? ⟨g,1,none⟩=some (.int .u64 x.2.1)/\w.cell? ⟨g,2,none⟩=some (.int .u64 x.2.2.1)/\w.cell? ⟨g,3,none⟩=some (.int .u64 x.2.2.2)/\w.frozen? ⟨g,0,none⟩=false/\w.frozen? ⟨g,1,none⟩=false/\w.frozen? ⟨g,2,none⟩=false/\w.frozen? ⟨g,3,none⟩=false:=
 ⟨by rw[cell_of_row _ _ _ _ _ _ h];rfl,by rw[cell_of_row _ _ _ _ _ _ h];rfl,by rw[cell_of_row _ _ _ _ _ _ h];rfl,by rw[cell_of_row _ _ _ _ _ _ h];rfl,frozen_of_row _ _ _ _ _ h,frozen_of_row _ _ _ _ _ h,frozen_of_row _ _ _ _ _ h,frozen_of_row _ _ _ _ _ h⟩
theorem put4{w:World}{g:Nat}{x:W4}(h:w.heap[g]?=some (.cells (uL x) 24 (0,0)))(y:W4):((((w.setCell ⟨g,0,none⟩ (.int .u64 y.1)).setCell ⟨g,1,none⟩ (.int .u64 y.2.1)).setCell ⟨g,2,none⟩ (.int .u64 y.2.2.1)).setCell ⟨g,3,none⟩ (.int .u64 y.2.2.2)).heap[g]?=some (.cells (uL y) 24 (0,0)):=
 z0d _ (z0d _ (z0d _ (z0d _ h)))
theorem z0f{n g:Nat}{w0 w:World}(h:Below n w0 w)(hg:n<=g)(a b c d:Value):Below n w0 ((((w.setCell ⟨g,0,none⟩ a).setCell ⟨g,1,none⟩ b).setCell ⟨g,2,none⟩ c).setCell ⟨g,3,none⟩ d):=
 (((h.setCell (p:=⟨g,0,none⟩) hg _).setCell (p:=⟨g,1,none⟩) hg _).setCell (p:=⟨g,2,none⟩) hg _).setCell (p:=⟨g,3,none⟩) hg _
theorem UAt.drew{w wr:World}{x y o:W4}(h:UAt w x y o wr):UAt w x y o wr.drew:=⟨z0h h.b,h.x,h.y,h.r,h.o⟩
theorem UAt.put{w wr:World}{x y o:W4}(h:UAt w x y o wr)(k v:Nat)(hk:k<4):UAt w x y (o.set k v) (wr.setCell ⟨w.heap.size+3,k,none⟩ (.int .u64 v)):=by
 have hoth:∀ j,j≠w.heap.size+3->(wr.setCell ⟨w.heap.size+3,k,none⟩ (.int .u64 v)).heap[j]?=wr.heap[j]?:=fun j hj=>Below.heap_setCell _ _ _ _ hj
 refine⟨?_,by rw[hoth _ (by omega)];exact h.x,by rw[hoth _ (by omega)];exact h.y,by rw[hoth _ (by omega)];exact h.r,?_⟩
 ·exact h.b.setCell (p:=⟨w.heap.size+3,k,none⟩) (by simp) _
 ·rw[<- z9j o k v hk];exact heap_setCell_same _ _ _ _ _ _ h.o
theorem zkp(x y:W4)(hx:x.Ok)(hy:y.Ok)(w:World):Calls Tryz.prog 79 #[uV x,uV y] w fun e w'=>e= .returned (.tuple #[uV (if z8j x y=0 then zcf x y else(0,0,0,0)),.bool (z8j x y==0)])/\Below w.heap.size w w':=by
 have H0:=zh (UAt.start w x y);have HC:Hid (∀ k w1,Calls Tryz.prog 148 #[.int .u64 (x.at k),.int .u64 (y.at k),.int .u64 (z1l addS addC x y k).1] w1 fun e w'=>e= .returned (.tuple #[.int .u64 (addS (x.at k) (y.at k) (z1l addS addC x y k).1),.int .u64 (z1l addS addC x y (k+1)).1])/\w1=w'):=fun k w1=>zck _ _ _ (hx.at k) (hy.at k) (znt hx hy k) w1
 have HN:Hid (∀ k wr,k<4->UAt w x y (z1l addS addC x y k).2 wr->UAt w x y (z1l addS addC x y (k+1)).2 (wr.setCell ⟨w.heap.size+3,k,none⟩ (.int .u64 (addS (x.at k) (y.at k) (z1l addS addC x y k).1)))):=fun k wr hk h=>h.put k _ hk
 go_enter Tryz.func79,Tryz.ntmps79;go_wp2_with fail
 go_loopw [9,7] (fun iv cv wr=>∃ k:Nat,iv= .int .i64 k/\k<=4/\cv= .int .u64 (z1l addS addC x y k).1/\UAt w x y (z1l addS addC x y k).2 wr) (fun iv _ _=>4-(intOf iv).toNat)
 case atStart=>exact⟨0,rfl,by omega,rfl,H0.out⟩
 case round =>
  obtain⟨k,rfl,hk,rfl,hA⟩:=hrel;have HA:=zh hA;clear hA H0
  by_cases hlt:k<4
  ·have cA:wr.cell? ⟨w.heap.size,k,none⟩=some (.int .u64 (x.at k)):=by rw[cell_of_row _ _ _ _ _ _ HA.out.x];exact z4v x k hlt
   have cB:wr.cell? ⟨w.heap.size+1,k,none⟩=some (.int .u64 (y.at k)):=by rw[cell_of_row _ _ _ _ _ _ HA.out.y];exact z4v y k hlt
   have cD:wr.cell? ⟨w.heap.size+3,k,none⟩=some (.int .u64 ((z1l addS addC x y k).2.at k)):=by rw[cell_of_row _ _ _ _ _ _ HA.out.o];exact z4v _ k hlt
   have fD:wr.frozen? ⟨w.heap.size+3,k,none⟩=false:=frozen_of_row _ _ _ _ _ HA.out.o;go_wp2_with fail
   go_region_with (go_at_call 148;refine(HC.out k _).mono ?_;rintro e w' ⟨rfl,rfl⟩)
   all_goals
    go_wp2_with fail;go_roundw
    case rel=>exact⟨k+1,by go_num,by omega,rfl,HN.out k _ hlt HA.out.drew⟩
    case measure=>simp[intOf];omega
  ·obtain rfl:k=4:=by omega
   obtain⟨o0,o1,o2,o3,_⟩:=row4 HA.out.o;obtain⟨_,_,_,_,r0,r1,r2,r3⟩:=row4 HA.out.r;clear HN HC
   by_cases h0:z8j x y=0
   ·have hc:((((z1l addS addC x y 4).1:Nat):Int)==0)=true:=beq_iff_eq.2 (by exact_mod_cast h0);go_wp2_with fail;refine bodyPost_ret (z03 rfl _ _ (w.heap.size+2) 24 (uL (zcf x y)) (0,0) _ rfl (put4 HA.out.r _) Tryz.underlying24 rfl (by kernel_rfl)) rfl ?_;refine⟨?_,z0f HA.out.b (by omega) _ _ _ _⟩
    first | rfl | (rw[h0];rfl)
   ·have hc:((((z1l addS addC x y 4).1:Nat):Int)==0)=false:=beq_eq_false_iff_ne.2 (by exact_mod_cast h0);go_wp2_with fail;refine bodyPost_ret (z03 rfl _ _ (w.heap.size+2) 24 (uL (0,0,0,0)) (0,0) _ rfl (put4 HA.out.r (0,0,0,0)) Tryz.underlying24 rfl (by kernel_rfl)) rfl ?_;refine⟨?_,z0f HA.out.b (by omega) _ _ _ _⟩;rw[beq_eq_false_iff_ne.2 h0];rfl
theorem z9v(x y:W4)(hx:x.Ok)(hy:y.Ok)(w:World):Calls Tryz.prog 71 #[uV x,uV y] w fun e w'=>e= .returned (.tuple #[uV (if z3l x y=0 then z3s x y else(0,0,0,0)),.bool (z3l x y==0)])/\Below w.heap.size w w':=by
 have H0:=zh (UAt.start w x y);have HC:Hid (∀ k w1,Calls Tryz.prog 144 #[.int .u64 (x.at k),.int .u64 (y.at k),.int .u64 (z1l subS subC x y k).1] w1 fun e w'=>e= .returned (.tuple #[.int .u64 (subS (x.at k) (y.at k) (z1l subS subC x y k).1),.int .u64 (z1l subS subC x y (k+1)).1])/\w1=w'):=fun k w1=>zaq _ _ _ (hx.at k) (hy.at k) (zbs x y k) w1
 have HN:Hid (∀ k wr,k<4->UAt w x y (z1l subS subC x y k).2 wr->UAt w x y (z1l subS subC x y (k+1)).2 (wr.setCell ⟨w.heap.size+3,k,none⟩ (.int .u64 (subS (x.at k) (y.at k) (z1l subS subC x y k).1)))):=fun k wr hk h=>h.put k _ hk
 go_enter Tryz.func71,Tryz.ntmps71;go_wp2_with fail
 go_loopw [9,7] (fun iv cv wr=>∃ k:Nat,iv= .int .i64 k/\k<=4/\cv= .int .u64 (z1l subS subC x y k).1/\UAt w x y (z1l subS subC x y k).2 wr) (fun iv _ _=>4-(intOf iv).toNat)
 case atStart=>exact⟨0,rfl,by omega,rfl,H0.out⟩
 case round =>
  obtain⟨k,rfl,hk,rfl,hA⟩:=hrel;have HA:=zh hA;clear hA H0
  by_cases hlt:k<4
  ·have cA:wr.cell? ⟨w.heap.size,k,none⟩=some (.int .u64 (x.at k)):=by rw[cell_of_row _ _ _ _ _ _ HA.out.x];exact z4v x k hlt
   have cB:wr.cell? ⟨w.heap.size+1,k,none⟩=some (.int .u64 (y.at k)):=by rw[cell_of_row _ _ _ _ _ _ HA.out.y];exact z4v y k hlt
   have cD:wr.cell? ⟨w.heap.size+3,k,none⟩=some (.int .u64 ((z1l subS subC x y k).2.at k)):=by rw[cell_of_row _ _ _ _ _ _ HA.out.o];exact z4v _ k hlt
   have fD:wr.frozen? ⟨w.heap.size+3,k,none⟩=false:=frozen_of_row _ _ _ _ _ HA.out.o;go_wp2_with fail
   go_region_with (go_at_call 144;refine(HC.out k _).mono ?_;rintro e w' ⟨rfl,rfl⟩)
   all_goals
    go_wp2_with fail;go_roundw
    case rel=>exact⟨k+1,by go_num,by omega,rfl,HN.out k _ hlt HA.out.drew⟩
    case measure=>simp[intOf];omega
  ·obtain rfl:k=4:=by omega
   obtain⟨o0,o1,o2,o3,_⟩:=row4 HA.out.o;obtain⟨_,_,_,_,r0,r1,r2,r3⟩:=row4 HA.out.r;clear HN HC
   by_cases h0:z3l x y=0
   ·have hc:((((z1l subS subC x y 4).1:Nat):Int)==0)=true:=beq_iff_eq.2 (by exact_mod_cast h0);go_wp2_with fail;refine bodyPost_ret (z03 rfl _ _ (w.heap.size+2) 24 (uL (z3s x y)) (0,0) _ rfl (put4 HA.out.r _) Tryz.underlying24 rfl (by kernel_rfl)) rfl ?_;refine⟨?_,z0f HA.out.b (by omega) _ _ _ _⟩
    first | rfl | (rw[h0];rfl)
   ·have hc:((((z1l subS subC x y 4).1:Nat):Int)==0)=false:=beq_eq_false_iff_ne.2 (by exact_mod_cast h0);go_wp2_with fail;refine bodyPost_ret (z03 rfl _ _ (w.heap.size+2) 24 (uL (0,0,0,0)) (0,0) _ rfl (put4 HA.out.r (0,0,0,0)) Tryz.underlying24 rfl (by kernel_rfl)) rfl ?_;refine⟨?_,z0f HA.out.b (by omega) _ _ _ _⟩;rw[beq_eq_false_iff_ne.2 h0];rfl
def uCmp(x y:W4):Int:=if uN x<uN y then -1 else if uN y<uN x then 1 else 0
theorem zn7{x y:W4}(hx:x.Ok)(hy:y.Ok)(k:Nat)(hk:k<4)(h:∀ j,k<j->j<4->x.at j=y.at j)(hlt:x.at k<y.at k):uN x<uN y:=by
 obtain⟨x0,x1,x2,x3⟩:=x;obtain⟨y0,y1,y2,y3⟩:=y;obtain⟨a0,a1,a2,a3⟩:=hx;obtain⟨b0,b1,b2,b3⟩:=hy;have h1:=h 1;have h2:=h 2;have h3:=h 3;simp only[uN,W4.at]at *
 match k,hk with
 | 0,_=>simp only at hlt;have:=h1 (by omega) (by omega);have:=h2 (by omega) (by omega);have:=h3 (by omega) (by omega);omega
 | 1,_=>simp only at hlt;have:=h2 (by omega) (by omega);have:=h3 (by omega) (by omega);omega
 | 2,_=>simp only at hlt;have:=h3 (by omega) (by omega);omega
 | 3,_=>simp only at hlt;omega
theorem zpn{x y:W4}(h:∀ j,j<4->x.at j=y.at j):x=y:=by
 obtain⟨x0,x1,x2,x3⟩:=x;obtain⟨y0,y1,y2,y3⟩:=y;have h0:=h 0 (by decide);have h1:=h 1 (by decide);have h2:=h 2 (by decide);have h3:=h 3 (by decide);simp only[W4.at]at *
 rw[h0,h1,h2,h3]
theorem z4x(x y:W4)(hx:x.Ok)(hy:y.Ok)(w:World):Calls Tryz.prog 58 #[uV x,uV y] w fun e w'=>e= .returned (.int .i64 (uCmp x y))/\Below w.heap.size w w':=by
 have H0:Hid (Below w.heap.size w ((w.alloc (.cells (uL x) 24)).alloc (.cells (uL y) 24))/\((w.alloc (.cells (uL x) 24)).alloc (.cells (uL y) 24)).heap[w.heap.size]?=some (.cells (uL x) 24 (0,0))/\((w.alloc (.cells (uL x) 24)).alloc (.cells (uL y) 24)).heap[w.heap.size+1]?=some (.cells (uL y) 24 (0,0))):=by
  refine⟨z00 (z00 zb _) _,?_,?_⟩
  ·rw[heap_alloc_old _ _ (by simp)];exact heap_alloc_new w _
  ·have:=heap_alloc_new (w.alloc (.cells (uL x) 24)) (.cells (uL y) 24)
   rwa [World.size_alloc]at this
 have HL:Hid (∀ k,k<4->(∀ j,k<j->j<4->x.at j=y.at j)->x.at k<y.at k->uCmp x y = -1):=fun k hk h hlt=>by
  unfold uCmp;rw[if_pos (zn7 hx hy k hk h hlt)]
 have HG:Hid (∀ k,k<4->(∀ j,k<j->j<4->x.at j=y.at j)->y.at k<x.at k->uCmp x y=1):=fun k hk h hlt=>by
  have:=zn7 hy hx k hk (fun j h1 h2=>(h j h1 h2).symm) hlt;unfold uCmp;rw[if_neg (by omega),if_pos this]
 have HE:Hid ((∀ j,j<4->x.at j=y.at j)->uCmp x y=0):=fun h=>by
  rw[zpn h];unfold uCmp;rw[if_neg (by omega),if_neg (by omega)]
 generalize uCmp x y=r at *
 go_enter Tryz.func58,Tryz.ntmps58;go_wp2_with fail
 go_loopw [5] (fun iv wr=>∃ k:Nat,iv= .int .i64 ((k:Int)-1)/\k<=4/\(∀ j,k<=j->j<4->x.at j=y.at j)/\Below w.heap.size w wr/\wr.heap[w.heap.size]?=some (.cells (uL x) 24 (0,0))/\wr.heap[w.heap.size+1]?=some (.cells (uL y) 24 (0,0))) (fun iv _=>(intOf iv+1).toNat)
 case atStart=>exact⟨4,rfl,by omega,fun j h1 h2=>by omega,H0.out⟩
 case round =>
  obtain⟨k,rfl,hk,hj,hb,hX,hY⟩:=hrel;have HJ:=zh hj;have HB:=zh hb;have HX:=zh hX;have HY:=zh hY;clear hj hb hX hY H0;cases k with
  | zero =>
   go_wp2_with fail;go_ret;exact⟨by rw[HE.out fun j h=>HJ.out j (by omega) h];rfl,HB.out⟩
  | succ k =>
   have hlt:k<4:=by omega
   have hz:((k+1:Nat):Int)-1=(k:Int):=by omega
   have cA:wr.cell? ⟨w.heap.size,k,none⟩=some (.int .u64 (x.at k)):=by rw[cell_of_row _ _ _ _ _ _ HX.out];exact z4v x k hlt
   have cB:wr.cell? ⟨w.heap.size+1,k,none⟩=some (.int .u64 (y.at k)):=by rw[cell_of_row _ _ _ _ _ _ HY.out];exact z4v y k hlt
   rw[hz]
   by_cases h1:x.at k<y.at k
   ·have hd:decide (((x.at k:Nat):Int)<((y.at k:Nat):Int))=true:=decide_eq_true (by omega);go_wp2_with fail
    go_region
    all_goals
     go_wp2_with fail;go_ret;exact⟨by rw[HL.out k hlt (fun j h2 h3=>HJ.out j (by omega) h3) h1];rfl,z0h HB.out⟩
   ·have hd:decide (((x.at k:Nat):Int)<((y.at k:Nat):Int))=false:=decide_eq_false (by omega)
    by_cases h2:y.at k<x.at k
    ·have hd2:decide (((y.at k:Nat):Int)<((x.at k:Nat):Int))=true:=decide_eq_true (by omega);go_wp2_with fail
     go_region
     all_goals
      go_wp2_with fail
      go_region
      all_goals
       go_wp2_with fail;go_ret;exact⟨by rw[HG.out k hlt (fun j h2 h3=>HJ.out j (by omega) h3) h2];rfl,z0h (z0h HB.out)⟩
    ·have hd2:decide (((y.at k:Nat):Int)<((x.at k:Nat):Int))=false:=decide_eq_false (by omega);go_wp2_with fail
     go_region
     all_goals
      go_wp2_with fail
      go_region
      all_goals
       go_wp2_with fail;go_roundw
       case rel=>exact⟨k,by go_num,by omega,fun j h3 h4=>(by
        by_cases e:j=k
        ·subst e;omega
        ·exact HJ.out j (by omega) h4),z0h (z0h HB.out),HX.out,HY.out⟩
       case measure=>first | (simp[intOf];done)|(simp[intOf];omega)
end Go.Proofs.YtnkilceibkkjlaaGreat
