/- What is proved here: u256.length, Bits, and a wide number -/
import Derived.Test.YtnkilceibkkjlaaGreatKMulU
set_option maxRecDepth 100000
set_option maxHeartbeats 16000000
namespace Go.Proofs.YtnkilceibkkjlaaGreat
open Go.RowKit
def zkm(n m:Nat)(w:World)(e:Ending)(w':World):Prop:=∃ b:Nat,e= .returned (.int .i64 b)/\n<2 ^ b/\b<=m/\Below w.heap.size w w'
theorem z81{x k n x0:Nat}(h:x0/2 ^ n=x):x0/2 ^ (n+k)=x/2 ^ k:=by
 rw[<- h,Nat.div_div_eq_div_mul,<- Nat.pow_add]
theorem zni{B:Nat}{f:Nat->Nat}(hf:∀ j,f j<B):∀ k,dLow B f k<B ^ k
 | 0=>by show 0<1;decide
 | k+1=>by
  have h1:=zni hf k
  show dLow B f k+B ^ k*f k<B ^ (k+1)
  rw[Nat.pow_succ]
  have h2:B ^ k*(f k+1)<=B ^ k*B:=Nat.mul_le_mul_left _ (hf k)
  rw[Nat.mul_add]at h2
  omega
theorem zlj(x:Nat)(hx:x<18446744073709551616)(w:World):Calls Tryz.prog 265 #[.int .u64 x] w (zkm x 64 w):=by
 have HE:Hid (∀ k n:Nat,x/2 ^ n=k->k<2->n<=63->∀ wr,Below w.heap.size w wr->∀ e,e=Ending.returned (.int .i64 ((n+k:Nat):Int))->zkm x 64 w e wr):=fun k n h1 h2 h3 wr hb e he=>by
  refine⟨n+k,he,?_,by omega,hb⟩;have h4:x<2 ^ n*(k+1):=by
   have:=Nat.lt_mul_div_succ x (Nat.pow_pos (n:=n) (show 0<2 by decide));rw[h1]at this;exact this
  refine Nat.lt_of_lt_of_le h4 ?_;rw[Nat.pow_add];exact Nat.mul_le_mul_left _ (by match k,h2 with | 0,_=>decide | 1,_=>decide)
 go_enter Tryz.func265,Tryz.ntmps265;go_wp2_with fail
 go_loopw [4,3,0] (fun sv nv xv wr=>∃ s n k:Nat,sv= .int .i64 s/\nv= .int .i64 n/\xv= .int .u64 k/\x/2 ^ n=k/\Below w.heap.size w wr/\k<18446744073709551616/\((s=32/\n=0)\/(s=16/\n<=32/\k<4294967296)\/(s=8/\n<=48/\k<65536)\/(s=4/\n<=56/\k<256)\/(s=2/\n<=60/\k<16)\/(s=1/\n<=62/\k<4)\/(s=0/\n<=63/\k<2))) (fun sv _ _ _=>(intOf sv).toNat)
 case atStart=>exact⟨32,0,x,rfl,rfl,rfl,by simp,Below.refl _ _,hx,.inl ⟨rfl,rfl⟩⟩
 case round =>
  obtain⟨s,n,k,rfl,rfl,rfl,hk,hb,hk64,hs⟩:=hrel;have HB:=zh hb;have HK:=zh hk;have HS:=zh hs;clear hk hs hb;rcases HS.out with⟨rfl,rfl⟩ | ⟨rfl,hn,hk2⟩ | ⟨rfl,hn,hk2⟩ | ⟨rfl,hn,hk2⟩ | ⟨rfl,hn,hk2⟩ | ⟨rfl,hn,hk2⟩ | ⟨rfl,hn,hk2⟩
  ·by_cases hz:k/4294967296=0
   ·have hd:(((k:Nat):Int)/4294967296==0)=true:=beq_iff_eq.2 (by omega);have hd2:(((k:Nat):Int)/4294967296 != 0)=false:=by rw[bne,hd];rfl
    have HZ:=zh hz;clear hz;go_wp2_with fail;go_roundw
    case rel=>exact⟨16,0,k,by go_num,rfl,rfl,HK.out,HB.out,hk64,.inr (.inl ⟨by omega,by omega,by have:=HZ.out;omega⟩)⟩
    case measure=>simp[intOf]
   ·have hd:(((k:Nat):Int)/4294967296==0)=false:=beq_eq_false_iff_ne.2 (by omega);have hd2:(((k:Nat):Int)/4294967296 != 0)=true:=by rw[bne,hd];rfl
    have HZ:=zh hz;clear hz;go_wp2_with fail
    go_region
    all_goals
     go_wp2_with fail;go_roundw
     case rel=>exact⟨16,0+32,k/4294967296,by go_num,by go_num,rfl,z81 HK.out,z0h HB.out,by omega,.inr (.inl ⟨by omega,by omega,by have:=HZ.out;omega⟩)⟩
     case measure=>simp[intOf]
  ·by_cases hz:k/65536=0
   ·have hd:(((k:Nat):Int)/65536==0)=true:=beq_iff_eq.2 (by omega);have hd2:(((k:Nat):Int)/65536 != 0)=false:=by rw[bne,hd];rfl
    have HZ:=zh hz;clear hz;go_wp2_with fail;go_roundw
    case rel=>exact⟨8,n,k,by go_num,rfl,rfl,HK.out,HB.out,hk64,.inr (.inr (.inl ⟨by omega,by omega,by have:=HZ.out;omega⟩))⟩
    case measure=>simp[intOf]
   ·have hd:(((k:Nat):Int)/65536==0)=false:=beq_eq_false_iff_ne.2 (by omega);have hd2:(((k:Nat):Int)/65536 != 0)=true:=by rw[bne,hd];rfl
    have HZ:=zh hz;clear hz;go_wp2_with fail
    go_region
    all_goals
     go_wp2_with fail;go_roundw
     case rel=>exact⟨8,n+16,k/65536,by go_num,by go_num,rfl,z81 HK.out,z0h HB.out,by omega,.inr (.inr (.inl ⟨by omega,by omega,by have:=HZ.out;omega⟩))⟩
     case measure=>simp[intOf]
  ·by_cases hz:k/256=0
   ·have hd:(((k:Nat):Int)/256==0)=true:=beq_iff_eq.2 (by omega);have hd2:(((k:Nat):Int)/256 != 0)=false:=by rw[bne,hd];rfl
    have HZ:=zh hz;clear hz;go_wp2_with fail;go_roundw
    case rel=>exact⟨4,n,k,by go_num,rfl,rfl,HK.out,HB.out,hk64,.inr (.inr (.inr (.inl ⟨by omega,by omega,by have:=HZ.out;omega⟩)))⟩
    case measure=>simp[intOf]
   ·have hd:(((k:Nat):Int)/256==0)=false:=beq_eq_false_iff_ne.2 (by omega);have hd2:(((k:Nat):Int)/256 != 0)=true:=by rw[bne,hd];rfl
    have HZ:=zh hz;clear hz;go_wp2_with fail
    go_region
    all_goals
     go_wp2_with fail;go_roundw
     case rel=>exact⟨4,n+8,k/256,by go_num,by go_num,rfl,z81 HK.out,z0h HB.out,by omega,.inr (.inr (.inr (.inl ⟨by omega,by omega,by have:=HZ.out;omega⟩)))⟩
     case measure=>simp[intOf]
  ·by_cases hz:k/16=0
   ·have hd:(((k:Nat):Int)/16==0)=true:=beq_iff_eq.2 (by omega);have hd2:(((k:Nat):Int)/16 != 0)=false:=by rw[bne,hd];rfl
    have HZ:=zh hz;clear hz;go_wp2_with fail;go_roundw
    case rel=>exact⟨2,n,k,by go_num,rfl,rfl,HK.out,HB.out,hk64,.inr (.inr (.inr (.inr (.inl ⟨by omega,by omega,by have:=HZ.out;omega⟩))))⟩
    case measure=>simp[intOf]
   ·have hd:(((k:Nat):Int)/16==0)=false:=beq_eq_false_iff_ne.2 (by omega);have hd2:(((k:Nat):Int)/16 != 0)=true:=by rw[bne,hd];rfl
    have HZ:=zh hz;clear hz;go_wp2_with fail
    go_region
    all_goals
     go_wp2_with fail;go_roundw
     case rel=>exact⟨2,n+4,k/16,by go_num,by go_num,rfl,z81 HK.out,z0h HB.out,by omega,.inr (.inr (.inr (.inr (.inl ⟨by omega,by omega,by have:=HZ.out;omega⟩))))⟩
     case measure=>simp[intOf]
  ·by_cases hz:k/4=0
   ·have hd:(((k:Nat):Int)/4==0)=true:=beq_iff_eq.2 (by omega);have hd2:(((k:Nat):Int)/4 != 0)=false:=by rw[bne,hd];rfl
    have HZ:=zh hz;clear hz;go_wp2_with fail;go_roundw
    case rel=>exact⟨1,n,k,by go_num,rfl,rfl,HK.out,HB.out,hk64,.inr (.inr (.inr (.inr (.inr (.inl ⟨by omega,by omega,by have:=HZ.out;omega⟩)))))⟩
    case measure=>simp[intOf]
   ·have hd:(((k:Nat):Int)/4==0)=false:=beq_eq_false_iff_ne.2 (by omega);have hd2:(((k:Nat):Int)/4 != 0)=true:=by rw[bne,hd];rfl
    have HZ:=zh hz;clear hz;go_wp2_with fail
    go_region
    all_goals
     go_wp2_with fail;go_roundw
     case rel=>exact⟨1,n+2,k/4,by go_num,by go_num,rfl,z81 HK.out,z0h HB.out,by omega,.inr (.inr (.inr (.inr (.inr (.inl ⟨by omega,by omega,by have:=HZ.out;omega⟩)))))⟩
     case measure=>simp[intOf]
  ·by_cases hz:k/2=0
   ·have hd:(((k:Nat):Int)/2==0)=true:=beq_iff_eq.2 (by omega);have hd2:(((k:Nat):Int)/2 != 0)=false:=by rw[bne,hd];rfl
    have HZ:=zh hz;clear hz;go_wp2_with fail;go_roundw
    case rel=>exact⟨0,n,k,by go_num,rfl,rfl,HK.out,HB.out,hk64,.inr (.inr (.inr (.inr (.inr (.inr (⟨by omega,by omega,by have:=HZ.out;omega⟩))))))⟩
    case measure=>simp[intOf]
   ·have hd:(((k:Nat):Int)/2==0)=false:=beq_eq_false_iff_ne.2 (by omega);have hd2:(((k:Nat):Int)/2 != 0)=true:=by rw[bne,hd];rfl
    have HZ:=zh hz;clear hz;go_wp2_with fail
    go_region
    all_goals
     go_wp2_with fail;go_roundw
     case rel=>exact⟨0,n+1,k/2,by go_num,by go_num,rfl,z81 HK.out,z0h HB.out,by omega,.inr (.inr (.inr (.inr (.inr (.inr (⟨by omega,by omega,by have:=HZ.out;omega⟩))))))⟩
     case measure=>simp[intOf]
  ·have HKK:=zh (HE.out k n HK.out hk2 hn wr HB.out);go_wp2_with fail;go_ret;exact HKK.out _ (by rfl)
theorem zbl(x:W4)(hx:x.Ok)(w:World):Calls Tryz.prog 247 #[uV x] w (zkm (uN x) 256 w):=by
 have hlt:=z2i hx;have hle:=zsp x;have hb0:=z00 (Below.refl _ w) (.cells (uL x) 24);have hrow:=heap_alloc_new w (.cells (uL x) 24);obtain⟨q0,q1,q2,q3,_⟩:=row4 hrow;have HU:Hid (Calls Tryz.prog 264 #[uV x] (w.alloc (.cells (uL x) 24)) fun e w'=>e= .returned (.int .i64 (z8l x))/\Below w.heap.size w w'/\w'.heap[w.heap.size]?=some (.cells (uL x) 24 (0,0))):=(ztq x _).mono fun e w' ⟨he,hb⟩=>⟨he,newRow x hb⟩
 have HL:Hid (∀ k W,z8l x=k+1->Below w.heap.size w W->Calls Tryz.prog 265 #[.int .u64 (x.at k)] W fun e w'=>∃ b:Nat,e= .returned (.int .i64 b)/\b<=64/\Below w.heap.size w w'/\uN x<2 ^ (64*k+b)):=fun k W hk hb=>(zlj _ (hx.at k) W).mono fun e w' ⟨b,he,h1,h2,h3⟩=>⟨b,he,h2,z0b hb h3,by
  have h4:=zh9 x;rw[hk]at h4;have h5:dLow 18446744073709551616 x.at k<18446744073709551616 ^ k:=zni (fun j=>hx.at j) k;rw[<- h4,show dLow 18446744073709551616 x.at (k+1)=dLow 18446744073709551616 x.at k+18446744073709551616 ^ k*x.at k from rfl,Nat.pow_add,<- zjs]
  have h6:18446744073709551616 ^ k*(x.at k+1)<=18446744073709551616 ^ k*2 ^ b:=Nat.mul_le_mul_left _ h1;rw[Nat.mul_add]at h6
  omega⟩
 have H0:Hid (z8l x=0->uN x<2 ^ 0):=fun h=>by
  have:=zh9 x;rw[h]at this;rw[<- this];show 0<1;decide
 clear hrow hb0 hlt;generalize hn:z8l x=n at *
 cases n with
 | zero =>
  have HZ:=zh (H0.out rfl);clear H0 HL hn hle;go_enter Tryz.func247,Tryz.ntmps247;go_wp2_with fail;refine zm HU.out ?_;rintro e w1 ⟨rfl,hb1,_⟩;have HB1:=zh hb1;clear hb1 HU;go_wp2_with fail;go_ret;exact⟨0,rfl,HZ.out,by omega,HB1.out⟩
 | succ k =>
  have hz:(((k+1:Nat):Int)==0)=false:=beq_eq_false_iff_ne.2 (by omega);have hz2:IntKind.i64.wrap (((k+1:Nat):Int)-1)=(k:Int):=by rw[IntKind.wrap_i64];omega
  have hlt:k<4:=by omega
  have HL1:=zh (fun W hb=>HL.out k W rfl hb);clear HL H0 hn;go_enter Tryz.func247,Tryz.ntmps247;go_wp2_with fail;refine zm HU.out ?_;rintro e w1 ⟨rfl,hb1,hrow⟩;have cA:w1.cell? ⟨w.heap.size,k,none⟩=some (.int .u64 (x.at k)):=by rw[cell_of_row _ _ _ _ _ _ hrow];exact z4v x k hlt
  have HL2:=zh (HL1.out w1 hb1);clear hb1 HU hrow HL1;go_wp2_with fail;refine zm HL2.out ?_;rintro e w2 ⟨b,rfl,hb,hb2,hN⟩;have HB2:=zh hb2;have HN:=zh hN;clear hb2 hN HL2;go_wp2_with fail;go_ret;exact⟨64*k+b,by first | rfl | go_num,HN.out,by omega,HB2.out⟩
def dblC(x:W4)(b:Nat):Nat->Nat
 | 0=>b
 | k+1=>x.at k/9223372036854775808
def dblW(x:W4)(b:Nat):Nat->W4
 | 0=>x
 | k+1=>(dblW x b k).set k (x.at k*2%18446744073709551616+dblC x b k)
theorem zj2{x:W4}(hx:x.Ok){b:Nat}(hb:b<=1):∀ k,dblC x b k<=1
 | 0=>hb
 | k+1=>by have:=hx.at k;show x.at k/9223372036854775808<=1;omega
theorem za7{x:W4}(hx:x.Ok){b:Nat}(hb:b<=1):(dblW x b 4).Ok/\uN (dblW x b 4)+115792089237316195423570985008687907853269984665640564039457584007913129639936*dblC x b 4=2*uN x+b:=by
 obtain⟨x0,x1,x2,x3⟩:=x;obtain⟨h0,h1,h2,h3⟩:=hx;simp only[dblW,dblC,W4.set,W4.at,W4.Ok,uN]at *
 omega
theorem zvl(x:W4)(b k:Nat):∀ j,j<4->k<=j->(dblW x b k).at j=x.at j:=by
 induction k with
 | zero=>intro j _ _;rfl
 | succ k ih =>
  intro j hj hkj;rw[dblW,z7m _ _ _ _ (by omega) hj,if_neg (by omega)];exact ih j hj (by omega)
theorem or_bit{x b:Nat}(hb:b<=1):bits .or .u64 (IntKind.u64.wrap ((x:Int)*2)) (b:Int)=((x*2%18446744073709551616+b:Nat):Int):=by
 have hw:IntKind.u64.wrap ((x:Int)*2)=((x*2%18446744073709551616:Nat):Int):=by rw[IntKind.wrap_u64];omega
 rw[hw,bits_or_u64_nat _ _ (by omega) (by omega)];congr 1;have e:x*2%18446744073709551616=2 ^ 1*(x%9223372036854775808):=by omega
 rw[e,<- Nat.two_pow_add_eq_or_of_lt (by omega)]
structure DAt (w:World) (x o:W4) (wr:World):Prop where
 b:Below w.heap.size w wr
 o:wr.heap[w.heap.size]?=some (.cells (uL o) 24 (0,0))
 r:wr.heap[w.heap.size+1]?=some (.cells (uL (0,0,0,0)) 24 (0,0))
theorem DAt.start(w:World)(x:W4):DAt w x x ((w.alloc (.cells (uL x) 24)).alloc (.cells (uL (0,0,0,0)) 24)):=by
 refine⟨z00 (z00 zb _) _,?_,?_⟩
 ·rw[heap_alloc_old _ _ (by simp)];exact heap_alloc_new w _
 ·have:=heap_alloc_new (w.alloc (.cells (uL x) 24)) (.cells (uL (0,0,0,0)) 24)
  rwa [World.size_alloc]at this
theorem DAt.drew{w wr:World}{x o:W4}(h:DAt w x o wr):DAt w x o wr.drew:=⟨z0h h.b,h.o,h.r⟩
theorem DAt.put{w wr:World}{x o:W4}(h:DAt w x o wr)(k v:Nat)(hk:k<4):DAt w x (o.set k v) (wr.setCell ⟨w.heap.size,k,none⟩ (.int .u64 v)):=by
 refine⟨h.b.setCell (p:=⟨w.heap.size,k,none⟩) (by simp) _,?_,by rw[Below.heap_setCell _ _ _ _ (by simp)];exact h.r⟩;rw[<- z9j o k v hk];exact heap_setCell_same _ _ _ _ _ _ h.o
theorem z8a(x:W4)(b:Nat)(hx:x.Ok)(hb:b<=1)(w:World):Calls Tryz.prog 248 #[uV x,.int .u64 b] w fun e w'=>e= .returned (.tuple #[uV (dblW x b 4),.int .u64 (dblC x b 4)])/\Below w.heap.size w w':=by
 have H0:=zh (DAt.start w x);have HN:Hid (∀ k wr,k<4->DAt w x (dblW x b k) wr->DAt w x (dblW x b (k+1)) (wr.setCell ⟨w.heap.size,k,none⟩ (.int .u64 ((x.at k*2%18446744073709551616+dblC x b k:Nat):Int)))):=fun k wr hk h=>h.put k _ hk
 have HC:=zh (zj2 hx hb);have HCS:Hid (∀ k,dblC x b (k+1)=x.at k/9223372036854775808):=fun k=>rfl
 go_enter Tryz.func248,Tryz.ntmps248;go_wp2_with fail
 go_loopw [8,1] (fun iv cv wr=>∃ k:Nat,iv= .int .i64 k/\k<=4/\cv= .int .u64 (dblC x b k)/\DAt w x (dblW x b k) wr) (fun iv _ _=>4-(intOf iv).toNat)
 case atStart=>exact⟨0,rfl,by omega,rfl,H0.out⟩
 case round =>
  obtain⟨k,rfl,hk,rfl,hA⟩:=hrel;have HA:=zh hA;clear hA H0
  by_cases hlt:k<4
  ·have cA:wr.cell? ⟨w.heap.size,k,none⟩=some (.int .u64 (x.at k)):=by rw[cell_of_row _ _ _ _ _ _ HA.out.o,z4v _ k hlt,zvl x b k k hlt (Nat.le_refl _)]
   have fA:wr.frozen? ⟨w.heap.size,k,none⟩=false:=frozen_of_row _ _ _ _ _ HA.out.o;have HO:=zh (or_bit (x:=x.at k) (HC.out k));have HN1:=zh (HN.out k wr hlt HA.out);have HC1:=zh (HCS.out k);go_wp2_with fail;go_roundw
   case rel=>exact⟨k+1,by go_num,by omega,by rw[HC1.out];rfl,by rw[HO.out];exact HN1.out⟩
   case measure=>simp[intOf];omega
  ·obtain rfl:k=4:=by omega
   obtain⟨o0,o1,o2,o3,_⟩:=row4 HA.out.o;obtain⟨_,_,_,_,r0,r1,r2,r3⟩:=row4 HA.out.r;clear HN HC HCS;go_wp2_with fail;refine bodyPost_ret (z03 rfl _ _ (w.heap.size+1) 24 (uL (dblW x b 4)) (0,0) _ rfl (put4 HA.out.r _) Tryz.underlying24 rfl (by kernel_rfl)) rfl ?_;exact⟨rfl,z0f HA.out.b (by omega) _ _ _ _⟩
def wrpW(x y:W4):Nat->W4
 | 0=>x
 | k+1=>(wrpW x y k).set k (subS (x.at k) (y.at k) (z1l subS subC x y k).1)
theorem zj3(x y:W4)(k:Nat):∀ j,j<4->k<=j->(wrpW x y k).at j=x.at j:=by
 induction k with
 | zero=>intro j _ _;rfl
 | succ k ih =>
  intro j hj hkj;rw[wrpW,z7m _ _ _ _ (by omega) hj,if_neg (by omega)];exact ih j hj (by omega)
theorem zum(x y:W4):wrpW x y 4=z3s x y:=rfl
theorem wrap_any(x y:W4)(hx:x.Ok)(hy:y.Ok)(w:World):Calls Tryz.prog 249 #[uV x,uV y] w fun e w'=>e= .returned (uV (z3s x y))/\Below w.heap.size w w':=by
 have H0:=zh (MAt.start w x y);have HC:Hid (∀ k w1,Calls Tryz.prog 144 #[.int .u64 (x.at k),.int .u64 (y.at k),.int .u64 (z1l subS subC x y k).1] w1 fun e w'=>e= .returned (.tuple #[.int .u64 (subS (x.at k) (y.at k) (z1l subS subC x y k).1),.int .u64 (z1l subS subC x y (k+1)).1])/\w1=w'):=fun k w1=>zaq _ _ _ (hx.at k) (hy.at k) (zbs x y k) w1
 have HN:Hid (∀ k wr,k<4->MAt w (wrpW x y k) y wr->MAt w (wrpW x y (k+1)) y (wr.setCell ⟨w.heap.size,k,none⟩ (.int .u64 (subS (x.at k) (y.at k) (z1l subS subC x y k).1)))):=fun k wr hk h=>by
  refine⟨h.b.setCell (p:=⟨w.heap.size,k,none⟩) (by simp) _,?_,by rw[Below.heap_setCell _ _ _ _ (by simp)];exact h.y,by rw[Below.heap_setCell _ _ _ _ (by simp)];exact h.r⟩;rw[wrpW,<- z9j _ k _ hk];exact heap_setCell_same _ _ _ _ _ _ h.x
 go_enter Tryz.func249,Tryz.ntmps249;go_wp2_with fail
 go_loopw [7,5] (fun iv cv wr=>∃ k:Nat,iv= .int .i64 k/\k<=4/\cv= .int .u64 (z1l subS subC x y k).1/\MAt w (wrpW x y k) y wr) (fun iv _ _=>4-(intOf iv).toNat)
 case atStart=>exact⟨0,rfl,by omega,rfl,H0.out⟩
 case round =>
  obtain⟨k,rfl,hk,rfl,hA⟩:=hrel;have HA:=zh hA;clear hA H0
  by_cases hlt:k<4
  ·have cA:wr.cell? ⟨w.heap.size,k,none⟩=some (.int .u64 (x.at k)):=by rw[cell_of_row _ _ _ _ _ _ HA.out.x,z4v _ k hlt,zj3 x y k k hlt (Nat.le_refl _)]
   have cB:wr.cell? ⟨w.heap.size+1,k,none⟩=some (.int .u64 (y.at k)):=by rw[cell_of_row _ _ _ _ _ _ HA.out.y];exact z4v y k hlt
   have fA:wr.frozen? ⟨w.heap.size,k,none⟩=false:=frozen_of_row _ _ _ _ _ HA.out.x;have HN1:=zh (HN.out k _ hlt (HA.out.below (z0h zb)));go_wp2_with fail
   go_region_with (go_at_call 144;refine(HC.out k _).mono ?_;rintro e w' ⟨rfl,rfl⟩)
   all_goals
    go_wp2_with fail;go_roundw
    case rel=>exact⟨k+1,by go_num,by omega,rfl,HN1.out⟩
    case measure=>simp[intOf];omega
  ·obtain rfl:k=4:=by omega
   obtain⟨o0,o1,o2,o3,_⟩:=row4 HA.out.x;obtain⟨_,_,_,_,r0,r1,r2,r3⟩:=row4 HA.out.r;clear HN HC;go_wp2_with fail;refine bodyPost_ret (results_cell_row rfl _ _ (w.heap.size+2) 24 (uL (wrpW x y 4)) (0,0) _ rfl (put4 HA.out.r _) Tryz.underlying24 rfl (by kernel_rfl)) rfl ?_;exact⟨rfl,z0f HA.out.b (by omega) _ _ _ _⟩
def smR(x:W4)(d k:Nat):Nat:=uN x/18446744073709551616 ^ k%d
def smW(x:W4)(d:Nat):Nat->W4
 | 0=>x
 | n+1=>(smW x d n).set (3-n) ((smR x d (4-n)*18446744073709551616+x.at (3-n))/d)
theorem zyq(x:W4)(d n:Nat):∀ j,j+n<4->(smW x d n).at j=x.at j:=by
 induction n with
 | zero=>intro j _;rfl
 | succ n ih =>
  intro j hj;rw[smW,z7m _ _ _ _ (by omega) (by omega),if_neg (by omega)];exact ih j (by omega)
theorem zxj{x:W4}(hx:x.Ok)(k:Nat)(hk:k<4):uN x/18446744073709551616 ^ k=(uN x/18446744073709551616 ^ (k+1))*18446744073709551616+x.at k:=by
 have h:x.at k=uN x/18446744073709551616 ^ k%18446744073709551616:=by
  rw[<- zkb _ k hk,zn0 hx]
 rw[h,Nat.pow_succ,<- Nat.div_div_eq_div_mul];generalize uN x/18446744073709551616 ^ k=m;omega
theorem zxo(H d r u v:Nat)(hd:0<d)(hr:r<d)(hu:u<H)(hv:v<H):(r*H+u)/d<H/\((r*H+u)%d*H+v)/d<H/\(r*H+u)/d*H+((r*H+u)%d*H+v)/d=((r*H+u)*H+v)/d/\((r*H+u)%d*H+v)%d=((r*H+u)*H+v)%d:=by
 have hb:∀ a b,a<d->b<H->(a*H+b)/d<H:=fun a b ha hb=>by
  rw[Nat.div_lt_iff_lt_mul hd];have h1:(a+1)*H<=d*H:=Nat.mul_le_mul_right _ ha;rw[Nat.add_mul,Nat.one_mul]at h1;rw[Nat.mul_comm H];omega
 have h1:=Nat.div_add_mod (r*H+u) d;have h2:=Nat.mod_lt (r*H+u) hd;refine⟨hb r u hr hu,hb _ v h2 hv,?_⟩;generalize r*H+u=a at *
 generalize a/d=q at *
 generalize a%d=s at *
 have e:a*H+v=d*(q*H)+(s*H+v):=by
  rw[<- h1,Nat.add_mul,Nat.mul_assoc];omega
 rw[e];exact⟨by rw[Nat.mul_add_div hd],by rw[Nat.mul_add_mod]⟩
theorem zvj{d r w:Nat}(hd:0<d)(hr:r<d)(hw:w<18446744073709551616) :
  (r*4294967296+w/4294967296)/d<4294967296/\((r*4294967296+w/4294967296)%d*4294967296+w%4294967296)/d<4294967296 /\
  (r*4294967296+w/4294967296)/d*4294967296+((r*4294967296+w/4294967296)%d*4294967296+w%4294967296)/d=(r*18446744073709551616+w)/d /\
  ((r*4294967296+w/4294967296)%d*4294967296+w%4294967296)%d=(r*18446744073709551616+w)%d:=by
 have h:=zxo 4294967296 d r (w/4294967296) (w%4294967296) hd hr (by omega) (by omega);have e:(r*4294967296+w/4294967296)*4294967296+w%4294967296=r*18446744073709551616+w:=by omega
 rw[e]at h;exact h
theorem zym(B m d a:Nat):(m*B+a)%d=(m%d*B+a)%d/\(m*B+a)/d=m/d*B+(m%d*B+a)/d:=by
 by_cases hd:d=0
 ·subst hd;simp
 ·have h:=Nat.div_add_mod m d;have e:m*B+a=d*(m/d*B)+(m%d*B+a):=by
   have h2:=congrArg (· * B) h;simp only[Nat.add_mul,Nat.mul_assoc]at h2;omega
  have e1:(m*B+a)%d=(d*(m/d*B)+(m%d*B+a))%d:=by rw[<- e]
  have e2:(m*B+a)/d=(d*(m/d*B)+(m%d*B+a))/d:=by rw[<- e]
  rw[e1,e2];exact⟨by rw[Nat.mul_add_mod],by rw[Nat.mul_add_div (by omega)]⟩
theorem zv2{d r w B:Nat}(hd:0<d)(hr:r<d)(hw:w<B):(r*B+w)/d<B:=by
 rw[Nat.div_lt_iff_lt_mul hd];have h1:(r+1)*B<=d*B:=Nat.mul_le_mul_right _ hr;rw[Nat.add_mul,Nat.one_mul]at h1;rw[Nat.mul_comm B];omega
theorem z9y{x:W4}(hx:x.Ok)(d k:Nat)(hk:k<4):smR x d k=(smR x d (k+1)*18446744073709551616+x.at k)%d /\
  uN x/18446744073709551616 ^ k/d=(uN x/18446744073709551616 ^ (k+1)/d)*18446744073709551616+(smR x d (k+1)*18446744073709551616+x.at k)/d:=by
 unfold smR;rw[zxj hx k hk];exact zym _ _ _ _
theorem zzf{x:W4}(hx:x.Ok){d:Nat}(hd:0<d):smW x d 4=uOf (uN x/d)/\smR x d 0=uN x%d:=by
 have hm:∀ k,smR x d k<d:=fun k=>Nat.mod_lt _ hd
 have hq:∀ k,k<4->(smR x d (k+1)*18446744073709551616+x.at k)/d<18446744073709551616:=fun k _=>zv2 hd (hm (k+1)) (hx.at k)
 have s0:uN x/18446744073709551616 ^ 0/d=(uN x/18446744073709551616 ^ 1/d)*18446744073709551616+(smR x d 1*18446744073709551616+x.at 0)/d:=(z9y hx d 0 (by omega)).2;have s1:uN x/18446744073709551616 ^ 1/d=(uN x/18446744073709551616 ^ 2/d)*18446744073709551616+(smR x d 2*18446744073709551616+x.at 1)/d:=(z9y hx d 1 (by omega)).2;have s2:uN x/18446744073709551616 ^ 2/d=(uN x/18446744073709551616 ^ 3/d)*18446744073709551616+(smR x d 3*18446744073709551616+x.at 2)/d:=(z9y hx d 2 (by omega)).2;have s3:uN x/18446744073709551616 ^ 3/d=(uN x/18446744073709551616 ^ 4/d)*18446744073709551616+(smR x d 4*18446744073709551616+x.at 3)/d:=(z9y hx d 3 (by omega)).2;have q0:(smR x d 1*18446744073709551616+x.at 0)/d<18446744073709551616:=hq 0 (by omega);have q1:(smR x d 2*18446744073709551616+x.at 1)/d<18446744073709551616:=hq 1 (by omega);have q2:(smR x d 3*18446744073709551616+x.at 2)/d<18446744073709551616:=hq 2 (by omega);have q3:(smR x d 4*18446744073709551616+x.at 3)/d<18446744073709551616:=hq 3 (by omega);have h4:uN x/18446744073709551616 ^ 4=0:=by
  have:=z2i hx;rw[show(18446744073709551616:Nat) ^ 4=115792089237316195423570985008687907853269984665640564039457584007913129639936 by decide]
  omega
 rw[h4,Nat.zero_div]at s3;have hz:uN x/18446744073709551616 ^ 0=uN x:=by rw[Nat.pow_zero,Nat.div_one]
 rw[hz]at s0;refine⟨?_,by unfold smR;rw[hz]⟩;have e:smW x d 4=((smR x d 1*18446744073709551616+x.at 0)/d,(smR x d 2*18446744073709551616+x.at 1)/d,(smR x d 3*18446744073709551616+x.at 2)/d,(smR x d 4*18446744073709551616+x.at 3)/d):=by
  simp only[smW,W4.set];rfl
 rw[e];refine z6c ⟨q0,q1,q2,q3⟩ (z1y _) ?_;have hlt:=z2i hx;have hle:uN x/d<=uN x:=Nat.div_le_self _ _;rw[z5f (by omega)];clear hm hq h4 hz hlt hle;obtain⟨w0,e0⟩:∃ w0,w0=(smR x d 1*18446744073709551616+x.at 0)/d:=⟨_,rfl⟩;rw[<- e0]at s0 q0 ⊢;clear e0;obtain⟨w1,e1⟩:∃ w1,w1=(smR x d 2*18446744073709551616+x.at 1)/d:=⟨_,rfl⟩;rw[<- e1]at s1 q1 ⊢;clear e1;obtain⟨w2,e2⟩:∃ w2,w2=(smR x d 3*18446744073709551616+x.at 2)/d:=⟨_,rfl⟩;rw[<- e2]at s2 q2 ⊢;clear e2;obtain⟨w3,e3⟩:∃ w3,w3=(smR x d 4*18446744073709551616+x.at 3)/d:=⟨_,rfl⟩;rw[<- e3]at s3 q3 ⊢;clear e3;rw[s0,s1,s2,s3];show w0+18446744073709551616*(w1+18446744073709551616*(w2+18446744073709551616*w3))=_
 omega
theorem zj4{n:Nat}(h:n<18446744073709551616):IntKind.u64.wrap (n:Int)=(n:Int):=by rw[IntKind.wrap_u64];omega
theorem or_hi{q p:Nat}(hq:q<4294967296)(hp:p<4294967296):bits .or .u64 (IntKind.u64.wrap ((q:Int)*4294967296)) (p:Int)=((q*4294967296+p:Nat):Int):=by
 rw[zus hp,Nat.mod_eq_of_lt hq]
theorem zqv(x:W4)(d:Nat)(hx:x.Ok)(hd:0<d)(hd32:d<4294967296)(w:World):Calls Tryz.prog 246 #[uV x,.int .u64 d] w fun e w'=>e= .returned (.tuple #[uV (uOf (uN x/d)),.int .u64 ((uN x%d:Nat):Int)])/\Below w.heap.size w w':=by
 have H0:=zh (DAt.start w x);have hE:=zzf hx hd;rw[<- hE.1,<- hE.2];have HN:Hid (∀ n wr,n<4->DAt w x (smW x d n) wr->DAt w x (smW x d (n+1)) (wr.setCell ⟨w.heap.size,3-n,none⟩ (.int .u64 ((smR x d (4-n)*18446744073709551616+x.at (3-n))/d:Nat)))):=fun n wr hn h=>h.put (3-n) _ (by omega)
 have HS:Hid (∀ k,k<4->smR x d k=(smR x d (k+1)*18446744073709551616+x.at k)%d):=fun k hk=>(z9y hx d k hk).1
 have HR:Hid (∀ k,smR x d k<d):=fun k=>Nat.mod_lt _ hd
 have H40:Hid (smR x d 4=0):=by
  unfold smR;have:=z2i hx;rw[show(18446744073709551616:Nat) ^ 4=115792089237316195423570985008687907853269984665640564039457584007913129639936 by decide,Nat.div_eq_of_lt this,Nat.zero_mod]
  exact zh rfl
 clear hE;go_enter Tryz.func246,Tryz.ntmps246;go_wp2_with fail
 go_loopw [7,6] (fun iv cv wr=>∃ n:Nat,iv= .int .i64 (3-(n:Int))/\n<=4/\cv= .int .u64 (smR x d (4-n))/\DAt w x (smW x d n) wr) (fun iv _ _=>(intOf iv+1).toNat)
 case atStart=>exact⟨0,rfl,by omega,by rw[H40.out];rfl,H0.out⟩
 case round =>
  obtain⟨n,rfl,hn,rfl,hA⟩:=hrel;have HA:=zh hA;clear hA H0
  by_cases hlt:n<4
  ·obtain⟨k,hk⟩:∃ k,k=3-n:=⟨_,rfl⟩;have hkn:(3:Int)-(n:Int)=(k:Int):=by omega
   have hk4:4-n=k+1:=by omega
   have hk3:3-n=k:=by omega
   have hkl:k<4:=by omega
   have cA:wr.cell? ⟨w.heap.size,k,none⟩=some (.int .u64 (x.at k)):=by rw[cell_of_row _ _ _ _ _ _ HA.out.o,z4v _ k hkl,zyq x d n k (by omega)]
   have fA:wr.frozen? ⟨w.heap.size,k,none⟩=false:=frozen_of_row _ _ _ _ _ HA.out.o;have HN1:=HN.out n wr hlt HA.out;rw[hk3,hk4]at HN1;have HN1:=zh HN1;have HS1:=zh (HS.out k hkl);have HR1:=HR.out (k+1);have hw:=hx.at k;obtain⟨z3,z4,z5,z6⟩:=zvj hd HR1 hw;rw[hkn,hk4];have e1:bits .or .u64 (IntKind.u64.wrap (((smR x d (k+1):Nat):Int)*4294967296)) (((x.at k:Nat):Int)/4294967296)=((smR x d (k+1)*4294967296+x.at k/4294967296:Nat):Int):=or_hi (q:=smR x d (k+1)) (p:=x.at k/4294967296) (by omega) (by omega);have hmd:(smR x d (k+1)*4294967296+x.at k/4294967296)%d<4294967296:=by have:=Nat.mod_lt (smR x d (k+1)*4294967296+x.at k/4294967296) hd;omega
   have e2:bits .or .u64 (IntKind.u64.wrap (((smR x d (k+1)*4294967296+x.at k/4294967296:Nat):Int)%((d:Nat):Int)*4294967296)) (bits .and .u64 ((x.at k:Nat):Int) 4294967295)=(((smR x d (k+1)*4294967296+x.at k/4294967296)%d*4294967296+x.at k%4294967296:Nat):Int):=by
    rw[zcx hw];exact or_hi (q:=(smR x d (k+1)*4294967296+x.at k/4294967296)%d) (p:=x.at k%4294967296) hmd (by omega)
   have e3:bits .or .u64 (IntKind.u64.wrap (((smR x d (k+1)*4294967296+x.at k/4294967296:Nat):Int)/((d:Nat):Int)*4294967296)) ((((smR x d (k+1)*4294967296+x.at k/4294967296)%d*4294967296+x.at k%4294967296:Nat):Int)/((d:Nat):Int))=(((smR x d (k+1)*18446744073709551616+x.at k)/d:Nat):Int):=by
    rw[<- z5];exact or_hi (q:=(smR x d (k+1)*4294967296+x.at k/4294967296)/d) (p:=((smR x d (k+1)*4294967296+x.at k/4294967296)%d*4294967296+x.at k%4294967296)/d) z3 z4
   have e6:((((smR x d (k+1)*4294967296+x.at k/4294967296)%d*4294967296+x.at k%4294967296:Nat):Int)%((d:Nat):Int))=((smR x d k:Nat):Int):=by rw[HS1.out,<- z6];rfl
   obtain⟨a1,hA1⟩:∃ a1,a1=smR x d (k+1)*4294967296+x.at k/4294967296:=⟨_,rfl⟩;rw[<- hA1]at e1 e2 e3 e6;obtain⟨a2,hA2⟩:∃ a2,a2=a1%d*4294967296+x.at k%4294967296:=⟨_,rfl⟩;rw[<- hA2]at e2 e3 e6;have wq:∀ q:Nat,q<4294967296->IntKind.u64.wrap ((q:Int)*4294967296)=(q:Int)*4294967296:=fun q hq=>by rw[IntKind.wrap_u64];omega
   have e1b:=e1;rw[wq _ (by omega)]at e1b;have hmd2:a1%d<4294967296:=by rw[hA1];exact hmd
   have hqd2:a1/d<4294967296:=by rw[hA1];exact z3
   have e2b:=e2;rw[show((a1:Nat):Int)%((d:Nat):Int)=((a1%d:Nat):Int)from rfl,wq _ hmd2]at e2b
   have e3b:=e3;rw[show((a1:Nat):Int)/((d:Nat):Int)=((a1/d:Nat):Int)from rfl,wq _ hqd2]at e3b
   have e2c:bits .or .u64 (((a1:Nat):Int)%((d:Nat):Int)*4294967296) (bits .and .u64 ((x.at k:Nat):Int) 4294967295)=(a2:Int):=e2b;have e3c:bits .or .u64 (((a1:Nat):Int)/((d:Nat):Int)*4294967296) (((a2:Nat):Int)/((d:Nat):Int))=(((smR x d (k+1)*18446744073709551616+x.at k)/d:Nat):Int):=e3b;have w1:IntKind.u64.wrap (((a1:Nat):Int)/((d:Nat):Int))=((a1:Nat):Int)/((d:Nat):Int):=zj4 (n:=a1/d) (Nat.lt_of_lt_of_le hqd2 (by decide));have w2:IntKind.u64.wrap (((a2:Nat):Int)/((d:Nat):Int))=((a2:Nat):Int)/((d:Nat):Int):=by
    have:a2/d<4294967296:=by rw[hA2,hA1];exact z4
    exact zj4 (n:=a2/d) (Nat.lt_of_lt_of_le this (by decide))
   have e4:bits .or .u64 (IntKind.u64.wrap (IntKind.u64.wrap (((a1:Nat):Int)/((d:Nat):Int))*4294967296)) (IntKind.u64.wrap (((a2:Nat):Int)/((d:Nat):Int)))=(((smR x d (k+1)*18446744073709551616+x.at k)/d:Nat):Int):=by
    rw[w1,w2];exact e3
   have E4:=zh e4;clear e2b e3b e3c wq hmd2 hqd2 w1 w2 e4;have HZ6:=zh e6;have HKN:Hid (k=3-n/\n<4):=⟨hk,hlt⟩;have hk0:decide ((0:Int)<=(k:Int))=true:=decide_eq_true (by omega);have hdne:(((d:Nat):Int)==0)=false:=beq_eq_false_iff_ne.2 (by omega);have hdn2:¬ ((d:Nat):Int)=0:=by omega
   clear hk hkn hk3 hk4 hlt hn z3 z4 z5 z6 hA1 hA2 hmd HS1 e3 e6 HN HS;go_wp2_with fail
   go_region
   all_goals
    go_wp2_with fail
    go_region
    all_goals
     go_wp2_with fail;go_roundw
     case rel=>exact⟨n+1,by have:=HKN.out;first | (rw[this.1];go_num)|(go_num;omega),by have:=HKN.out;omega,by rw[HZ6.out];have:=HKN.out;rw[show 4-(n+1)=k by omega],by rw[E4.out];exact HN1.out.drew.drew⟩
     case measure=>simp[intOf]
  ·obtain rfl:n=4:=by omega
   obtain⟨o0,o1,o2,o3,_⟩:=row4 HA.out.o;obtain⟨_,_,_,_,r0,r1,r2,r3⟩:=row4 HA.out.r;clear HN HS HR;go_wp2_with fail;refine bodyPost_ret (z03 rfl _ _ (w.heap.size+1) 24 (uL (smW x d 4)) (0,0) _ rfl (put4 HA.out.r _) Tryz.underlying24 rfl (by kernel_rfl)) rfl ?_;exact⟨rfl,z0f HA.out.b (by omega) _ _ _ _⟩
end Go.Proofs.YtnkilceibkkjlaaGreat
