/- What is proved here: a wide number's bit and bits, of the -/
import Derived.Test.YtnkilceibkkjlaaGreatKDivL
set_option maxRecDepth 100000
set_option maxHeartbeats 16000000
namespace Go.Proofs.YtnkilceibkkjlaaGreat
open Go.RowKit
def wN(hi lo:W4):Nat:=uN hi*115792089237316195423570985008687907853269984665640564039457584007913129639936+uN lo
theorem z6x{w:World}{g:Nat}{hi lo:W4}(h:w.heap[g]?=some (.cells (wL hi lo) 225 (0,0))):∀ k v,(wL hi lo)[k]?=some v->w.cell? ⟨g,k,none⟩=some v:=fun k v hk=>by rw[cell_of_row _ _ _ _ _ _ h];exact hk
theorem zzg(hi lo:W4)(k:Nat)(hk:k<4):(wL hi lo)[k]?=some (.int .u64 (hi.at k)):=by
 match k,hk with
 | 0,_=>rfl
 | 1,_=>rfl
 | 2,_=>rfl
 | 3,_=>rfl
theorem zzo(hi lo:W4)(k:Nat)(hk:k<4):(wL hi lo)[k+4]?=some (.int .u64 (lo.at k)):=by
 match k,hk with
 | 0,_=>rfl
 | 1,_=>rfl
 | 2,_=>rfl
 | 3,_=>rfl
theorem M256:(115792089237316195423570985008687907853269984665640564039457584007913129639936:Nat)=2 ^ 256:=by
 rw[show(115792089237316195423570985008687907853269984665640564039457584007913129639936:Nat)=18446744073709551616 ^ 4 by decide,zjs]
theorem zw3{hi lo:W4}(hl:lo.Ok)(i:Nat)(hi2:256<=i):wN hi lo/2 ^ i%2=uN hi/2 ^ (i-256)%2:=by
 have h:=z2i hl;have e:wN hi lo/115792089237316195423570985008687907853269984665640564039457584007913129639936=uN hi:=by unfold wN;rw[Nat.mul_comm,Nat.mul_add_div (by decide),Nat.div_eq_of_lt h,Nat.add_zero]
 have p:2 ^ i=115792089237316195423570985008687907853269984665640564039457584007913129639936*2 ^ (i-256):=by
  have:=Nat.pow_add 2 256 (i-256);rw[show 256+(i-256)=i by omega,<- M256]at this
  exact this
 rw[p,<- Nat.div_div_eq_div_mul,e]
theorem zw0{hi lo:W4}(i:Nat)(hi2:i<256):wN hi lo/2 ^ i%2=uN lo/2 ^ i%2:=by
 have p:(115792089237316195423570985008687907853269984665640564039457584007913129639936:Nat)=2 ^ i*(2*2 ^ (255-i)):=by
  have h1:=Nat.pow_add 2 i (256-i);rw[show i+(256-i)=256 by omega,<- M256]at h1
  have h2:2 ^ (256-i)=2*2 ^ (255-i):=by rw[show 256-i=(255-i)+1 by omega,Nat.pow_succ,Nat.mul_comm]
  rw[<- h2];exact h1
 unfold wN;rw[p,Nat.mul_comm (uN hi),Nat.mul_assoc,Nat.mul_add_div (Nat.pow_pos (by decide)),Nat.mul_assoc,Nat.mul_add_mod]
theorem zsj(hi lo:W4)(hh:hi.Ok)(hl:lo.Ok)(i:Nat)(hi5:i<512)(w:World):Calls Tryz.prog 223 #[wV hi lo,.int .i64 i] w fun e w'=>e= .returned (.int .u64 ((wN hi lo/2 ^ i%2:Nat):Int))/\Below w.heap.size w w':=by
 have hrow:=heap_alloc_new w (.cells (wL hi lo) 225);have HB:=zh (z00 (Below.refl _ w) (.cells (wL hi lo) 225));have hc:=z6x hrow
 by_cases h256:256<=i
 ·have d1:decide ((256:Int)<=(i:Int))=true:=decide_eq_true (by omega);have cA:=hc (i/64-4) _ (zzg hi lo (i/64-4) (by omega));have hb:=zkj hh (i-256) (by omega);rw[show(i-256)/64=i/64-4 by omega,show(i-256)%64=i%64 by omega,<- zw3 hl i h256]at hb
  have hq:(i:Int)/64-4=((i/64-4:Nat):Int):=by omega
  have hq2:IntKind.i64.wrap ((i:Int)/64-4)=((i/64-4:Nat):Int):=by rw[hq,IntKind.wrap_i64];omega
  have h4:i/64-4<4:=by omega
  clear hrow hc hh hl;generalize wN hi lo/2 ^ i%2=bt at *
  generalize hi.at (i/64-4)=v at *
  generalize hqq:i/64-4=q at *
  clear hqq;go_enter Tryz.func223,Tryz.ntmps223;go_wp2_with fail;go_ret;exact⟨rfl,HB.out⟩
 ·have d1:decide ((256:Int)<=(i:Int))=false:=decide_eq_false (by omega);have cA:=hc (i/64+4) _ (zzo hi lo (i/64) (by omega));have hb:=zkj hl i (by omega);rw[<- zw0 (hi:=hi) i (by omega)]at hb;have h4:i/64<4:=by omega
  have cA2:(w.alloc (.cells (wL hi lo) 225)).cell? ⟨w.heap.size,4+i/64,none⟩=some (.int .u64 (lo.at (i/64))):=by rw[Nat.add_comm 4];exact cA
  clear hrow hc hh hl;generalize wN hi lo/2 ^ i%2=bt at *
  generalize lo.at (i/64)=v at *
  go_enter Tryz.func223,Tryz.ntmps223;go_wp2_with fail;go_ret;exact⟨rfl,HB.out⟩
theorem eqI9(a b c d a' b' c' d':Int)(w:World):(Op.equalIn 9999 24 (.agg #[.int .u64 a,.int .u64 b,.int .u64 c,.int .u64 d]) (.agg #[.int .u64 a',.int .u64 b',.int .u64 c',.int .u64 d'])).run Tryz.prog w= .ok (a==a'&&(b==b'&&(c==c'&&d==d'))) w:=by
 have u3:=Tryz.underlying22;have a3:=Tryz.isAgg22;have z3:=Tryz.sizeOf22;rw[show(9999:Nat)=9998+1 from rfl,Op.equalIn]
 simp only[Sem.run_bind,run_underlying Tryz.underlying24,Result.andThen_ok];simp only[Std.Legacy.Range.forIn_eq_forIn_range',Std.Legacy.Range.size,Nat.sub_zero,Nat.add_sub_cancel,Nat.div_one,List.range'_succ,List.range'_zero,List.forIn_cons,List.forIn_nil]
 go_simp
 by_cases h1:a=a'<;>by_cases h2:b=b'<;>by_cases h3:c=c'<;>by_cases h4:d=d'<;>simp[h1,h2,h3,h4]
theorem eqW0(hi lo:W4)(h:hi≠(0,0,0,0))(w:World):(Op.equalIn 10000 225 (wV hi lo) (.agg #[.int .u64 0,.int .u64 0,.int .u64 0,.int .u64 0,.int .u64 0,.int .u64 0,.int .u64 0,.int .u64 0])).run Tryz.prog w= .ok false w:=by
 have hS:Tryz.prog.underlying 225=some (.struct (Tryz.prog.fieldsOf 225)):=by kernel_rfl
 have hp:Tryz.prog.stoodInHeld 225=false:=by kernel_rfl
 rw[show(10000:Nat)=9999+1 from rfl,run_equalIn_agg w 9999 225 _ _ hS hp]
 simp only[Program.fieldsOf,Tryz.underlying225];have h9:(Op.equalIn 9999 24 (.agg #[.int .u64 hi.1,.int .u64 hi.2.1,.int .u64 hi.2.2.1,.int .u64 hi.2.2.2]) (.agg #[.int .u64 0,.int .u64 0,.int .u64 0,.int .u64 0])).run Tryz.prog w= .ok false w:=by
  have hb:(((hi.1:Nat):Int)==0&&(((hi.2.1:Nat):Int)==0&&(((hi.2.2.1:Nat):Int)==0&&((hi.2.2.2:Nat):Int)==0)))=false:=by
   rw[Bool.eq_false_iff];intro h1;simp only[Bool.and_eq_true,beq_iff_eq]at h1;refine h ?_;obtain⟨a,b,c,d⟩:=hi;simp only[Prod.mk.injEq]at h1 ⊢;omega
  have h8:=eqI9 hi.1 hi.2.1 hi.2.2.1 hi.2.2.2 0 0 0 0 w;rw[hb]at h8;exact h8
 go_simp
theorem zqw(hi lo:W4)(hh:hi.Ok)(hl:lo.Ok)(h0:hi≠(0,0,0,0))(w:World):Calls Tryz.prog 221 #[wV hi lo] w (zkm (wN hi lo) 512 w):=by
 have hrow:=heap_alloc_new w (.cells (wL hi lo) 225);have hb0:=z00 (Below.refl _ w) (.cells (wL hi lo) 225);have hc:=z6x hrow;have c0:=hc 0 _ rfl;have c1:=hc 1 _ rfl;have c2:=hc 2 _ rfl;have c3:=hc 3 _ rfl;have c4:=hc 4 _ rfl;have c5:=hc 5 _ rfl;have c6:=hc 6 _ rfl;have c7:=hc 7 _ rfl;have hE:=eqW0 hi lo h0;have hE2:=z7b h0;have hlt:=z2i hl
 have HBt:Hid (Calls Tryz.prog 247 #[uV hi] (w.alloc (.cells (wL hi lo) 225)) fun e w'=>∃ b:Nat,e= .returned (.int .i64 b)/\b<=256/\Below w.heap.size w w'/\wN hi lo<2 ^ (256+b)):=(zbl hi hh _).mono fun e w' ⟨b,he,h1,h2,hb⟩=>⟨b,he,h2,z0b hb0 hb,by
  rw[Nat.pow_add,<- M256];unfold wN;have h3:=Nat.mul_le_mul_left 115792089237316195423570985008687907853269984665640564039457584007913129639936 h1;rw[Nat.succ_eq_add_one,Nat.mul_add,Nat.mul_one]at h3;rw[Nat.mul_comm (uN hi)]
  omega⟩
 clear hrow hb0 hc hlt hh hl h0;go_enter Tryz.func221,Tryz.ntmps221;go_wp2_with fail;refine zm HBt.out ?_;rintro e w1 ⟨b,rfl,hb,hbl,hN⟩;have HB:=zh hbl;have HN:=zh hN;clear hbl hN HBt;go_wp2_with fail;go_ret;exact⟨256+b,by first | rfl | go_num,HN.out,by omega,HB.out⟩
abbrev rR(a:W4)(ov:Nat):Array Value:=#[.int .u64 a.1,.int .u64 a.2.1,.int .u64 a.2.2.1,.int .u64 a.2.2.2,.int .u64 ov]
theorem zng(a:W4)(ov k:Nat)(hk:k<4):(rR a ov)[k]?=some (.int .u64 (a.at k)):=by
 match k,hk with
 | 0,_=>rfl
 | 1,_=>rfl
 | 2,_=>rfl
 | 3,_=>rfl
theorem zxt(a:W4)(ov k v:Nat)(hk:k<4):(rR a ov).setIfInBounds k (.int .u64 v)=rR (a.set k v) ov:=by
 match k,hk with
 | 0,_=>rfl
 | 1,_=>rfl
 | 2,_=>rfl
 | 3,_=>rfl
theorem zvq(a:W4)(ov v:Nat):(rR a ov).setIfInBounds 4 (.int .u64 v)=rR a v:=rfl
structure TkAt (p:Nat) (w:World) (d a:W4) (ov:Nat) (wr:World):Prop where
 f:Fr (fun k=>k=p) w wr
 hp:p<w.heap.size
 r:wr.heap[p]?=some (.cells (rR a ov) 262 (0,0))
 hd:wr.heap[w.heap.size]?=some (.cells (uL d) 24 (0,0))
theorem TkAt.set{p:Nat}{w wr:World}{d a:W4}{ov:Nat}(h:TkAt p w d a ov wr)(k v:Nat)(hk:k<4):TkAt p w d (a.set k v) ov (wr.setCell ⟨p,k,none⟩ (.int .u64 v)):=by
 have hp:=h.hp;refine⟨h.f.setCell _ _ (.inr rfl),h.hp,?_,by rw[Below.heap_setCell _ _ _ _ (by simp;omega)];exact h.hd⟩;rw[<- zxt a ov k v hk];exact heap_setCell_same _ _ _ _ _ _ h.r
theorem TkAt.below{p:Nat}{w wr w':World}{d a:W4}{ov:Nat}(h:TkAt p w d a ov wr)(hb:Below wr.heap.size wr w'):TkAt p w d a ov w':=
 ⟨h.f.trans (Fr.of_below hb (fun _=>False)) (fun _ _ h=>h.elim),h.hp,(hb.block _ (z02 h.r)).trans h.r,(hb.block _ (z02 h.hd)).trans h.hd⟩
theorem TkAt.drew{p:Nat}{w wr:World}{d a:W4}{ov:Nat}(h:TkAt p w d a ov wr):TkAt p w d a ov wr.drew:=h.below (z0h zb)
def tkW(x:W4):Nat->W4
 | 0=>x
 | n+1=>(tkW x n).set (3-n) (x.at (3-n)*2%18446744073709551616+x.at (2-n)/9223372036854775808)
theorem zo5(x:W4)(n:Nat):∀ j,j+n<4->(tkW x n).at j=x.at j:=by
 induction n with
 | zero=>intro j _;rfl
 | succ n ih =>
  intro j hj;rw[tkW,z7m _ _ _ _ (by omega) (by omega),if_neg (by omega)];exact ih j (by omega)
theorem zvh(x:W4)(b:Nat):(tkW x 3).set 0 (x.at 0*2%18446744073709551616+b)=dblW x b 4:=rfl
def Took(p:Nat)(w:World)(a:W4)(b:Bool)(e:Ending)(w':World):Prop:=e= .returned (.bool b)/\Fr (fun k=>k=p) w w'/\∃ ov,w'.heap[p]?=some (.cells (rR a ov) 262 (0,0))
theorem take_any(w:World)(p:Nat)(x d r:W4)(ok:Bool)(ov n b:Nat)(hx:x.Ok)(hd:d.Ok)(hb:b<=1)(hn:n<uN d)(hxn:uN x=n)(hr:w.heap[p]?=some (.cells (rR x ov) 262 (0,0)))
  (hno:2*n+b<uN d->r=uOf (2*n+b)/\ok=false) (hyes:uN d<=2*n+b->r=uOf (2*n+b-uN d)/\ok=true) :
  Calls Tryz.prog 222 #[.pointer (some ⟨p,0,none⟩),.int .u64 b,uV d] w (Took p w r ok):=by
 have hc:∀ k v,(rR x ov)[k]?=some v->w.cell? ⟨p,k,none⟩=some v:=fun k v hk=>by rw[cell_of_row _ _ _ _ _ _ hr];exact hk
 have c3:=hc 3 _ rfl;have c4:=hc 4 _ rfl;have f4:w.frozen? ⟨p,4,none⟩=false:=frozen_of_row _ _ _ _ _ hr;have hpl:=z02 hr;have hpn:p≠w.heap.size:=by omega
 have hpn2:=Ne.symm hpn;obtain⟨dr1,dr2,dr3⟩:=zbv (y:=x) (b:=b) hx hd hn hb hxn;have hov:dblC x b 4=x.2.2.2/9223372036854775808:=rfl;have HR1:=zh dr1;have HR2:=zh dr2;have HR3:=zh dr3;have HNo:=zh hno;have HYes:=zh hyes;have HOv:=zh hov;have HO1:Hid (TkAt p w d x (x.2.2.2/9223372036854775808) ((w.setCell ⟨p,4,none⟩ (.int .u64 (((x.2.2.2:Nat):Int)/9223372036854775808))).alloc (.cells (uL d) 24))):=by
  show TkAt p w d x (x.2.2.2/9223372036854775808) ((w.setCell ⟨p,4,none⟩ (.int .u64 ((x.2.2.2/9223372036854775808:Nat):Int))).alloc (.cells (uL d) 24))
  have hr2:(w.setCell ⟨p,4,none⟩ (.int .u64 ((x.2.2.2/9223372036854775808:Nat):Int))).heap[p]?=some (.cells (rR x (x.2.2.2/9223372036854775808)) 262 (0,0)):=by
   rw[<- zvq x ov];exact heap_setCell_same _ _ _ _ _ _ hr
  have hsz:(w.setCell ⟨p,4,none⟩ (.int .u64 ((x.2.2.2/9223372036854775808:Nat):Int))).heap.size=w.heap.size:=by simp
  have hn2:=heap_alloc_new (w.setCell ⟨p,4,none⟩ (.int .u64 ((x.2.2.2/9223372036854775808:Nat):Int))) (.cells (uL d) 24);rw[hsz]at hn2;exact⟨((Fr.refl (fun k=>k=p) w).setCell ⟨p,4,none⟩ _ (.inr rfl)).alloc _,hpl,by rw[heap_alloc_old _ _ (by rw[hsz];exact hpl)];exact hr2,hn2⟩
 clear hc hr dr1 dr2 dr3 hno hyes hov;go_enter Tryz.func222,Tryz.ntmps222;go_wp2_with fail;generalize (w.setCell ⟨p,4,none⟩ (.int .u64 (((x.2.2.2:Nat):Int)/9223372036854775808))).alloc (.cells (uL d) 24)=w1 at *
 clear c3 c4 f4
 go_loopw [7] (fun iv wr=>∃ n:Nat,iv= .int .i64 (3-(n:Int))/\n<=3/\TkAt p w d (tkW x n) (x.2.2.2/9223372036854775808) wr) (fun iv _=>(intOf iv).toNat)
 case atStart=>exact⟨0,rfl,by omega,HO1.out⟩
 case round =>
  obtain⟨m,rfl,hm,hT⟩:=hrel;have HT:=zh hT;clear hT HO1
  by_cases hlt:m<3
  ·have ha:=zo5 x m (3-m) (by omega);have hb2:=zo5 x m (2-m) (by omega);obtain⟨k,hk⟩:∃ k,k=2-m:=⟨_,rfl⟩;have hkm:(3:Int)-(m:Int)=(k:Int)+1:=by omega
   have hk3:3-m=k+1:=by omega
   have hk2:2-m=k:=hk.symm;have hkl:k<3:=by omega
   rw[hk3]at ha;rw[hk2]at hb2;have cA:wr.cell? ⟨p,k+1,none⟩=some (.int .u64 (x.at (k+1))):=by rw[cell_of_row _ _ _ _ _ _ HT.out.r,zng _ _ _ (by omega),ha]
   have cB:wr.cell? ⟨p,k,none⟩=some (.int .u64 (x.at k)):=by rw[cell_of_row _ _ _ _ _ _ HT.out.r,zng _ _ _ (by omega),hb2]
   have fA:wr.frozen? ⟨p,k+1,none⟩=false:=frozen_of_row _ _ _ _ _ HT.out.r;have hN:TkAt p w d (tkW x (m+1)) (x.2.2.2/9223372036854775808) (wr.setCell ⟨p,k+1,none⟩ (.int .u64 ((x.at (k+1)*2%18446744073709551616+x.at k/9223372036854775808:Nat):Int))):=by
    have:=HT.out.set (3-m) (x.at (3-m)*2%18446744073709551616+x.at (2-m)/9223372036854775808) (by omega);rw[hk3,hk2]at this;rw[tkW,hk3,hk2];exact this
   have HN:=zh hN;have hbw:=hx.at k;have hor:bits .or .u64 (IntKind.u64.wrap (((x.at (k+1):Nat):Int)*2)) (((x.at k:Nat):Int)/9223372036854775808)=((x.at (k+1)*2%18446744073709551616+x.at k/9223372036854775808:Nat):Int):=or_bit (x:=x.at (k+1)) (b:=x.at k/9223372036854775808) (by omega);have HM:Hid (k=2-m/\m<3):=⟨hk,hlt⟩;have HOr:=zh hor;have hwk:IntKind.i64.wrap ((k:Int)+1-1)=(k:Int):=by rw[IntKind.wrap_i64];omega
   rw[hkm];clear ha hb2 hk hkm hk3 hk2 hN hor hlt hm;go_wp2_with fail
   go_region
   all_goals
    go_wp2_with fail;go_roundw
    case rel=>exact⟨m+1,by have:=HM.out;first | (go_num;omega)|(congr 1;omega),by have:=HM.out;omega,by rw[HOr.out];exact HN.out.drew⟩
    case measure=>simp[intOf]
  ·obtain rfl:m=3:=by omega
   rw[show(3:Int)-((3:Nat):Int)=0 from rfl]
   have h30:(tkW x 3).at 0=x.at 0:=zo5 x 3 0 (by omega);have c0:wr.cell? ⟨p,0,none⟩=some (.int .u64 (x.at 0)):=by rw[cell_of_row _ _ _ _ _ _ HT.out.r,zng _ _ _ (by omega),h30]
   have f0:wr.frozen? ⟨p,0,none⟩=false:=frozen_of_row _ _ _ _ _ HT.out.r;have hor:=or_bit (x:=x.at 0) hb;have hT6:TkAt p w d ((tkW x 3).set 0 (x.at 0*2%18446744073709551616+b)) (x.2.2.2/9223372036854775808) (wr.setCell ⟨p,0,none⟩ (.int .u64 ((x.at 0*2%18446744073709551616+b:Nat):Int))).drew:=(HT.out.set 0 (x.at 0*2%18446744073709551616+b) (by decide)).drew;rw[zvh,<- HOv.out]at hT6;have hXok:=(za7 hx hb).1;have hol:=zj2 hx hb 4;have HOr:=zh hor;have HT6:=zh hT6;clear hor hT6 h30 HT;generalize dblW x b 4=X at *
   generalize hog:dblC x b 4=o at *
   clear hog;go_wp2_with fail
   go_region
   all_goals
    rw[HOr.out];have hT7:=HT6.out;generalize (wr.setCell ⟨p,0,none⟩ (.int .u64 ((x.at 0*2%18446744073709551616+b:Nat):Int))).drew=wg at *
    clear HT6 HOr c0 f0;have hcg:∀ k v,(rR X o)[k]?=some v->wg.cell? ⟨p,k,none⟩=some v:=fun k v hk=>by rw[cell_of_row _ _ _ _ _ _ hT7.r];exact hk
    have g0:=hcg 0 _ rfl;have g1:=hcg 1 _ rfl;have g2:=hcg 2 _ rfl;have g3:=hcg 3 _ rfl;have g4:=hcg 4 _ rfl;obtain⟨d0,d1,d2,d3,_⟩:=row4 hT7.hd;have HCB:Hid (∀ k w1,Calls Tryz.prog 144 #[.int .u64 (X.at k),.int .u64 (d.at k),.int .u64 (z1l subS subC X d k).1] w1 fun e w'=>e= .returned (.tuple #[.int .u64 (subS (X.at k) (d.at k) (z1l subS subC X d k).1),.int .u64 (z1l subS subC X d (k+1)).1])/\w1=w'):=fun k w1=>zaq _ _ _ (hXok.at k) (hd.at k) (zbs X d k) w1
    have HT7:=zh hT7;clear hcg
    by_cases ho:o=0
    ·have e1:(((o:Nat):Int)==0)=true:=beq_iff_eq.2 (by omega);have HO0:=zh ho;clear ho
     by_cases ht:2*n+b<uN d
     ·obtain⟨_,_,hX⟩:=HR1.out ht;have hcm:uCmp X d = -1:=by
       have hN:uN X=2*n+b:=by rw[hX,z5f (by have:=z2i hd;omega)]
       unfold uCmp;rw[hN,if_pos ht]
      have HNo2:=zh (HNo.out ht);have HX:=zh hX;have HCmp:Hid (Calls Tryz.prog 58 #[uV X,uV d] wg.drew fun e w'=>e= .returned (.int .i64 (-1))/\TkAt p w d X o w'):=(z4x X d hXok hd _).mono fun e w' ⟨he,hb⟩=>⟨by rw[he,hcm],hT7.drew.below hb⟩
      clear hX hcm hT7 HR1 HR2 HR3 HNo HYes ht HCB;go_wp2_with fail
      go_region_with (go_at_call 58;(with_reducible refine zm HCmp.out ?_);rintro e w7 ⟨rfl,hT8⟩)
      all_goals
       have HT8:=zh hT8;clear hT8;go_wp2_with fail;go_ret;exact⟨by rw[HNo2.out.2];rfl,HT8.out.f,o,by rw[HNo2.out.1,<- HX.out];exact HT8.out.r⟩
     ·have hN:(uCmp X d=0\/uCmp X d=1):=by
       unfold uCmp;have h2:=HR2.out (by omega) HO0.out;have h3:=(z3f hXok hd).1 h2.1;rw[if_neg (by omega)];split
       ·exact .inr rfl
       ·exact .inl rfl
      obtain⟨cm,hcm,hcm0⟩:∃ c:Int,uCmp X d=c/\decide (c<0)=false:=⟨_,rfl,by rcases hN with h | h<;>rw[h]<;>decide⟩;have HYes2:Hid (z3s X d=r/\ok=true):=by
       have h2:=(HR2.out (by omega) HO0.out).2;have h3:=HYes.out (by omega);exact⟨by rw[h2,h3.1],h3.2⟩
      have HCmp:Hid (Calls Tryz.prog 58 #[uV X,uV d] wg.drew fun e w'=>e= .returned (.int .i64 cm)/\TkAt p w d X o w'):=(z4x X d hXok hd _).mono fun e w' ⟨he,hb⟩=>⟨by rw[he,hcm],hT7.drew.below hb⟩
      clear hcm hT7 HR1 HR2 HR3 HNo HYes ht hN;go_upto_region 7 with fail
      go_cut [69] (fun s69 wc=>s69= .bool false/\TkAt p w d X o wc)
      case first =>
       go_region_with (go_at_call 58;(with_reducible refine zm HCmp.out ?_);rintro e w7 ⟨rfl,hT8⟩)
       all_goals
        have HT8:=zh hT8;clear hT8;go_wp2_with fail
        go_meet
        exact⟨rfl,HT8.out⟩
      case rest =>
       obtain⟨rfl,hT8⟩:=hcut;have HT7:=zh hT8;clear hT8 HCmp;go_wp2_with fail
       go_loopw [70,8] (fun iv cv wr=>∃ k:Nat,iv= .int .i64 k/\k<=4/\cv= .int .u64 (z1l subS subC X d k).1/\TkAt p w d (wrpW X d k) o wr) (fun iv _ _=>4-(intOf iv).toNat)
       case atStart=>exact⟨0,rfl,by omega,rfl,HT7.out⟩
       case round =>
        obtain⟨k,rfl,hk,rfl,hA⟩:=hrel;have HA:=zh hA;clear hA HT7
        by_cases hlt:k<4
        ·have cA:wr.cell? ⟨p,k,none⟩=some (.int .u64 (X.at k)):=by rw[cell_of_row _ _ _ _ _ _ HA.out.r,zng _ _ _ hlt,zj3 X d k k hlt (Nat.le_refl _)]
         have cB:wr.cell? ⟨w.heap.size,k,none⟩=some (.int .u64 (d.at k)):=by rw[cell_of_row _ _ _ _ _ _ HA.out.hd];exact z4v d k hlt
         have fA:wr.frozen? ⟨p,k,none⟩=false:=frozen_of_row _ _ _ _ _ HA.out.r;have hN:TkAt p w d (wrpW X d (k+1)) o (wr.drew.setCell ⟨p,k,none⟩ (.int .u64 (subS (X.at k) (d.at k) (z1l subS subC X d k).1))):=HA.out.drew.set k _ hlt;have HN1:=zh hN;have HBo:=zh (fun w1=>HCB.out k w1);clear hN;go_wp2_with fail
         go_region_with (go_at_call 144;refine(HBo.out _).mono ?_;rintro e w' ⟨rfl,rfl⟩)
         all_goals
          go_wp2_with fail;go_roundw
          case rel=>exact⟨k+1,by go_num,by omega,rfl,HN1.out⟩
          case measure=>simp[intOf];omega
        ·obtain rfl:k=4:=by omega
         have HRs:=zh HYes2.out;clear HCB;go_wp2_with fail;go_ret;exact⟨by rw[HRs.out.2];rfl,HA.out.f,o,by rw[<- HRs.out.1,<- zum];exact HA.out.r⟩
    ·have e1:(((o:Nat):Int)==0)=false:=beq_eq_false_iff_ne.2 (by omega);have ht:uN d<=2*n+b:=Nat.le_of_not_lt fun h=>ho (HR1.out h).1
     have HYes2:Hid (z3s X d=r/\ok=true):=by
      have h2:=(HR3.out ht ho).2;have h3:=HYes.out ht;exact⟨by rw[h2,h3.1],h3.2⟩
     clear hT7 HR1 HR2 HR3 HNo HYes ht ho;go_upto_region 7 with fail
     go_cut [69] (fun s69 wc=>s69= .bool false/\TkAt p w d X o wc)
     case first =>
      go_region
      all_goals
       have HT8:=zh HT7.out.drew;go_wp2_with fail
       go_meet
       exact⟨rfl,HT8.out⟩
     case rest =>
      obtain⟨rfl,hT8⟩:=hcut;have HT7:=zh hT8;clear hT8;go_wp2_with fail
      go_loopw [70,8] (fun iv cv wr=>∃ k:Nat,iv= .int .i64 k/\k<=4/\cv= .int .u64 (z1l subS subC X d k).1/\TkAt p w d (wrpW X d k) o wr) (fun iv _ _=>4-(intOf iv).toNat)
      case atStart=>exact⟨0,rfl,by omega,rfl,HT7.out⟩
      case round =>
       obtain⟨k,rfl,hk,rfl,hA⟩:=hrel;have HA:=zh hA;clear hA HT7
       by_cases hlt:k<4
       ·have cA:wr.cell? ⟨p,k,none⟩=some (.int .u64 (X.at k)):=by rw[cell_of_row _ _ _ _ _ _ HA.out.r,zng _ _ _ hlt,zj3 X d k k hlt (Nat.le_refl _)]
        have cB:wr.cell? ⟨w.heap.size,k,none⟩=some (.int .u64 (d.at k)):=by rw[cell_of_row _ _ _ _ _ _ HA.out.hd];exact z4v d k hlt
        have fA:wr.frozen? ⟨p,k,none⟩=false:=frozen_of_row _ _ _ _ _ HA.out.r;have hN:TkAt p w d (wrpW X d (k+1)) o (wr.drew.setCell ⟨p,k,none⟩ (.int .u64 (subS (X.at k) (d.at k) (z1l subS subC X d k).1))):=HA.out.drew.set k _ hlt;have HN1:=zh hN;have HBo:=zh (fun w1=>HCB.out k w1);clear hN;go_wp2_with fail
        go_region_with (go_at_call 144;refine(HBo.out _).mono ?_;rintro e w' ⟨rfl,rfl⟩)
        all_goals
         go_wp2_with fail;go_roundw
         case rel=>exact⟨k+1,by go_num,by omega,rfl,HN1.out⟩
         case measure=>simp[intOf];omega
       ·obtain rfl:k=4:=by omega
        have HRs:=zh HYes2.out;clear HCB;go_wp2_with fail;go_ret;exact⟨by rw[HRs.out.2];rfl,HA.out.f,o,by rw[<- HRs.out.1,<- zum];exact HA.out.r⟩
end Go.Proofs.YtnkilceibkkjlaaGreat
