/- What is proved here: muldiv.Quo of the program, a wide nu -/
import Derived.Test.YtnkilceibkkjlaaGreatKTake
set_option maxRecDepth 100000
set_option maxHeartbeats 16000000
namespace Go.Proofs.YtnkilceibkkjlaaGreat
open Go.RowKit
def quoQ(hi lo d:W4):W4:=if uN hi<uN d then uOf (wN hi lo/uN d)else(0,0,0,0)
def quoR(hi lo d:W4):W4:=if uN hi<uN d then uOf (wN hi lo%uN d)else(0,0,0,0)
def quoB(hi d:W4):Bool:=decide (uN hi<uN d)
abbrev zgf(hi lo d:W4)(w:World)(e:Ending)(w':World):Prop:=e= .returned (.tuple #[uV (quoQ hi lo d),uV (quoR hi lo d),.bool (quoB hi d)])/\Below w.heap.size w w'
structure QuAt (w:World) (hi lo d:W4) (wr:World):Prop where
 b:Below w.heap.size w wr
 n:wr.heap[w.heap.size]?=some (.cells (wL hi lo) 225 (0,0))
 y:wr.heap[w.heap.size+1]?=some (.cells (uL d) 24 (0,0))
 z:wr.heap[w.heap.size+2]?=some (.cells (uL (0,0,0,0)) 24 (0,0))
 v:wr.heap[w.heap.size+3]?=some (.cells (uL (0,0,0,0)) 24 (0,0))
abbrev w4q(w:World)(hi lo d:W4):World:=(((w.alloc (.cells (wL hi lo) 225)).alloc (.cells (uL d) 24)).alloc (.cells #[.int .u64 0,.int .u64 0,.int .u64 0,.int .u64 0] 24)).alloc (.cells #[.int .u64 0,.int .u64 0,.int .u64 0,.int .u64 0] 24)
theorem QuAt.start(w:World)(hi lo d:W4):QuAt w hi lo d (w4q w hi lo d):=by
 refine⟨z00 (z00 (z00 (z00 zb _) _) _) _,?_,?_,?_,?_⟩
 ·rw[heap_alloc_old _ _ (by simp<;>omega),heap_alloc_old _ _ (by simp<;>omega),heap_alloc_old _ _ (by simp)];exact heap_alloc_new w _
 ·rw[heap_alloc_old _ _ (by simp<;>omega),heap_alloc_old _ _ (by simp<;>omega)];have:=heap_alloc_new (w.alloc (.cells (wL hi lo) 225)) (.cells (uL d) 24)
  rwa [World.size_alloc]at this
 ·rw[heap_alloc_old _ _ (by simp)];have:=heap_alloc_new ((w.alloc (.cells (wL hi lo) 225)).alloc (.cells (uL d) 24)) (.cells #[.int .u64 0,.int .u64 0,.int .u64 0,.int .u64 0] 24)
  rwa [World.size_alloc,World.size_alloc]at this
 ·have:=heap_alloc_new (((w.alloc (.cells (wL hi lo) 225)).alloc (.cells (uL d) 24)).alloc (.cells #[.int .u64 0,.int .u64 0,.int .u64 0,.int .u64 0] 24)) (.cells #[.int .u64 0,.int .u64 0,.int .u64 0,.int .u64 0] 24)
  rwa [World.size_alloc,World.size_alloc,World.size_alloc]at this
theorem QuAt.below{w wr w':World}{hi lo d:W4}(h:QuAt w hi lo d wr)(hb:Below wr.heap.size wr w'):QuAt w hi lo d w':=
 ⟨z0b h.b hb,(hb.block _ (z02 h.n)).trans h.n,(hb.block _ (z02 h.y)).trans h.y,(hb.block _ (z02 h.z)).trans h.z,(hb.block _ (z02 h.v)).trans h.v⟩
theorem QuAt.put{w wr:World}{hi lo d:W4}(h:QuAt w hi lo d wr)(u v:W4):Below w.heap.size w (st4 (st4 wr (w.heap.size+2) u) (w.heap.size+3) v)/\(st4 (st4 wr (w.heap.size+2) u) (w.heap.size+3) v).heap[w.heap.size+2]?=some (.cells (uL u) 24 (0,0))/\(st4 (st4 wr (w.heap.size+2) u) (w.heap.size+3) v).heap[w.heap.size+3]?=some (.cells (uL v) 24 (0,0)):=
 ⟨z0f (z0f h.b (by omega) _ _ _ _) (by omega) _ _ _ _,by rw[zf9 _ _ (by omega)];exact ze9 h.z u,ze9 (by rw[zf9 _ _ (by omega)];exact h.v) v⟩
structure QvAt (g:Nat) (w:World) (hi lo d q a:W4) (wr:World):Prop where
 k:QuAt w hi lo d wr
 hg:w.heap.size+3<g
 q:wr.heap[g]?=some (.cells (uL q) 24 (0,0))
 r:∃ ov,wr.heap[g+1]?=some (.cells (rR a ov) 262 (0,0))
theorem QuAt.long{w wr:World}{hi lo d:W4}(h:QuAt w hi lo d wr):QvAt wr.heap.size w hi lo d (0,0,0,0) (0,0,0,0) ((wr.alloc (.cells #[.int .u64 0,.int .u64 0,.int .u64 0,.int .u64 0] 24)).alloc (.cells #[.int .u64 0,.int .u64 0,.int .u64 0,.int .u64 0,.int .u64 0] 262)):=by
 have hk:=(h.below (z00 zb (.cells #[.int .u64 0,.int .u64 0,.int .u64 0,.int .u64 0] 24))).below (z00 zb (.cells #[.int .u64 0,.int .u64 0,.int .u64 0,.int .u64 0,.int .u64 0] 262));refine⟨hk,z02 h.v,?_,0,?_⟩
 ·rw[heap_alloc_old _ _ (by simp)];exact heap_alloc_new wr _
 ·have:=heap_alloc_new (wr.alloc (.cells #[.int .u64 0,.int .u64 0,.int .u64 0,.int .u64 0] 24)) (.cells #[.int .u64 0,.int .u64 0,.int .u64 0,.int .u64 0,.int .u64 0] 262)
  rwa [World.size_alloc]at this
theorem QvAt.below{g:Nat}{w wr w':World}{hi lo d q a:W4}(h:QvAt g w hi lo d q a wr)(hb:Below wr.heap.size wr w'):QvAt g w hi lo d q a w':=
 ⟨h.k.below hb,h.hg,(hb.block _ (z02 h.q)).trans h.q,h.r.choose,(hb.block _ (z02 h.r.choose_spec)).trans h.r.choose_spec⟩
theorem QvAt.drew{g:Nat}{w wr:World}{hi lo d q a:W4}(h:QvAt g w hi lo d q a wr):QvAt g w hi lo d q a wr.drew:=h.below (z0h zb)
theorem QvAt.took{g:Nat}{w wr w':World}{hi lo d q a a':W4}{b:Bool}{e:Ending}(h:QvAt g w hi lo d q a wr)(ht:Took (g+1) wr a' b e w'):QvAt g w hi lo d q a' w':=by
 obtain⟨_,hf,ov,hr⟩:=ht;have hg:=h.hg;have hq:=z02 h.q;have hb:Below w.heap.size w w':=⟨hf.os.trans h.k.b.os,hf.tape.trans h.k.b.tape,hf.output.trans h.k.b.output,Nat.le_trans h.k.b.size hf.size,fun k hk=>(hf.block k (by omega) (by omega)).trans (h.k.b.block k hk)⟩;exact⟨⟨hb,(hf.block _ (by omega) (by omega)).trans h.k.n,(hf.block _ (by omega) (by omega)).trans h.k.y,(hf.block _ (by omega) (by omega)).trans h.k.z,(hf.block _ (by omega) (by omega)).trans h.k.v⟩,hg,(hf.block _ hq (by omega)).trans h.q,ov,hr⟩
theorem QvAt.setQ{g:Nat}{w wr:World}{hi lo d q a:W4}(h:QvAt g w hi lo d q a wr)(k v:Nat)(hk:k<4):QvAt g w hi lo d (q.set k v) a (wr.setCell ⟨g,k,none⟩ (.int .u64 v)):=by
 have hg:=h.hg;obtain⟨ov,hr⟩:=h.r;have hoth:∀ j,j≠g->(wr.setCell ⟨g,k,none⟩ (.int .u64 v)).heap[j]?=wr.heap[j]?:=fun j hj=>Below.heap_setCell _ _ _ _ hj
 refine⟨⟨h.k.b.setCell (p:=⟨g,k,none⟩) (by simp;omega) _,by rw[hoth _ (by omega)];exact h.k.n,by rw[hoth _ (by omega)];exact h.k.y,by rw[hoth _ (by omega)];exact h.k.z,by rw[hoth _ (by omega)];exact h.k.v⟩,h.hg,?_,ov,by rw[hoth _ (by omega)];exact hr⟩;rw[<- z9j q k v hk];exact heap_setCell_same _ _ _ _ _ _ h.q
theorem zz2(lo:W4):wN (0,0,0,0) lo=uN lo:=by unfold wN;rw[show uN (0,0,0,0)=0 from rfl];omega
theorem zlx(lo d:W4):divQ lo d=quoQ (0,0,0,0) lo d/\divR lo d=quoR (0,0,0,0) lo d/\divB d=quoB (0,0,0,0) d:=by
 unfold divQ divR divB quoQ quoR quoB;rw[zz2,show uN (0,0,0,0)=0 from rfl]
 by_cases h:uN d=0
 ·rw[if_pos h,if_neg (show ¬ 0<uN d by omega),if_neg (show ¬ 0<uN d by omega),h,Nat.div_zero];exact⟨rfl,rfl,by decide⟩
 ·rw[if_neg h,if_pos (show 0<uN d by omega),if_pos (show 0<uN d by omega)];exact⟨rfl,rfl,by rw[decide_eq_true (show uN d≠0 from h),decide_eq_true (show 0<uN d by omega)]⟩
theorem zw1(lo d:W4)(hl:lo.Ok)(hd:d.Ok)(w:World):Calls Tryz.prog 175 #[wV (0,0,0,0) lo,uV d] w (zgf (0,0,0,0) lo d w):=by
 obtain⟨e1,e2,e3⟩:=zlx lo d;have H0:=zh (QuAt.start w (0,0,0,0) lo d);have hc:=z6x H0.out.n;have c0:=hc 0 _ rfl;have c1:=hc 1 _ rfl;have c2:=hc 2 _ rfl;have c3:=hc 3 _ rfl;have c4:=hc 4 _ rfl;have c5:=hc 5 _ rfl;have c6:=hc 6 _ rfl;have c7:=hc 7 _ rfl;obtain⟨a0,a1,a2,a3,_⟩:=row4 H0.out.y;have hE:∀ w,(Op.equalIn 10000 24 (.agg #[.int .u64 0,.int .u64 0,.int .u64 0,.int .u64 0]) (.agg #[.int .u64 0,.int .u64 0,.int .u64 0,.int .u64 0])).run Tryz.prog w= .ok true w:=fun w=>eqU (0,0,0,0) (0,0,0,0) w
 have HD:Hid (Calls Tryz.prog 220 #[uV lo,uV d] (w4q w (0,0,0,0) lo d) fun e w'=>e= .returned (.tuple #[uV (quoQ (0,0,0,0) lo d),uV (quoR (0,0,0,0) lo d),.bool (quoB (0,0,0,0) d)])/\QuAt w (0,0,0,0) lo d w'):=(zv9 lo d hl hd _).mono fun e w' ⟨he,hb⟩=>⟨by rw[he,e1,e2,e3],H0.out.below hb⟩
 have HE:Hid (∀ q r b,q=quoQ (0,0,0,0) lo d->r=quoR (0,0,0,0) lo d->b=quoB (0,0,0,0) d->Ending.returned (.tuple #[uV q,uV r,.bool b])=Ending.returned (.tuple #[uV (quoQ (0,0,0,0) lo d),uV (quoR (0,0,0,0) lo d),.bool (quoB (0,0,0,0) d)])):=fun q r b h1 h2 h3=>by rw[h1,h2,h3]
 clear hc e1 e2 e3;obtain⟨q,hq⟩:∃ q,q=quoQ (0,0,0,0) lo d:=⟨_,rfl⟩;obtain⟨r,hr⟩:∃ r,r=quoR (0,0,0,0) lo d:=⟨_,rfl⟩;obtain⟨b,hb⟩:∃ b,b=quoB (0,0,0,0) d:=⟨_,rfl⟩;have HEE:=zh (HE.out q r b hq hr hb);rw[<- hq,<- hr,<- hb]at HD;clear hq hr hb HE;go_enter Tryz.func175,Tryz.ntmps175;go_wp2_with fail;refine zm HD.out ?_;rintro e w1 ⟨rfl,hK⟩;obtain⟨b0,b1,b2,b3,r0,r1,r2,r3⟩:=row4 hK.z;obtain⟨d0,d1,d2,d3,s0,s1,s2,s3⟩:=row4 hK.v;have HP:=zh (hK.put q r);clear hK HD H0;go_wp2_with fail;refine bodyPost_ret (z2x rfl _ _ (w.heap.size+2) (w.heap.size+3) 24 (uL q) (uL r) (0,0) _ rfl ?_ rfl ?_ Tryz.underlying24 rfl (by kernel_rfl) (by kernel_rfl)) rfl ?_
 ·exact HP.out.2.1
 ·exact HP.out.2.2
 ·exact⟨HEE.out,HP.out.1⟩
theorem zt6(hi lo d:W4)(hh:hi.Ok)(hd:d.Ok)(h0:hi≠(0,0,0,0))(hle:uN d<=uN hi)(w:World):Calls Tryz.prog 175 #[wV hi lo,uV d] w (zgf hi lo d w):=by
 have H0:=zh (QuAt.start w hi lo d);have hc:=z6x H0.out.n;have c0:=hc 0 _ rfl;have c1:=hc 1 _ rfl;have c2:=hc 2 _ rfl;have c3:=hc 3 _ rfl;obtain⟨a0,a1,a2,a3,_⟩:=row4 H0.out.y;have hE:=z7b h0;obtain⟨c,hcc,hc0⟩:∃ c:Int,uCmp hi d=c/\decide (0<=c)=true:=⟨_,rfl,by unfold uCmp;rw[if_neg (by omega)];split<;>decide⟩;have HC:Hid (Calls Tryz.prog 58 #[uV hi,uV d] (w4q w hi lo d) fun e w'=>e= .returned (.int .i64 c)/\QuAt w hi lo d w'):=(z4x hi d hh hd _).mono fun e w' ⟨he,hb⟩=>⟨by rw[he,hcc],H0.out.below hb⟩
 have HE:Hid (Ending.returned (.tuple #[uV (0,0,0,0),uV (0,0,0,0),.bool false])=Ending.returned (.tuple #[uV (quoQ hi lo d),uV (quoR hi lo d),.bool (quoB hi d)])):=by
  unfold quoQ quoR quoB;rw[if_neg (by omega),if_neg (by omega),decide_eq_false (by omega)];exact zh rfl
 clear hc hcc h0 hle hh hd;go_enter Tryz.func175,Tryz.ntmps175;go_wp2_with fail;refine zm HC.out ?_;rintro e w1 ⟨rfl,hK⟩;obtain⟨b0,b1,b2,b3,r0,r1,r2,r3⟩:=row4 hK.z;obtain⟨d0,d1,d2,d3,s0,s1,s2,s3⟩:=row4 hK.v;have HP:=zh (hK.put (0,0,0,0) (0,0,0,0));clear hK HC H0;go_wp2_with fail;refine bodyPost_ret (z2x rfl _ _ (w.heap.size+2) (w.heap.size+3) 24 (uL (0,0,0,0)) (uL (0,0,0,0)) (0,0) _ rfl ?_ rfl ?_ Tryz.underlying24 rfl (by kernel_rfl) (by kernel_rfl)) rfl ?_
 ·exact HP.out.2.1
 ·exact HP.out.2.2
 ·exact⟨HE.out,HP.out.1⟩
def qB(N d k:Nat):Nat:=N/2 ^ k/d*2 ^ k
def rB(N d k:Nat):Nat:=N/2 ^ k%d
theorem zyi(N d k:Nat):qB N d k<=N/d:=by
 unfold qB;rw[Nat.div_div_eq_div_mul,Nat.mul_comm (2 ^ k) d,<- Nat.div_div_eq_div_mul];exact Nat.div_mul_le_self _ _
theorem zyh(N d k:Nat):qB N d k%2 ^ k=0:=by unfold qB;exact Nat.mul_mod_left _ _
theorem zzc(N d k:Nat)(hd:0<d):rB N d k<d:=Nat.mod_lt _ hd
theorem zsb{hi lo d:W4}(hl:lo.Ok)(h:uN hi<uN d):wN hi lo/uN d<115792089237316195423570985008687907853269984665640564039457584007913129639936:=by
 have h1:=z2i hl;rw[Nat.div_lt_iff_lt_mul (by omega)];unfold wN;generalize uN hi=a at *
 generalize uN d=b at *
 generalize uN lo=c at *
 omega
theorem zra(N d k:Nat)(hd:0<d)(hN:N/d<115792089237316195423570985008687907853269984665640564039457584007913129639936) :
  (2*rB N d (k+1)+N/2 ^ k%2<d->qB N d k=qB N d (k+1)/\rB N d k=2*rB N d (k+1)+N/2 ^ k%2) /\
  (d<=2*rB N d (k+1)+N/2 ^ k%2->k<256/\qB N d k=qB N d (k+1)+2 ^ k/\rB N d k=2*rB N d (k+1)+N/2 ^ k%2-d):=by
 obtain⟨h1,h2⟩:=zgc N d k hd;have hle:=zyi N d k;unfold rB;refine⟨fun h => ?_,fun h => ?_⟩
 ·obtain⟨e1,e2⟩:=h1 h;refine⟨?_,e1⟩;unfold qB;rw[e2,Nat.pow_succ,Nat.mul_comm (2 ^ k) 2,<- Nat.mul_assoc,Nat.mul_comm 2]
 ·obtain⟨e1,e2⟩:=h2 h;have e3:qB N d k=qB N d (k+1)+2 ^ k:=by
   unfold qB;rw[e2,Nat.add_mul,Nat.one_mul,Nat.pow_succ,Nat.mul_comm (2 ^ k) 2,<- Nat.mul_assoc (N/(2*2 ^ k)/d),Nat.mul_comm (N/(2*2 ^ k)/d) 2]
  refine⟨?_,e3,e1⟩;have h3:2 ^ k<2 ^ 256:=by rw[<- M256];omega
  exact(Nat.pow_lt_pow_iff_right (by decide)).1 h3
theorem zyo{Q k:Nat}(hk:k<256)(hQ:Q<115792089237316195423570985008687907853269984665640564039457584007913129639936)(hz:Q%2 ^ (k+1)=0) :
  bits .or .u64 (((uOf Q).at (k/64):Nat):Int) ((2 ^ (k%64):Nat):Int)=(((uOf Q).at (k/64)+2 ^ (k%64):Nat):Int)/\(uOf Q).set (k/64) ((uOf Q).at (k/64)+2 ^ (k%64))=uOf (Q+2 ^ k)/\2 ^ (k%64)<18446744073709551616:=by
 obtain⟨b1,b2,b3,_⟩:=zpd Q k hk hQ hz;have hle:=Nat.le_trans (Nat.le_add_left (2 ^ (k%64)) ((uOf Q).at (k/64))) (Nat.le_refl _);have hlt:=Nat.lt_of_le_of_lt hle b1;refine⟨?_,b3,hlt⟩;rw[bits_or_u64_nat _ _ (Nat.lt_of_le_of_lt (Nat.le_add_right _ _) b1) hlt,b2]
theorem zt4(hi lo d:W4)(hh:hi.Ok)(hl:lo.Ok)(hd:d.Ok)(h0:hi≠(0,0,0,0))(hlt:uN hi<uN d)(w:World):Calls Tryz.prog 175 #[wV hi lo,uV d] w (zgf hi lo d w):=by
 have H0:=zh (QuAt.start w hi lo d);have hc:=z6x H0.out.n;have c0:=hc 0 _ rfl;have c1:=hc 1 _ rfl;have c2:=hc 2 _ rfl;have c3:=hc 3 _ rfl;obtain⟨a0,a1,a2,a3,_⟩:=row4 H0.out.y;have hE:=z7b h0;have hd0:0<uN d:=by omega
 have hfit:=zsb hl hlt;obtain⟨c,hcc,hc0⟩:∃ c:Int,uCmp hi d=c/\decide (0<=c)=false:=⟨_,rfl,by unfold uCmp;rw[if_pos (by omega)];decide⟩;have HC:Hid (Calls Tryz.prog 58 #[uV hi,uV d] (w4q w hi lo d) fun e w'=>e= .returned (.int .i64 c)/\QuAt w hi lo d w'):=(z4x hi d hh hd _).mono fun e w' ⟨he,hb⟩=>⟨by rw[he,hcc],H0.out.below hb⟩
 obtain⟨N,hN⟩:∃ N,N=wN hi lo:=⟨_,rfl⟩;obtain⟨D,hD⟩:∃ D,D=uN d:=⟨_,rfl⟩;have HBi:Hid (∀ g W,QvAt g w hi lo d (0,0,0,0) (0,0,0,0) W->Calls Tryz.prog 221 #[wV hi lo] W fun e w'=>∃ b:Nat,e= .returned (.int .i64 b)/\N<2 ^ b/\b<=512/\QvAt g w hi lo d (0,0,0,0) (0,0,0,0) w'):=fun g W hK=>(zqw hi lo hh hl h0 W).mono fun e w' ⟨b,he,h1,h2,hb⟩=>⟨b,he,by rw[hN];exact h1,h2,hK.below hb⟩
 have HB1:Hid (∀ k:Nat,k<512->∀ g q a W,QvAt g w hi lo d q a W->Calls Tryz.prog 223 #[wV hi lo,.int .i64 k] W fun e w'=>e= .returned (.int .u64 ((N/2 ^ k%2:Nat):Int))/\QvAt g w hi lo d q a w'):=fun k hk g q a W hK=>(zsj hi lo hh hl k hk W).mono fun e w' ⟨he,hb⟩=>⟨by rw[he,hN],hK.below hb⟩
 have HTk:Hid (∀ (k g ov:Nat) q r W ok,QvAt g w hi lo d q (uOf (rB N D (k+1))) W->W.heap[g+1]?=some (.cells (rR (uOf (rB N D (k+1))) ov) 262 (0,0))->(2*rB N D (k+1)+N/2 ^ k%2<D->r=uOf (2*rB N D (k+1)+N/2 ^ k%2)/\ok=false)->(D<=2*rB N D (k+1)+N/2 ^ k%2->r=uOf (2*rB N D (k+1)+N/2 ^ k%2-D)/\ok=true)->Calls Tryz.prog 222 #[.pointer (some ⟨g+1,0,none⟩),.int .u64 ((N/2 ^ k%2:Nat):Int),uV d] W fun e w'=>e= .returned (.bool ok)/\QvAt g w hi lo d q r w'):=fun k g ov q r W ok hK hr hno hyes=>by
  have hrl:rB N D (k+1)<D:=zzc _ _ _ (by omega);have hDl:=z2i hd;subst hD;exact(take_any W (g+1) (uOf (rB N (uN d) (k+1))) d r ok ov (rB N (uN d) (k+1)) (N/2 ^ k%2) (z1y _) hd (by omega) hrl (z5f (by omega)) hr hno hyes).mono fun e w' h=>⟨h.1,hK.took h⟩
 have HQS:=zh fun k=>zra N D k (by omega) (by rw[hN,hD];exact hfit)
 have HQL:Hid (∀ k,qB N D k<115792089237316195423570985008687907853269984665640564039457584007913129639936):=fun k=>Nat.lt_of_le_of_lt (zyi N D k) (by rw[hN,hD];exact hfit)
 have HE:Hid (Ending.returned (.tuple #[uV (uOf (qB N D 0)),uV (uOf (rB N D 0)),.bool true])=Ending.returned (.tuple #[uV (quoQ hi lo d),uV (quoR hi lo d),.bool (quoB hi d)])):=by
  unfold quoQ quoR quoB qB rB;rw[if_pos hlt,if_pos hlt,decide_eq_true hlt,hN,hD,Nat.pow_zero,Nat.div_one,Nat.mul_one];exact zh rfl
 clear hc hcc h0 hlt hh hd hd0 hfit hl hN hD;go_enter Tryz.func175,Tryz.ntmps175;go_wp2_with fail;refine zm HC.out ?_;rintro e w1 ⟨rfl,hK⟩;have hL:=hK.long;have hcl:=z6x hL.k.n;have e0:=hcl 0 _ rfl;have e1:=hcl 1 _ rfl;have e2:=hcl 2 _ rfl;have e3:=hcl 3 _ rfl;have e4:=hcl 4 _ rfl;have e5:=hcl 5 _ rfl;have e6:=hcl 6 _ rfl;have e7:=hcl 7 _ rfl;have HB0:=zh (HBi.out _ _ hL);clear hK HC H0 hL hcl HBi;go_wp2_with fail;refine zm HB0.out ?_;rintro e w2 ⟨b,rfl,hNb,hb512,hL⟩;have HSt:Hid (QvAt w1.heap.size w hi lo d (uOf (qB N D b)) (uOf (rB N D b)) w2):=by
  have e:N/2 ^ b=0:=Nat.div_eq_of_lt hNb;unfold qB rB;rw[e,Nat.zero_div,Nat.zero_mod,Nat.zero_mul];exact hL
 clear hL HB0 hNb;generalize w1.heap.size=g at *
 go_wp2_with fail
 go_loopw [9] (fun iv wr=>∃ k:Nat,iv= .int .i64 ((k:Int)-1)/\k<=512/\QvAt g w hi lo d (uOf (qB N D k)) (uOf (rB N D k)) wr) (fun iv _=>(intOf iv+1).toNat)
 case atStart=>exact⟨b,rfl,hb512,HSt.out⟩
 case round =>
  obtain⟨k,rfl,hk,hA⟩:=hrel;have HA:=zh hA;clear hA HSt;cases k with
  | zero =>
   obtain⟨ov,hrow⟩:=HA.out.r;obtain⟨t0,t1,t2,t3,_⟩:=row4 HA.out.q;have hcr:∀ j v,(rR (uOf (rB N D 0)) ov)[j]?=some v->wr.cell? ⟨g+1,j,none⟩=some v:=fun j v hj=>by rw[cell_of_row _ _ _ _ _ _ hrow];exact hj
   have u0:=hcr 0 _ rfl;have u1:=hcr 1 _ rfl;have u2:=hcr 2 _ rfl;have u3:=hcr 3 _ rfl;obtain⟨c0,c1,c2,c3,r0,r1,r2,r3⟩:=row4 HA.out.k.z;obtain⟨d0,d1,d2,d3,s0,s1,s2,s3⟩:=row4 HA.out.k.v;have HP:=zh (HA.out.k.put (uOf (qB N D 0)) (uOf (rB N D 0)));have hg:=HA.out.hg;have n1:g≠w.heap.size+1+1:=by omega
   have n2:g≠w.heap.size+1+1+1:=by omega
   have n3:g+1≠w.heap.size+1+1:=by omega
   have n4:g+1≠w.heap.size+1+1+1:=by omega
   have n5:w.heap.size+1+1≠g:=by omega
   have n6:w.heap.size+1+1+1≠g:=by omega
   have n7:w.heap.size+1+1≠g+1:=by omega
   have n8:w.heap.size+1+1+1≠g+1:=by omega
   clear hcr hrow hg HB1 HTk HQS HQL;generalize uOf (qB N D 0)=q at *
   generalize uOf (rB N D 0)=r at *
   go_wp2_with fail
   go_region
   all_goals
    go_wp2_with fail;refine bodyPost_ret (z2x rfl _ _ (w.heap.size+2) (w.heap.size+3) 24 (uL q) (uL r) (0,0) _ rfl ?_ rfl ?_ Tryz.underlying24 rfl (by kernel_rfl) (by kernel_rfl)) rfl ?_
    ·exact z6n HP.out.2.1
    ·exact z6n HP.out.2.2
    ·exact⟨HE.out,z0h HP.out.1⟩
  | succ k =>
   have hz:((k+1:Nat):Int)-1=(k:Int):=by omega
   obtain⟨ov,hrow⟩:=HA.out.r;obtain⟨s1,s2⟩:=HQS.out k;have hcl:=z6x HA.out.k.n;have e0:=hcl 0 _ rfl;have e1:=hcl 1 _ rfl;have e2:=hcl 2 _ rfl;have e3:=hcl 3 _ rfl;have e4:=hcl 4 _ rfl;have e5:=hcl 5 _ rfl;have e6:=hcl 6 _ rfl;have e7:=hcl 7 _ rfl;obtain⟨a0,a1,a2,a3,_⟩:=row4 HA.out.k.y;have hk512:k<512:=by omega
   have HBt:=zh (HB1.out k hk512 g _ _ _ HA.out.drew);clear hcl HB1;rw[hz];clear hk hz
   by_cases ht:2*rB N D (k+1)+N/2 ^ k%2<D
   ·obtain⟨q1,q2⟩:=s1 ht;have HT1:Hid (∀ W,_):=zh fun W=>fun (hK:QvAt g w hi lo d (uOf (qB N D (k+1))) (uOf (rB N D (k+1))) W)=>HTk.out k g hK.r.choose _ (uOf (rB N D k)) W false hK hK.r.choose_spec (fun _=>⟨by rw[q2],rfl⟩) (fun h=>absurd h (by omega))
    obtain⟨Q2,hQ2⟩:∃ Q2,Q2=uOf (qB N D k):=⟨_,rfl⟩;have HF:Hid (∀ W,QvAt g w hi lo d (uOf (qB N D (k+1))) (uOf (rB N D k)) W->QvAt g w hi lo d Q2 (uOf (rB N D k)) W):=fun W h=>by rw[hQ2,q1];exact h
    have HQQ:Hid (∀ {R W},QvAt g w hi lo d Q2 R W->QvAt g w hi lo d (uOf (qB N D k)) R W):=fun h=>by rw[<- hQ2];exact h
    obtain⟨R2,hR2⟩:∃ R2,R2=uOf (rB N D k):=⟨_,rfl⟩;have HRR:Hid (∀ {Q W},QvAt g w hi lo d Q R2 W->QvAt g w hi lo d Q (uOf (rB N D k)) W):=fun h=>by rw[<- hR2];exact h
    rw[<- hR2]at HT1 HF;clear q1 q2 s1 s2 ht HTk HQS HQL hQ2 hR2;generalize uOf (qB N D (k+1))=Q at *
    generalize uOf (rB N D (k+1))=R at *
    generalize N/2 ^ k%2=bt at *
    go_upto_region 10 with fail
    go_cut [39] (fun s39 wc=>s39= .bool false/\QvAt g w hi lo d Q2 R2 wc)
    case first =>
     go_region_with (first | (go_at_call 223;(with_reducible refine zm HBt.out ?_);rintro e w3 ⟨rfl,hL3⟩;obtain⟨v0,v1,v2,v3,_⟩:=row4 hL3.k.y;have HT3:=zh (HT1.out _ hL3))|(go_at_call 222;refine zm HT3.out ?_;rintro e w4 ⟨rfl,hL4⟩;have HL4:=zh (HF.out _ hL4)))
     all_goals
      go_wp2_with fail
      go_meet
      exact⟨rfl,HL4.out⟩
    case rest =>
     obtain⟨rfl,hL5⟩:=hcut;have HL5:=zh hL5;clear hL5 HBt HT1 HF;go_wp2_with fail;go_roundw
     case rel=>exact⟨k,by go_num,by omega,HQQ.out (HRR.out HL5.out)⟩
     case measure=>simp[intOf]
   ·have hte:D<=2*rB N D (k+1)+N/2 ^ k%2:=by omega
    obtain⟨hk256,q1,q2⟩:=s2 hte;obtain⟨o1,o2,o3⟩:=zyo hk256 (HQL.out (k+1)) (zyh N D (k+1));have HT1:Hid (∀ W,_):=zh fun W=>fun (hK:QvAt g w hi lo d (uOf (qB N D (k+1))) (uOf (rB N D (k+1))) W)=>HTk.out k g hK.r.choose _ (uOf (rB N D k)) W true hK hK.r.choose_spec (fun h=>absurd h (by omega)) (fun _=>⟨by rw[q2],rfl⟩)
    obtain⟨R2,hR2⟩:∃ R2,R2=uOf (rB N D k):=⟨_,rfl⟩;have HRR:Hid (∀ {W},QvAt g w hi lo d ((uOf (qB N D (k+1))).set (k/64) ((uOf (qB N D (k+1))).at (k/64)+2 ^ (k%64))) R2 W->QvAt g w hi lo d (uOf (qB N D k)) (uOf (rB N D k)) W):=fun h=>by rw[<- hR2,q1,<- o2];exact h
    rw[<- hR2]at HT1;clear q1 q2 s1 s2 ht hte HTk HQS HQL hR2 o2;generalize uOf (qB N D (k+1))=Q at *
    generalize uOf (rB N D (k+1))=R at *
    generalize N/2 ^ k%2=bt at *
    go_upto_region 10 with fail
    go_cut [39] (fun s39 wc=>s39= .bool true/\QvAt g w hi lo d Q R2 wc)
    case first =>
     go_region_with (first | (go_at_call 223;(with_reducible refine zm HBt.out ?_);rintro e w3 ⟨rfl,hL3⟩;obtain⟨v0,v1,v2,v3,_⟩:=row4 hL3.k.y;have HT3:=zh (HT1.out _ hL3))|(go_at_call 222;refine zm HT3.out ?_;rintro e w4 ⟨rfl,hL4⟩;have HL4:=zh (hL4)))
     all_goals
      go_wp2_with fail
      go_meet
      exact⟨rfl,HL4.out⟩
    case rest =>
     obtain⟨rfl,hL5⟩:=hcut;have q1:(k:Int).tdiv 64=((k/64:Nat):Int):=by rw[Int.tdiv_eq_ediv_of_nonneg (by omega)];rfl
     have q2:(k:Int).tmod 64=((k%64:Nat):Int):=by rw[Int.tmod_eq_emod_of_nonneg (by omega)];rfl
     have q3:IntKind.i64.wrap ((k/64:Nat):Int)=((k/64:Nat):Int):=by rw[IntKind.wrap_i64];omega
     have q4:IntKind.i64.wrap ((k%64:Nat):Int)=((k%64:Nat):Int):=by rw[IntKind.wrap_i64];omega
     have q5:((k/64:Nat):Int)<4:=by omega
     have q6:(k:Int)/64<4:=by omega
     have q7:k/64<4:=by omega
     have q8:IntKind.i64.wrap ((k:Int)/64)=((k/64:Nat):Int):=by rw[IntKind.wrap_i64];omega
     have q9:IntKind.i64.wrap ((k:Int)%64)=((k%64:Nat):Int):=by rw[IntKind.wrap_i64];omega
     have cQ:wc.cell? ⟨g,k/64,none⟩=some (.int .u64 (Q.at (k/64))):=by rw[cell_of_row _ _ _ _ _ _ hL5.q];exact z4v Q _ q7
     have fQ:wc.frozen? ⟨g,k/64,none⟩=false:=frozen_of_row _ _ _ _ _ hL5.q;have HN5:=zh (hL5.setQ (k/64) (Q.at (k/64)+2 ^ (k%64)) q7).drew;have HO:Hid (bits .or .u64 ((Q.at (k/64):Nat):Int) (IntKind.u64.wrap (2 ^ (k%64)))=((Q.at (k/64)+2 ^ (k%64):Nat):Int)):=by
      have hc:(2:Int) ^ (k%64)=((2 ^ (k%64):Nat):Int):=by simp
      rw[hc,IntKind.wrap_u64,show(((2 ^ (k%64):Nat):Int)%18446744073709551616)=((2 ^ (k%64):Nat):Int)from Int.emod_eq_of_lt (Int.natCast_nonneg _) (Int.ofNat_lt.2 o3)]
      exact o1
     clear hL5 HBt HT1 o1 o3;go_wp2_with fail
     go_region
     all_goals
      go_wp2_with fail;go_roundw
      case rel=>exact⟨k,by go_num,by omega,HRR.out (by rw[HO.out];exact HN5.out)⟩
      case measure=>simp[intOf]
theorem zvf(hi lo d:W4)(hh:hi.Ok)(hl:lo.Ok)(hd:d.Ok)(w:World):Calls Tryz.prog 175 #[wV hi lo,uV d] w (zgf hi lo d w):=by
 by_cases h0:hi=(0,0,0,0)
 ·subst h0;exact zw1 lo d hl hd w
 ·by_cases h1:uN d<=uN hi
  ·exact zt6 hi lo d hh hd h0 h1 w
  ·exact zt4 hi lo d hh hl hd h0 (by omega) w
def mdQ(x y d:W4):W4:=if uN x*uN y/115792089237316195423570985008687907853269984665640564039457584007913129639936<uN d then uOf (uN x*uN y/uN d)else(0,0,0,0)
def mdR(x y d:W4):W4:=if uN x*uN y/115792089237316195423570985008687907853269984665640564039457584007913129639936<uN d then uOf (uN x*uN y%uN d)else(0,0,0,0)
def mdB(x y d:W4):Bool:=decide (uN x*uN y/115792089237316195423570985008687907853269984665640564039457584007913129639936<uN d)
theorem zru(n:Nat)(h:n<115792089237316195423570985008687907853269984665640564039457584007913129639936*115792089237316195423570985008687907853269984665640564039457584007913129639936):uN (hiOf n)=n/115792089237316195423570985008687907853269984665640564039457584007913129639936/\wN (hiOf n) (uOf n)=n:=by
 have h1:uN (hiOf n)=n/115792089237316195423570985008687907853269984665640564039457584007913129639936:=by
  unfold hiOf;exact z5f (Nat.div_lt_of_lt_mul h)
 refine⟨h1,?_⟩;unfold wN;rw[h1,zr0];have:=Nat.div_add_mod n 115792089237316195423570985008687907853269984665640564039457584007913129639936;omega
theorem zy7(x y d:W4)(hx:x.Ok)(hy:y.Ok):quoQ (hiOf (uN x*uN y)) (uOf (uN x*uN y)) d=mdQ x y d/\quoR (hiOf (uN x*uN y)) (uOf (uN x*uN y)) d=mdR x y d/\quoB (hiOf (uN x*uN y)) d=mdB x y d:=by
 have hlt:uN x*uN y<115792089237316195423570985008687907853269984665640564039457584007913129639936*115792089237316195423570985008687907853269984665640564039457584007913129639936:=Nat.mul_lt_mul'' (z2i hx) (z2i hy);obtain⟨h1,h2⟩:=zru _ hlt;unfold quoQ quoR quoB mdQ mdR mdB;rw[h1,h2];exact⟨rfl,rfl,rfl⟩
theorem zyt(x y d:W4)(hx:x.Ok)(hy:y.Ok)(hd:d.Ok)(w:World):Calls Tryz.prog 175 #[wV (hiOf (uN x*uN y)) (uOf (uN x*uN y)),uV d] w fun e w'=>e= .returned (.tuple #[uV (mdQ x y d),uV (mdR x y d),.bool (mdB x y d)])/\Below w.heap.size w w':=by
 obtain⟨e1,e2,e3⟩:=zy7 x y d hx hy;exact(zvf (hiOf (uN x*uN y)) (uOf (uN x*uN y)) d (z1y _) (z1y _) hd w).mono fun e w' ⟨he,hb⟩=>⟨by rw[he,e1,e2,e3],hb⟩
end Go.Proofs.YtnkilceibkkjlaaGreat
