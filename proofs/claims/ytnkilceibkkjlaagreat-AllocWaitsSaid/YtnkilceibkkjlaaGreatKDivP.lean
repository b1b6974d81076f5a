/- What is proved here: what a round of u256.Div reckons, an -/
import Derived.Test.YtnkilceibkkjlaaGreatKLenP
set_option maxRecDepth 100000
set_option maxHeartbeats 16000000
namespace Go.Proofs.YtnkilceibkkjlaaGreat
open Go.RowKit
def divQ(x y:W4):W4:=uOf (uN x/uN y)
def divR(x y:W4):W4:=if uN y=0 then(0,0,0,0)else uOf (uN x%uN y)
def divB(y:W4):Bool:=decide (uN y≠0)
theorem z2x{P:Program}{fn:Func}{p q u:Tmp}{ty:TypeId}(h:fn.results=#[.cell p ty,.cell q ty,.tmp u])(tmps:Array Value)(w:World)(g g':Nat)(t:TypeId)(cs cs':Array Value)(fr:Nat × Nat)(d:TypeDesc)
  (hp:tmps.getD p undef= .pointer (some ⟨g,0,none⟩)) (hg:w.heap[g]?=some (.cells cs t fr))
  (hq:tmps.getD q undef= .pointer (some ⟨g',0,none⟩)) (hg':w.heap[g']?=some (.cells cs' t fr))
  (hu:P.underlying ty=some d) (hd:(match d with | .struct _ | .array _ _=>true | _=>false)=true) (hi:(P.info? ty).map (·.size)=some cs.size) (hi':(P.info? ty).map (·.size)=some cs'.size) :
  (results fn tmps).run P w= .ok (.tuple #[.agg cs,.agg cs',tmps.getD u undef]) w:=by
 have hp':tmps[p]?.getD undef= .pointer (some ⟨g,0,none⟩):=by simpa using hp
 have hq':tmps[q]?.getD undef= .pointer (some ⟨g',0,none⟩):=by simpa using hq
 simp[results,h,hp',hq',asAddr,Result.andThen,run_loadVar_row w g t ty cs fr d hg hu hd hi,run_loadVar_row w g' t ty cs' fr d hg' hu hd hi']
theorem zkj{x:W4}(hx:x.Ok)(i:Nat)(hi:i<256):bits .and .u64 (((x.at (i/64):Nat):Int)/2 ^ (i%64)) 1=((uN x/2 ^ i%2:Nat):Int):=by
 have hw:=hx.at (i/64);have h1:((x.at (i/64):Nat):Int)/2 ^ (i%64)=((x.at (i/64)/2 ^ (i%64):Nat):Int):=by
  rw[Int.natCast_ediv,Int.natCast_pow];rfl
 have hle:x.at (i/64)/2 ^ (i%64)<=x.at (i/64):=Nat.div_le_self _ _;rw[h1,show(1:Int)=((1:Nat):Int)from rfl,bits_and_u64_nat _ _ (by omega) (by decide)]
 congr 1;rw[Nat.and_one_is_mod];have hk:i/64<4:=by omega
 have e:x.at (i/64)=uN x/18446744073709551616 ^ (i/64)%18446744073709551616:=by rw[<- zkb _ _ hk,zn0 hx]
 rw[e,zjs,show(18446744073709551616:Nat)=2 ^ (i%64)*2 ^ (64-i%64)by rw[<- Nat.pow_add,show i%64+(64-i%64)=64 by omega],Nat.mod_mul_right_div_self,Nat.div_div_eq_div_mul,<- Nat.pow_add,show 64*(i/64)+i%64=i by omega]
 rw[Nat.mod_mod_of_dvd];exact⟨2 ^ (63-i%64),by rw[Nat.mul_comm,<- Nat.pow_succ];congr 1;omega⟩
theorem zbv{d y:W4}{n b:Nat}(hy:y.Ok)(hd:d.Ok)(hn:n<uN d)(hb:b<=1)(hr:uN y=n) :
  (2*n+b<uN d->dblC y b 4=0/\z3l (dblW y b 4) d≠0/\dblW y b 4=uOf (2*n+b)) /\
  (uN d<=2*n+b->dblC y b 4=0->z3l (dblW y b 4) d=0/\z3s (dblW y b 4) d=uOf (2*n+b-uN d)) /\
  (uN d<=2*n+b->dblC y b 4≠0->z3l (dblW y b 4) d≠0/\z3s (dblW y b 4) d=uOf (2*n+b-uN d)):=by
 obtain⟨hok,hsum⟩:=za7 hy hb;have hc:=zj2 hy hb 4;have hlt:=z2i hok;have hdl:=z2i hd;rw[hr]at hsum;refine⟨fun h=>⟨by omega,fun e => ?_,z6c hok (z1y _) (by rw[z5f (by omega)];omega)⟩,fun h hz => ?_,fun h hz => ?_⟩
 ·have:=(z3f hok hd).1 e;omega
 ·rw[hz]at hsum;have h1:uN d<=uN (dblW y b 4):=by omega
  refine⟨(z3f hok hd).2 h1,?_⟩;rw[zl9 hok hd h1];congr 1;omega
 ·have h1:dblC y b 4=1:=by omega
  rw[h1]at hsum;have h2:uN (dblW y b 4)<uN d:=by omega
  refine⟨fun e => ?_,?_⟩
  ·have:=(z3f hok hd).1 e;omega
  ·rw[zms hok hd h2];congr 1;omega
theorem zn8{q:Nat}(h:2*q+1<115792089237316195423570985008687907853269984665640564039457584007913129639936):dblW (uOf q) 0 4=uOf (2*q)/\(uOf (2*q)).set 0 ((uOf (2*q)).at 0+1)=uOf (2*q+1)/\bits .or .u64 (((uOf (2*q)).at 0:Nat):Int) 1=(((uOf (2*q)).at 0+1:Nat):Int):=by
 obtain⟨hok,hsum⟩:=za7 (z1y q) (b:=0) (by omega);rw[z5f (by omega)]at hsum;have hlt:=z2i hok;have h1:dblW (uOf q) 0 4=uOf (2*q):=z6c hok (z1y _) (by rw[z5f (by omega)];omega);have hb:=zpd (2*q) 0 (by decide) (by omega) (by simp);simp only[Nat.zero_div,Nat.zero_mod,Nat.pow_zero]at hb;obtain⟨b1,b2,b3,_⟩:=hb;refine⟨h1,b3,?_⟩;rw[show(1:Int)=((1:Nat):Int)from rfl,bits_or_u64_nat _ _ (by omega) (by decide),b2]
structure LAt (g:Nat) (w:World) (x y q r:W4) (wr:World):Prop where
 b:Below w.heap.size w wr
 hg:w.heap.size+3<g
 x:wr.heap[w.heap.size]?=some (.cells (uL x) 24 (0,0))
 y:wr.heap[w.heap.size+1]?=some (.cells (uL y) 24 (0,0))
 z:wr.heap[w.heap.size+2]?=some (.cells (uL (0,0,0,0)) 24 (0,0))
 v:wr.heap[w.heap.size+3]?=some (.cells (uL (0,0,0,0)) 24 (0,0))
 q:wr.heap[g]?=some (.cells (uL q) 24 (0,0))
 r:wr.heap[g+1]?=some (.cells (uL r) 24 (0,0))
theorem LAt.below{g:Nat}{w wr w':World}{x y q r:W4}(h:LAt g w x y q r wr)(hb:Below wr.heap.size wr w'):LAt g w x y q r w':=
 ⟨z0b h.b hb,h.hg,(hb.block _ (z02 h.x)).trans h.x,(hb.block _ (z02 h.y)).trans h.y,(hb.block _ (z02 h.z)).trans h.z,(hb.block _ (z02 h.v)).trans h.v,(hb.block _ (z02 h.q)).trans h.q,(hb.block _ (z02 h.r)).trans h.r⟩
theorem LAt.drew{g:Nat}{w wr:World}{x y q r:W4}(h:LAt g w x y q r wr):LAt g w x y q r wr.drew:=h.below (z0h zb)
theorem LAt.alloc{g:Nat}{w wr:World}{x y q r:W4}(h:LAt g w x y q r wr)(o:Obj):LAt g w x y q r (wr.alloc o):=h.below (z00 zb o)
theorem LAt.other{g:Nat}{w wr:World}{x y q r:W4}(h:LAt g w x y q r wr)(f k:Nat)(u:Value)(hf:g+1<f):LAt g w x y q r (wr.setCell ⟨f,k,none⟩ u):=by
 have hg:=h.hg;have hoth:∀ j,j<=g+1->(wr.setCell ⟨f,k,none⟩ u).heap[j]?=wr.heap[j]?:=fun j hj=>Below.heap_setCell _ _ _ _ (by simp;omega)
 exact⟨h.b.setCell (p:=⟨f,k,none⟩) (by simp;omega) _,h.hg,by rw[hoth _ (by omega)];exact h.x,by rw[hoth _ (by omega)];exact h.y,by rw[hoth _ (by omega)];exact h.z,by rw[hoth _ (by omega)];exact h.v,by rw[hoth _ (by omega)];exact h.q,by rw[hoth _ (by omega)];exact h.r⟩
theorem LAt.setR{g:Nat}{w wr:World}{x y q r:W4}(h:LAt g w x y q r wr)(k v:Nat)(hk:k<4):LAt g w x y q (r.set k v) (wr.setCell ⟨g+1,k,none⟩ (.int .u64 v)):=by
 have hg:=h.hg;have hoth:∀ j,j≠g+1->(wr.setCell ⟨g+1,k,none⟩ (.int .u64 v)).heap[j]?=wr.heap[j]?:=fun j hj=>Below.heap_setCell _ _ _ _ hj
 refine⟨h.b.setCell (p:=⟨g+1,k,none⟩) (by simp;omega) _,h.hg,by rw[hoth _ (by omega)];exact h.x,by rw[hoth _ (by omega)];exact h.y,by rw[hoth _ (by omega)];exact h.z,by rw[hoth _ (by omega)];exact h.v,by rw[hoth _ (by omega)];exact h.q,?_⟩;rw[<- z9j r k v hk];exact heap_setCell_same _ _ _ _ _ _ h.r
theorem LAt.setQ{g:Nat}{w wr:World}{x y q r:W4}(h:LAt g w x y q r wr)(k v:Nat)(hk:k<4):LAt g w x y (q.set k v) r (wr.setCell ⟨g,k,none⟩ (.int .u64 v)):=by
 have hg:=h.hg;have hoth:∀ j,j≠g->(wr.setCell ⟨g,k,none⟩ (.int .u64 v)).heap[j]?=wr.heap[j]?:=fun j hj=>Below.heap_setCell _ _ _ _ hj
 refine⟨h.b.setCell (p:=⟨g,k,none⟩) (by simp;omega) _,h.hg,by rw[hoth _ (by omega)];exact h.x,by rw[hoth _ (by omega)];exact h.y,by rw[hoth _ (by omega)];exact h.z,by rw[hoth _ (by omega)];exact h.v,?_,by rw[hoth _ (by omega)];exact h.r⟩;rw[<- z9j q k v hk];exact heap_setCell_same _ _ _ _ _ _ h.q
abbrev st4(w:World)(g:Nat)(v:W4):World:=(((w.setCell ⟨g,0,none⟩ (.int .u64 v.1)).setCell ⟨g,1,none⟩ (.int .u64 v.2.1)).setCell ⟨g,2,none⟩ (.int .u64 v.2.2.1)).setCell ⟨g,3,none⟩ (.int .u64 v.2.2.2)
theorem LAt.putR{g:Nat}{w wr:World}{x y q r:W4}(h:LAt g w x y q r wr)(v:W4):LAt g w x y q v (st4 wr (g+1) v):=
 (((h.setR 0 v.1 (by decide)).setR 1 v.2.1 (by decide)).setR 2 v.2.2.1 (by decide)).setR 3 v.2.2.2 (by decide)
theorem LAt.putQ{g:Nat}{w wr:World}{x y q r:W4}(h:LAt g w x y q r wr)(v:W4):LAt g w x y v r (st4 wr g v):=
 (((h.setQ 0 v.1 (by decide)).setQ 1 v.2.1 (by decide)).setQ 2 v.2.2.1 (by decide)).setQ 3 v.2.2.2 (by decide)
theorem LAt.putO{g:Nat}{w wr:World}{x y q r:W4}(h:LAt g w x y q r wr)(f:Nat)(v:W4)(hf:g+1<f):LAt g w x y q r (st4 wr f v):=
 (((h.other f 0 _ hf).other f 1 _ hf).other f 2 _ hf).other f 3 _ hf
abbrev zcm(x y:W4)(w:World)(e:Ending)(w':World):Prop:=e= .returned (.tuple #[uV (divQ x y),uV (divR x y),.bool (divB y)])/\Below w.heap.size w w'
structure KAt (w:World) (x y:W4) (wr:World):Prop where
 b:Below w.heap.size w wr
 x:wr.heap[w.heap.size]?=some (.cells (uL x) 24 (0,0))
 y:wr.heap[w.heap.size+1]?=some (.cells (uL y) 24 (0,0))
 z:wr.heap[w.heap.size+2]?=some (.cells (uL (0,0,0,0)) 24 (0,0))
 v:wr.heap[w.heap.size+3]?=some (.cells (uL (0,0,0,0)) 24 (0,0))
abbrev w4(w:World)(x y:W4):World:=(((w.alloc (.cells (uL x) 24)).alloc (.cells (uL y) 24)).alloc (.cells #[.int .u64 0,.int .u64 0,.int .u64 0,.int .u64 0] 24)).alloc (.cells #[.int .u64 0,.int .u64 0,.int .u64 0,.int .u64 0] 24)
theorem KAt.start(w:World)(x y:W4):KAt w x y (w4 w x y):=by
 obtain⟨b,hx,hy,hz,hv⟩:=UAt.start w x y;exact⟨b,hx,hy,hz,hv⟩
theorem KAt.below{w wr w':World}{x y:W4}(h:KAt w x y wr)(hb:Below wr.heap.size wr w'):KAt w x y w':=
 ⟨z0b h.b hb,(hb.block _ (z02 h.x)).trans h.x,(hb.block _ (z02 h.y)).trans h.y,(hb.block _ (z02 h.z)).trans h.z,(hb.block _ (z02 h.v)).trans h.v⟩
theorem ze9{w:World}{g:Nat}{x:W4}(h:w.heap[g]?=some (.cells (uL x) 24 (0,0)))(y:W4):(st4 w g y).heap[g]?=some (.cells (uL y) 24 (0,0)):=put4 h y
theorem zf9(w:World){g k:Nat}(y:W4)(h:k≠g):(st4 w g y).heap[k]?=w.heap[k]?:=by
 unfold st4;rw[Below.heap_setCell _ _ _ _ h,Below.heap_setCell _ _ _ _ h,Below.heap_setCell _ _ _ _ h,Below.heap_setCell _ _ _ _ h]
theorem KAt.put{w wr:World}{x y:W4}(h:KAt w x y wr)(u v:W4):Below w.heap.size w (st4 (st4 wr (w.heap.size+2) u) (w.heap.size+3) v)/\(st4 (st4 wr (w.heap.size+2) u) (w.heap.size+3) v).heap[w.heap.size+2]?=some (.cells (uL u) 24 (0,0))/\(st4 (st4 wr (w.heap.size+2) u) (w.heap.size+3) v).heap[w.heap.size+3]?=some (.cells (uL v) 24 (0,0)):=
 ⟨z0f (z0f h.b (by omega) _ _ _ _) (by omega) _ _ _ _,by rw[zf9 _ _ (by omega)];exact ze9 h.z u,ze9 (by rw[zf9 _ _ (by omega)];exact h.v) v⟩
theorem KAt.long{w wr:World}{x y:W4}(h:KAt w x y wr)(o o':Obj)(u v:W4)(ho:o= .cells (uL u) 24)(ho':o' = .cells (uL v) 24):LAt wr.heap.size w x y u v ((wr.alloc o).alloc o'):=by
 subst ho ho';have hk:=(h.below (z00 zb (.cells (uL u) 24))).below (z00 zb (.cells (uL v) 24));refine⟨hk.b,z02 h.v,hk.x,hk.y,hk.z,hk.v,?_,?_⟩
 ·rw[heap_alloc_old _ _ (by simp)];exact heap_alloc_new wr _
 ·have:=heap_alloc_new (wr.alloc (.cells (uL u) 24)) (.cells (uL v) 24)
  rwa [World.size_alloc]at this
theorem div_zero(x:W4)(w:World):Calls Tryz.prog 220 #[uV x,uV (0,0,0,0)] w (zcm x (0,0,0,0) w):=by
 have H0:=zh (KAt.start w x (0,0,0,0));obtain⟨a0,a1,a2,a3,_⟩:=row4 H0.out.y;obtain⟨b0,b1,b2,b3,r0,r1,r2,r3⟩:=row4 H0.out.z;obtain⟨c0,c1,c2,c3,s0,s1,s2,s3⟩:=row4 H0.out.v;have hE:∀ w,(Op.equalIn 10000 24 (.agg #[.int .u64 0,.int .u64 0,.int .u64 0,.int .u64 0]) (.agg #[.int .u64 0,.int .u64 0,.int .u64 0,.int .u64 0])).run Tryz.prog w= .ok true w:=fun w=>eqU (0,0,0,0) (0,0,0,0) w
 have HE:Hid (Ending.returned (.tuple #[uV (0,0,0,0),uV (0,0,0,0),.bool false])=Ending.returned (.tuple #[uV (divQ x (0,0,0,0)),uV (divR x (0,0,0,0)),.bool (divB (0,0,0,0))])):=by
  have e1:divQ x (0,0,0,0)=(0,0,0,0):=by unfold divQ;rw[show uN (0,0,0,0)=0 from rfl,Nat.div_zero];rfl
  have e2:divR x (0,0,0,0)=(0,0,0,0):=by unfold divR;rw[if_pos (show uN (0,0,0,0)=0 from rfl)]
  have e3:divB (0,0,0,0)=false:=by unfold divB;decide
  rw[e1,e2,e3];exact zh rfl
 go_enter Tryz.func220,Tryz.ntmps220;go_wp2_with fail;refine bodyPost_ret (z2x rfl _ _ (w.heap.size+2) (w.heap.size+3) 24 (uL (0,0,0,0)) (uL (0,0,0,0)) (0,0) _ rfl ?_ rfl ?_ Tryz.underlying24 rfl (by kernel_rfl) (by kernel_rfl)) rfl ?_
 ·exact H0.out.z
 ·exact H0.out.v
 ·exact⟨HE.out,H0.out.b⟩
theorem z7b{x:W4}(h:x≠(0,0,0,0)):∀ w,(Op.equalIn 10000 24 (.agg #[.int .u64 x.1,.int .u64 x.2.1,.int .u64 x.2.2.1,.int .u64 x.2.2.2]) (.agg #[.int .u64 0,.int .u64 0,.int .u64 0,.int .u64 0])).run Tryz.prog w= .ok false w:=fun w=>by
 have:=eqU x (0,0,0,0) w
 rw[decide_eq_false h]at this
 exact this
theorem zvb(x:W4):∀ w,(Op.equalIn 10000 24 (.agg #[.int .u64 x.1,.int .u64 x.2.1,.int .u64 x.2.2.1,.int .u64 x.2.2.2]) (.agg #[.int .u64 x.1,.int .u64 0,.int .u64 0,.int .u64 0])).run Tryz.prog w= .ok (decide (x=(x.1,0,0,0))) w:=fun w=>eqU x (x.1,0,0,0) w
theorem zrj(x y:W4)(hx:x.Ok)(hy:y.Ok)(h:uN x<uN y)(w:World):Calls Tryz.prog 220 #[uV x,uV y] w (zcm x y w):=by
 have H0:=zh (KAt.start w x y);obtain⟨a0,a1,a2,a3,_⟩:=row4 H0.out.y;have hne:y≠(0,0,0,0):=fun e=>by rw[zek.1 e]at h;omega
 have hE:=z7b hne;have HC:Hid (Calls Tryz.prog 58 #[uV x,uV y] (w4 w x y) fun e w'=>e= .returned (.int .i64 (-1))/\KAt w x y w'/\Cel4 w.heap.size x w'):=(z4x x y hx hy _).mono fun e w' ⟨he,hb⟩=>⟨by rw[he];unfold uCmp;rw[if_pos h],H0.out.below hb,z1t (H0.out.below hb).x⟩
 have HE:Hid (Ending.returned (.tuple #[uV (0,0,0,0),uV x,.bool true])=Ending.returned (.tuple #[uV (divQ x y),uV (divR x y),.bool (divB y)])):=by
  have e1:divQ x y=(0,0,0,0):=by unfold divQ;rw[Nat.div_eq_of_lt h];rfl
  have e2:divR x y=x:=by unfold divR;rw[if_neg (by omega),Nat.mod_eq_of_lt h,zn0 hx]
  have e3:divB y=true:=by unfold divB;exact decide_eq_true (by omega)
  rw[e1,e2,e3];exact zh rfl
 clear hne h;go_enter Tryz.func220,Tryz.ntmps220;go_wp2_with fail;refine zm HC.out ?_;rintro e w1 ⟨rfl,hK,b0,b1,b2,b3⟩;obtain⟨c0,c1,c2,c3,r0,r1,r2,r3⟩:=row4 hK.z;obtain⟨d0,d1,d2,d3,s0,s1,s2,s3⟩:=row4 hK.v;have HP:=zh (hK.put (0,0,0,0) x);clear hK HC H0;go_wp2_with fail
 go_region
 all_goals
  go_wp2_with fail;refine bodyPost_ret (z2x rfl _ _ (w.heap.size+2) (w.heap.size+3) 24 (uL (0,0,0,0)) (uL x) (0,0) _ rfl ?_ rfl ?_ Tryz.underlying24 rfl (by kernel_rfl) (by kernel_rfl)) rfl ?_
  ·exact z6n HP.out.2.1
  ·exact z6n HP.out.2.2
  ·exact⟨HE.out,z0h HP.out.1⟩
end Go.Proofs.YtnkilceibkkjlaaGreat
