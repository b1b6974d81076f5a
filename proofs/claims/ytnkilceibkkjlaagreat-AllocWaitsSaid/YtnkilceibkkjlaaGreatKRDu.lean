/- What is proved here: the reference's alloc, read: key, of -/
import Derived.Test.YtnkilceibkkjlaaGreatKRFq
import Derived.Test.YtnkilceibkkjlaaGreatKAlW
set_option maxRecDepth 100000
set_option maxHeartbeats 16000000
namespace Go.Proofs.YtnkilceibkkjlaaGreat
open Go.RowKit
theorem z4b(t:Nat)(ht1:1<=t)(ht2:t<=255)(x:I4)(hx:x.Ok)(w:World):Calls Tryz.prog 92 #[.int .i64 t,idV x] w fun e w'=>e= .returned (.string (aKey t x))/\Below w.heap.size w w':=by
 have hc0:=z0g (heap_alloc_new w (.cells (idL x) 65));obtain⟨q0,q1,q2,q3⟩:=hc0;have HK:Hid (Calls Tryz.prog 95 #[.int .i64 t,.slice (some ⟨w.heap.size+1,0,none⟩) 4 4] ((w.alloc (.cells (idL x) 65)).alloc (.cells (idL x) 3)) fun e w'=>e= .returned (.string (aKey t x))/\Below w.heap.size w w'):=by
  have hr:=heap_alloc_new (w.alloc (.cells (idL x) 65)) (.cells (idL x) 3);rw[World.size_alloc]at hr;obtain⟨c0,c1,c2,c3⟩:=z0g hr;refine(z7a t ht1 ht2 _ x.l _ (z3p (g:=w.heap.size+1) (l:=x.l) fun j z hj => ?_) (by simp) hx).mono fun e w' ⟨he,hb⟩=>⟨he,z0b (z00 (z00 (Below.refl _ w) _) _) hb⟩
  match j,hj with
  | 0,hj=>cases hj;exact c0
  | 1,hj=>cases hj;exact c1
  | 2,hj=>cases hj;exact c2
  | 3,hj=>cases hj;exact c3
 generalize aKey t x=k at *
 go_enter Tryz.func92,Tryz.ntmps92;go_wp2_with (go_at_call 95;refine HK.out.mono ?_;rintro e w1 ⟨rfl,h1⟩);go_ret;exact⟨rfl,h1⟩
theorem zhk(w:World)(b:Nat)(L:List Nat)(s:St)(f:Nat)(x:I4)(hx:x.Ok)(h:RRep w b s L)(hf:s.Fit f)(hm:f<10000000000):Calls Tryz.prog 28 #[.pointer (some ⟨b,0,none⟩),idV x] w fun e w'=>e= .returned (uV (cur s x))/\Below w.heap.size w w':=by
 have hn:s.ents.length<1000000000000:=by have:=hf.size;unfold St.size at this;omega
 have hb0:=z00 (z00 (Below.refl _ w) (.cells (idL x) 65)) (.cells (uL (0,0,0,0)) 24);have hrow:((w.alloc (.cells (idL x) 65)).alloc (.cells (uL (0,0,0,0)) 24)).heap[w.heap.size]?=some (.cells (idL x) 65 (0,0)):=by
  rw[heap_alloc_old _ _ (by simp)];exact heap_alloc_new w (.cells (idL x) 65)
 have hc:IdC w.heap.size x ((w.alloc (.cells (idL x) 65)).alloc (.cells #[.int .u64 0,.int .u64 0,.int .u64 0,.int .u64 0] 24)):=z0g hrow;obtain⟨q0,q1,q2,q3⟩:=hc
 have HC:Hid (Calls Tryz.prog 92 #[.int .i64 29,idV x] ((w.alloc (.cells (idL x) 65)).alloc (.cells (uL (0,0,0,0)) 24)) fun e w1=>e= .returned (.string (aKey 29 x)) /\
  Calls Tryz.prog 91 #[.pointer (some ⟨b,0,none⟩),.string (aKey 29 x)] w1 fun e w2=>e= .returned (uV (cur s x))/\Below w.heap.size w w2/\w2.heap[w.heap.size+1]?=some (.cells (uL (0,0,0,0)) 24 (0,0))):=by
  refine(z4b 29 (by decide) (by decide) x hx _).mono fun e w1 ⟨he,hb⟩=>⟨he,?_⟩
  obtain⟨hb1,hr1⟩:=zfc _ _ hb;refine(zfy _ b s L (aKey 29 x) (h.below hb1) hn).mono fun e w2 ⟨he,hb2⟩=>⟨he,z0b hb1 hb2,(hb2.block _ (Array.getElem?_eq_some_iff.1 hr1).1).trans hr1⟩
 clear hb0 hrow h hn hf;generalize cur s x=y at *
 generalize aKey 29 x=k at *
 go_enter Tryz.func28,Tryz.ntmps28;go_wp2_with fail;refine zm HC.out ?_;rintro e w1 ⟨rfl,hD⟩;have HD:=zh hD;clear hD HC;go_wp2_with fail;refine zm HD.out ?_;rintro e w3 ⟨rfl,hb3,hrow⟩;have HR:=zh hrow;obtain⟨_,_,_,_,r0,r1,r2,r3⟩:=row4 hrow;clear hrow HD;go_wp2_with fail;refine bodyPost_ret (results_cell_row rfl _ _ (w.heap.size+1) 24 (uL y) (0,0) _ rfl (put4 HR.out y) Tryz.underlying24 rfl (by kernel_rfl)) rfl ?_;exact⟨rfl,z0f hb3 (by omega) _ _ _ _⟩
theorem z9b(a b:Int)(ha:a<9223372036854775808)(hb:b<9223372036854775808)(w:World):Calls Tryz.prog 93 #[.int .i64 a,.int .i64 b] w fun e w'=>e= .returned (.string (keyL 32 [a,b]))/\Below w.heap.size w w':=by
 have HK:=zh (zi8 32 (by decide) (by decide) a b ha hb w);generalize keyL 32 [a,b]=k at *
 go_enter Tryz.func93,Tryz.ntmps93;go_wp2_with fail;refine zm HK.out ?_;rintro e w1 ⟨rfl,h1⟩;go_wp2_with fail;go_ret;exact⟨rfl,h1⟩
theorem z4d(w:World)(b:Nat)(L:List Nat)(s:St)(f:Nat)(x y:Int)(hx:x<9223372036854775808)(hy:y<9223372036854775808)(h:RRep w b s L)(hf:s.Fit f)(hm:f<10000000000):Calls Tryz.prog 29 #[.pointer (some ⟨b,0,none⟩),.int .i64 x,.int .i64 y] w fun e w'=>e= .returned (uV (s.amt (keyL 32 [x,y])))/\Below w.heap.size w w':=by
 have hn:s.ents.length<1000000000000:=by have:=hf.size;unfold St.size at this;omega
 have HC:Hid (Calls Tryz.prog 93 #[.int .i64 x,.int .i64 y] (w.alloc (.cells (uL (0,0,0,0)) 24)) fun e w1=>e= .returned (.string (keyL 32 [x,y])) /\
  Calls Tryz.prog 91 #[.pointer (some ⟨b,0,none⟩),.string (keyL 32 [x,y])] w1 fun e w2=>e= .returned (uV (s.amt (keyL 32 [x,y])))/\Below w.heap.size w w2/\w2.heap[w.heap.size]?=some (.cells (uL (0,0,0,0)) 24 (0,0))):=by
  refine(z9b x y hx hy _).mono fun e w1 ⟨he,hb1⟩=>⟨he,?_⟩
  obtain⟨hbb,hr1⟩:=newRow _ hb1;exact(zfy _ b s L _ (h.below hbb) hn).mono fun e w2 ⟨he,hb2⟩=>⟨he,z0b hbb hb2,(hb2.block _ (Array.getElem?_eq_some_iff.1 hr1).1).trans hr1⟩
 clear h hn hf;generalize s.amt (keyL 32 [x,y])=z at *
 generalize keyL 32 [x,y]=k at *
 go_enter Tryz.func29,Tryz.ntmps29;go_wp2_with fail;refine zm HC.out ?_;rintro e w1 ⟨rfl,hD⟩;have HD:=zh hD;clear hD HC;go_wp2_with fail;refine zm HD.out ?_;rintro e w3 ⟨rfl,hb3,hrow⟩;have HR:=zh hrow;obtain⟨_,_,_,_,r0,r1,r2,r3⟩:=row4 hrow;clear hrow HD;go_wp2_with fail;refine bodyPost_ret (results_cell_row rfl _ _ w.heap.size 24 (uL z) (0,0) _ rfl (put4 HR.out z) Tryz.underlying24 rfl (by kernel_rfl)) rfl ?_;exact⟨rfl,z0f hb3 (by omega) _ _ _ _⟩
theorem zhy(w:World)(b:Nat)(L:List Nat)(s:St)(f:Nat)(x:I4)(hx:x.Ok)(h:RRep w b s L)(hf:s.Fit f)(hm:f<10000000000):Calls Tryz.prog 32 #[.pointer (some ⟨b,0,none⟩),idV x] w fun e w'=>e= .returned (.tuple #[.int .i64 (pend s x).1,uV (pend s x).2.1,.int .i64 (pend s x).2.2])/\Below w.heap.size w w':=by
 have hn:s.ents.length<1000000000000:=by have:=hf.size;unfold St.size at this;omega
 have hrow:((w.alloc (.cells (idL x) 65)).alloc (.cells (uL (0,0,0,0)) 24)).heap[w.heap.size]?=some (.cells (idL x) 65 (0,0)):=by
  rw[heap_alloc_old _ _ (by simp)];exact heap_alloc_new w (.cells (idL x) 65)
 have hc:IdC w.heap.size x ((w.alloc (.cells (idL x) 65)).alloc (.cells #[.int .u64 0,.int .u64 0,.int .u64 0,.int .u64 0] 24)):=z0g hrow;obtain⟨q0,q1,q2,q3⟩:=hc
 have HC:Hid (Calls Tryz.prog 92 #[.int .i64 30,idV x] ((w.alloc (.cells (idL x) 65)).alloc (.cells (uL (0,0,0,0)) 24)) fun e w1=>e= .returned (.string (aKey 30 x)) /\
  Calls Tryz.prog 98 #[.pointer (some ⟨b,0,none⟩),.string (aKey 30 x)] w1 fun e w2=>∃ v,e= .returned v/\Own w2 3 1 v (rowOf (s.val (aKey 30 x))).length (zmx (rowOf (s.val (aKey 30 x))))/\(∀ g,v.ownBlock=some g->w.heap.size+1<g)/\Below w.heap.size w w2/\IdC w.heap.size x w2/\w2.heap[w.heap.size+1]?=some (.cells (uL (0,0,0,0)) 24 (0,0))):=by
  refine(z4b 30 (by decide) (by decide) x hx _).mono fun e w1 ⟨he,hb⟩=>⟨he,?_⟩
  have hi1:IdC w.heap.size x w1:=z7n (z0g hrow) hb;have hsz:=hb.size;simp only[World.size_alloc]at hsz;obtain⟨hb1,hr1⟩:=zfc _ _ hb;refine(zov (h.below hb1) hf (by omega) (aKey 30 x)).mono fun e w2 ⟨v,he,ho,hg,hb2⟩=>⟨v,he,ho,fun g hgg=>(by have:=hg g hgg;omega),z0b hb1 hb2,z7n hi1 hb2,(hb2.block _ (Array.getElem?_eq_some_iff.1 hr1).1).trans hr1⟩
 have HA:Hid (∀ W,Below w.heap.size w W->Calls Tryz.prog 91 #[.pointer (some ⟨b,0,none⟩),.string (aKey 31 x)] W fun e w2=>e= .returned (uV (z2p (s.val (aKey 31 x))))/\Below W.heap.size W w2):=fun W hb=>zfy _ b s L _ (h.below hb) hn
 have HP:Hid (pend s x=zb0 (rowOf (s.val (aKey 30 x))) (z2p (s.val (aKey 31 x)))):=rfl;have HK:Hid (∀ W,Calls Tryz.prog 92 #[.int .i64 31,idV x] W fun e w'=>e= .returned (.string (aKey 31 x))/\Below W.heap.size W w'):=fun W=>z4b 31 (by decide) (by decide) x hx W
 clear hrow h hn hf;generalize z2p (s.val (aKey 31 x))=y at *
 generalize rowOf (s.val (aKey 30 x))=l at *
 generalize aKey 30 x=k at *
 generalize aKey 31 x=k2 at *
 generalize pend s x=p at *
 by_cases h2:l.length=2
 ·obtain⟨a,b,rfl⟩:∃ a b,l = [a,b]:=by
   match l,h2 with
   | [a,b],_=>exact⟨a,b,rfl⟩
  have hp:p=(a,y,b):=HP.out;subst hp;clear h2 HP;go_enter Tryz.func32,Tryz.ntmps32;go_wp2_with fail;refine zm HC.out ?_;rintro e w1 ⟨rfl,hD⟩;have HD:=zh hD;clear hD HC;go_wp2_with fail;refine zm HD.out ?_;rintro e w2 ⟨v,rfl,ho,hgn,hb2,hI2,hr2⟩;obtain⟨g,c,rfl,c0,c1⟩:=z7h ho;have hg1:w.heap.size+1<g:=hgn g rfl;have hP:PSt w x g a b w2:=⟨hb2,⟨c0,c1⟩,hI2,hr2⟩;have hPd:PSt w x g a b w2.drew:=⟨z0h hb2,⟨c0,c1⟩,hI2,hr2⟩;have HP:=zh hPd;obtain⟨_,⟨i0,i1,i2,i3⟩,f0,f1,f2,f3⟩:=hP.out;have n1:g≠w.heap.size+1:=by omega
  have n2:=Ne.symm n1;clear HD ho hgn hb2 hI2 hr2 hP hPd;go_wp2_with fail
  go_region_held3 (fun w'=>w'.cell? ⟨g,0,none⟩=some (.int .i64 a)/\w'.cell? ⟨g,1,none⟩=some (.int .i64 b)/\w'.cell? ⟨w.heap.size,0,none⟩=some (.int .i64 x.1)/\w'.cell? ⟨w.heap.size,1,none⟩=some (.int .i64 x.2.1)/\w'.cell? ⟨w.heap.size,2,none⟩=some (.int .i64 x.2.2.1)/\w'.cell? ⟨w.heap.size,3,none⟩=some (.int .i64 x.2.2.2)/\w'.frozen? ⟨w.heap.size+1,0,none⟩=false/\w'.frozen? ⟨w.heap.size+1,1,none⟩=false/\w'.frozen? ⟨w.heap.size+1,2,none⟩=false/\w'.frozen? ⟨w.heap.size+1,3,none⟩=false) (first | assumption | go_keep)
   (first
    | (go_at_call 92;refine zm (HK.out _) ?_;rintro e w3 ⟨rfl,hb3⟩;have HP3:=zh (HP.out.below hb3);obtain⟨⟨d0,d1⟩,⟨j0,j1,j2,j3⟩,e0,e1,e2,e3⟩:=HP3.out.out)
    | (go_at_call 91;refine zm (HA.out _ HP3.out.1) ?_;rintro e w4 ⟨rfl,hb4⟩;have HP4:=zh (HP3.out.below hb4);obtain⟨⟨m0,m1⟩,⟨l0,l1,l2,l3⟩,_⟩:=HP4.out.out;obtain⟨t0,t1,t2,t3,k0,k1,k2,k3⟩:=row4 HP4.out.2.2.2))
  all_goals
   go_wp2_with fail;refine bodyPost_ret (z2f rfl _ _ (w.heap.size+1) 24 (uL y) (0,0) _ rfl (put4 HP4.out.2.2.2 y) Tryz.underlying24 rfl (by kernel_rfl)) rfl ?_;exact⟨rfl,z0f HP4.out.1 (by omega) _ _ _ _⟩
 ·have hp:p=(0,(0,0,0,0),0):=by
   rw[HP.out];unfold zb0
   match l,h2 with
   | [],_=>rfl
   | [_],_=>rfl
   | _::_::_::_,_=>rfl
  subst hp
  have HC1:Hid (Calls Tryz.prog 92 #[.int .i64 30,idV x] ((w.alloc (.cells (idL x) 65)).alloc (.cells (uL (0,0,0,0)) 24)) fun e w1=>e= .returned (.string k) /\
   Calls Tryz.prog 98 #[.pointer (some ⟨b,0,none⟩),.string k] w1 fun e w2=>∃ ad c,e= .returned (.slice ad l.length c)/\Below w.heap.size w w2/\w2.heap[w.heap.size+1]?=some (.cells (uL (0,0,0,0)) 24 (0,0))):=by
   refine HC.out.mono fun e w1 ⟨he,h1⟩=>⟨he,h1.mono fun e w2 ⟨v,he,hO,_,hb,_,hr⟩ => ?_⟩
   obtain⟨ad,c,hu,_⟩:=hO.form;subst hu;exact⟨ad,c,he,hb,hr⟩
  have hne:((l.length:Int)==2)=false:=beq_eq_false_iff_ne.2 (by omega);clear HC HP h2;generalize l.length=ln at *
  go_enter Tryz.func32,Tryz.ntmps32;go_wp2_with fail;refine zm HC1.out ?_;rintro e w1 ⟨rfl,hD⟩;have HD:=zh hD;clear hD HC1;go_wp2_with fail;refine zm HD.out ?_;rintro e w2 ⟨ad,c,rfl,hb2,hrow⟩;have HR:=zh hrow;obtain⟨_,_,_,_,r0,r1,r2,r3⟩:=row4 hrow;clear hrow HD;go_wp2_with fail;refine bodyPost_ret (z2f rfl _ _ (w.heap.size+1) 24 (uL (0,0,0,0)) (0,0) _ rfl (put4 HR.out (0,0,0,0)) Tryz.underlying24 rfl (by kernel_rfl)) rfl ?_;exact⟨rfl,z0f hb2 (by omega) _ _ _ _⟩
abbrev DuX:=(Int × Int) × Option Addr × Nat × Nat
def duxV(l:List DuX):List Value:=l.flatMap fun y => [.int .i64 y.1.1,.int .i64 y.1.2,.slice y.2.1 y.2.2.1 y.2.2.2]
theorem zjl(a b:List DuX):duxV (a++b)=duxV a++duxV b:=List.flatMap_append
theorem zkw:∀ (l:List DuX) (k:Nat) (y:DuX),l[k]?=some y->(duxV l)[k*3]?=some (.int .i64 y.1.1)/\(duxV l)[k*3+1]?=some (.int .i64 y.1.2)/\(duxV l)[k*3+2]?=some (.slice y.2.1 y.2.2.1 y.2.2.2)
 | [],_,_,h=>by simp at h
 | x::l,0,y,h=>by
  simp only[List.getElem?_cons_zero,Option.some.injEq]at h
  subst h
  exact⟨rfl,rfl,rfl⟩
 | x::l,k+1,y,h=>by
  have:=zkw l k y (by simpa using h)
  rw[show(k+1)*3=k*3+1+1+1 by omega,show k*3+1+1+1+1=(k*3+1)+1+1+1 by omega,show k*3+1+1+1+2=(k*3+2)+1+1+1 by omega]
  exact this
theorem duxT:z1j Tryz.prog 294 297 (.agg #[.int .i64 0,.int .i64 0,.slice none 0 0]) 3 40:=⟨by kernel_rfl,by kernel_rfl,rfl,by decide⟩
def DOut(w wr:World)(v:Value)(ys:List DuX):Prop:=Own wr 297 3 v ys.length (duxV ys)/\(∀ g,v.ownBlock=some g->w.heap.size<=g)/\Below w.heap.size w wr
theorem DOut.start(w:World):DOut w w (.slice none 0 0) []:=⟨Own.nil _ _ _,fun g hg=>by simp[Value.ownBlock]at hg,Below.refl _ _⟩
theorem DOut.below{w wr w':World}{v:Value}{ys:List DuX}(h:DOut w wr v ys)(hb:Below wr.heap.size wr w'):DOut w w' v ys:=⟨h.1.frame fun k hk=>hb.block k (h.1.lt k hk),h.2.1,h.2.2.trans (hb.mono h.2.2.size)⟩
theorem DOut.next{w wr w':World}{v v':Value}{ys:List DuX}{y:DuX}(h:DOut w wr v ys)(hA:z0s wr 297 3 v ys.length 1 (duxV ys) (duxV [y]) v' w'):DOut w w' v' (ys ++ [y]):=by
 refine⟨by rw[zjl,List.length_append];exact hA.own,fun g hg => ?_,h.2.2.grown hA.grown h.2.2.size h.2.1⟩;rcases hA.block g hg with h1 | h1
 ·exact h.2.1 g h1
 ·exact Nat.le_trans h.2.2.size h1
theorem DOut.form{w wr:World}{v:Value}{ys:List DuX}(h:DOut w wr v ys):∃ a c,v= .slice a ys.length c:=by
 obtain⟨a,c,e,_⟩:=h.1.form;exact⟨a,c,e⟩
theorem zre{w w':World}{k:ByteArray}{e:Ending}(h:z1q w (z2c k) e w'){y:Nat × Nat}(hn:zd2 k=some y):∃ (t:Int) (g c:Nat),e= .returned (.tuple #[.int .i64 t,.slice (some ⟨g,0,none⟩) 2 c,.bool true])/\w'.cell? ⟨g,0,none⟩=some (.int .i64 y.1)/\w'.cell? ⟨g,1,none⟩=some (.int .i64 y.2)/\Below w.heap.size w w':=by
 unfold zd2 at hn;cases hp:z2c k with
 | none=>rw[hp]at hn;cases hn
 | some p =>
  obtain⟨t,ns⟩:=p;rw[hp]at hn h
  match ns,hn with
  | [m1,m2],hn =>
   cases hn;obtain⟨hb,v,he,ho,hg⟩:=h;obtain⟨g,c,rfl,c0,c1⟩:=z7h ho;exact⟨t,g,c,he,c0,c1,hb⟩
theorem zwd{w w':World}{R:Option (List Nat)}{e:Ending}(h:z1w w R e w'):∃ (a:Option Addr) (n c:Nat),e= .returned (.tuple #[.slice a n c,.bool R.isSome])/\Below w.heap.size w w':=by
 obtain⟨hb,h⟩:=h;cases R with
 | none=>exact⟨none,0,0,h,hb⟩
 | some ns =>
  obtain⟨v,he,ho,_⟩:=h;obtain⟨a,c,rfl,_⟩:=ho.form;exact⟨a,_,c,he,hb⟩
theorem zvm(w:World)(b:Nat)(L:List Nat)(s:St)(f:Nat)(h:RRep w b s L)(hf:s.Fit f)(hm:f<10000000000)(hkey:∀ x∈s.ents,x.1.size<1000000000000) :
  Calls Tryz.prog 253 #[.pointer (some ⟨b,0,none⟩)] w fun e W'=>∃ v ys,e= .returned v/\DOut w W' v ys/\ys.map Prod.fst=dueE (keyL 26 []) s:=by
 have hlen:s.ents.length<1000000000000:=by have:=hf.size;unfold St.size at this;omega
 have hval:∀ x∈s.ents,x.2.size<1000000000000:=fun x hx=>Nat.lt_of_le_of_lt (hf.vals x hx) (by decide)
 rw[show dueE (keyL 26 []) s=(z0o (keyL 26 []) s.ents).filterMap z3i from rfl]
 have hb0:=Below.refl w.heap.size w;have HK:Hid (Calls Tryz.prog 95 #[.int .i64 26,.slice none 0 0] w fun e w2=>e= .returned (.string (keyL 26 []))/\Below w.heap.size w w2):=zde 26 (by decide) (by decide) w;have HU:Hid (∀ w1,Below w.heap.size w w1->Calls Tryz.prog 94 #[.pointer (some ⟨b,0,none⟩),.string (keyL 26 [])] w1 fun e w2=>∃ ad c,e= .returned (.slice ad (z0o (keyL 26 []) s.ents).length c)/\zo6 w2 ad (z0o (keyL 26 []) s.ents)/\Below w.heap.size w w2):=fun w1 h1 =>
  (zls w1 b s L (keyL 26 []) (h.below h1) hlen).mono fun e w2 ⟨v,he,hO⟩=>by
   obtain⟨ad,c,rfl,hp⟩:=hO.1.pairs;exact⟨ad,c,he,hp,h1.trans (hO.2.2.mono h1.size)⟩
 have HL:Hid ((z0o (keyL 26 []) s.ents).length<1000000000000):=Nat.lt_of_le_of_lt (z6f _ _) hlen;have HKS:Hid (∀ (i:Nat) (x:Ent),(z0o (keyL 26 []) s.ents)[i]?=some x->x.1.size<1000000000000/\x.2.size<1000000000000):=fun i x hx=>by
  have h:=List.mem_of_getElem? hx;unfold z0o at h;exact⟨hkey x (List.mem_filter.1 h).1,hval x (List.mem_filter.1 h).1⟩
 generalize z0o (keyL 26 []) s.ents=us at *
 clear h hlen hkey hf hval;generalize keyL 26 []=kt at *
 go_enter Tryz.func253,Tryz.ntmps253;go_wp2_with fail;refine zm HK.out ?_;rintro e w1 ⟨rfl,hb1⟩;go_wp2_with fail;refine zm (HU.out w1 hb1) ?_;rintro e w2 ⟨ad,c,rfl,hp,hb2⟩;have HP:=zh hp;have HG:Hid (∀ k,k<us.length->∃ x,us[k]?=some x):=fun k hk=>⟨_,List.getElem?_eq_getElem hk⟩
 have HFL:Hid (∀ (k:Nat) (ys:List DuX),ys.map Prod.fst=(us.take k).filterMap z3i->ys.length<=k):=fun k ys he=>by
  have h1:=congrArg List.length he;rw[List.length_map]at h1;rw[h1];refine Nat.le_trans (z6q _ _) ?_;rw[List.length_take];exact Nat.min_le_left _ _
 have H0:=zh (DOut.start w2);have HEE:Hid (∀ v wr (ys:List DuX),DOut w2 wr v ys->ys.map Prod.fst=us.filterMap z3i->∃ v' ys',Ending.returned v= .returned v'/\DOut w wr v' ys'/\ys'.map Prod.fst=us.filterMap z3i):=fun v wr ys hO he=>⟨v,ys,rfl,⟨hO.1,fun g hg=>Nat.le_trans hb2.size (hO.2.1 g hg),z0b hb2 hO.2.2⟩,he⟩
 clear hp hb1 hb0 HU HK hb2;go_wp2_with fail
 go_loopw [3,15] (fun v iv wr=>∃ (k:Nat) (ys:List DuX),iv= .int .i64 k/\k<=us.length/\DOut w2 wr v ys/\ys.map Prod.fst=(us.take k).filterMap z3i) (fun _ iv _=>us.length-(intOf iv).toNat)
 case atStart=>exact⟨0,[],rfl,by omega,H0.out,rfl⟩
 case round =>
  obtain⟨k,ys,rfl,hk,hR,hys⟩:=hrel;have HR:=zh hR;clear hR H0;have hL:=HL.out
  by_cases hlt:k<us.length
  ·obtain⟨x,hx⟩:=HG.out k hlt;obtain⟨g,rfl,q1,q2⟩:=HP.out.at0 k x hx;have c1:wr.cell? ⟨g,k*2,none⟩=some (.string x.1):=by rw[HR.out.2.2.cell (p:=⟨g,k*2,none⟩) (World.block_lt_of_cell? w2 _ q1)];exact q1
   have c2:wr.cell? ⟨g,k*2+1,none⟩=some (.string x.2):=by rw[HR.out.2.2.cell (p:=⟨g,k*2+1,none⟩) (World.block_lt_of_cell? w2 _ q2)];exact q2
   have hba:Below wr.heap.size wr (wr.alloc (.cells #[.string x.1,.string x.2] 156)):=(Below.refl _ wr).alloc (Nat.le_refl _) _;have hPA:=zlh x.1 (HKS.out k x hx).1 (wr.alloc (.cells #[.string x.1,.string x.2] 156));have HNU:Hid (∀ W,DOut w2 W u3 ys->Calls Tryz.prog 167 #[.string x.2] W fun e w'=>(∃ (a:Option Addr) (n c:Nat),e= .returned (.tuple #[.slice a n c,.bool (numsL x.2.data.toList).isSome]))/\Below W.heap.size W w'):=fun W _=>(zcn x.2 (HKS.out k x hx).2 W).mono fun e w' hr=>by
    obtain⟨a,n,c,he,hb⟩:=zwd hr;exact⟨⟨a,n,c,he⟩,hb⟩
   have hst:=z5w z3i us k x hx;rw[<- hys]at hst;have hfl:=HFL.out k ys hys;have hrw:=heap_alloc_new wr (.cells #[.string x.1,.string x.2] 156);have hcell:∀ W,Below (wr.alloc (.cells #[.string x.1,.string x.2] 156)).heap.size (wr.alloc (.cells #[.string x.1,.string x.2] 156)) W->W.cell? ⟨wr.heap.size,1,none⟩=some (.string x.2):=fun W hb=>by
    rw[cell_of_row _ _ _ _ _ _ ((hb.block _ (z02 hrw)).trans hrw)];rfl
   clear q1 q2 hrw;cases hn:zd2 x.1 with
   | none =>
    have hid0:z3i x=none:=by unfold z3i;rw[hn]
    rw[hid0]at hst;simp only[Option.toList_none,List.append_nil]at hst;have HPA:Hid (Calls Tryz.prog 96 #[.string x.1] (wr.alloc (.cells #[.string x.1,.string x.2] 156)) fun e w3=>(∃ (t:Int) (a:Option Addr) (m c:Nat) (ok:Bool),e= .returned (.tuple #[.int .i64 t,.slice a m c,.bool ok])/\((m:Int)==2)=false)/\DOut w2 w3 u3 ys/\w3.cell? ⟨wr.heap.size,1,none⟩=some (.string x.2)):=
     hPA.mono fun e w3 hr=>⟨zef hr hn,HR.out.below (z0b hba hr.1),hcell _ hr.1⟩
    have HST:=zh hst;generalize (numsL x.2.data.toList).isSome=is at *
    clear hPA hst hn hx HR hba hid0 hys hcell;go_wp2_with fail;refine zm HPA.out ?_;rintro e w3 ⟨⟨t,a3,m3,c3,ok,rfl,hm3⟩,hR3,hc3⟩;have HR3:=zh hR3;clear hR3 HPA;go_wp2_with fail;refine zm (HNU.out _ HR3.out) ?_;rintro e w4 ⟨⟨a4,n4,c4,rfl⟩,hb4⟩;have HR4:=zh (HR3.out.below hb4);clear hb4 HR3 HNU hc3;cases ok<;>cases is
    all_goals
     go_wp2_with fail;go_roundw
     case rel=>exact⟨k+1,ys,by go_num,by omega,HR4.out,HST.out.symm⟩
     case measure=>simp[intOf];omega
   | some y =>
    have HPA:Hid (Calls Tryz.prog 96 #[.string x.1] (wr.alloc (.cells #[.string x.1,.string x.2] 156)) fun e w3=>∃ (t:Int) (g c:Nat),e= .returned (.tuple #[.int .i64 t,.slice (some ⟨g,0,none⟩) 2 c,.bool true])/\w3.cell? ⟨g,0,none⟩=some (.int .i64 y.1)/\w3.cell? ⟨g,1,none⟩=some (.int .i64 y.2)/\DOut w2 w3 u3 ys/\w3.cell? ⟨wr.heap.size,1,none⟩=some (.string x.2)):=
     hPA.mono fun e w3 hr=>by
      obtain⟨t,g,c,he,h0,h1,hb⟩:=zre hr hn;exact⟨t,g,c,he,h0,h1,HR.out.below (z0b hba hb),hcell _ hb⟩
    have hid0:z3i x=if (numsL x.2.data.toList).isSome then some ((y.1:Int),(y.2:Int))else none:=by unfold z3i;rw[hn]
    rw[hid0]at hst;have hform:=HR.out.form;generalize (numsL x.2.data.toList).isSome=is at *
    clear hPA hn hx hba hid0 hys hcell;obtain⟨y1,y2⟩:=y;dsimp only at hst HPA;cases is with
    | false =>
     have HST:Hid (ys.map Prod.fst=(us.take (k+1)).filterMap z3i):=zh (by rw[hst];simp);clear hst HR;go_wp2_with fail;refine zm HPA.out ?_;rintro e w3 ⟨t,g3,c3,rfl,d0,d1,hR3,hc3⟩;have HR3:=zh hR3;clear hR3 HPA;go_wp2_with fail;refine zm (HNU.out _ HR3.out) ?_;rintro e w4 ⟨⟨a4,n4,c4,rfl⟩,hb4⟩;have HR4:=zh (HR3.out.below hb4);clear hb4 HR3 HNU hc3 d0 d1;go_wp2_with fail;go_roundw
     case rel=>exact⟨k+1,ys,by go_num,by omega,HR4.out,HST.out⟩
     case measure=>simp[intOf];omega
    | true =>
     have HST:Hid (∀ z,(ys ++ [(((y1:Int),(y2:Int)),z)]:List DuX).map Prod.fst=(us.take (k+1)).filterMap z3i):=fun z=>by rw[hst];simp
     obtain⟨av,cv,hv⟩:=hform;subst hv;clear hst HR;go_wp2_with fail;refine zm HPA.out ?_;rintro e w3 ⟨t,g3,c3,rfl,d0,d1,hR3,hc3⟩;have HR3:=zh hR3;clear hR3 HPA;go_wp2_with fail;refine zm (HNU.out _ HR3.out) ?_;rintro e w4 ⟨⟨a4,n4,c4,rfl⟩,hb4⟩;have HR4:=zh (HR3.out.below hb4);have g0:w4.cell? ⟨g3,0,none⟩=some (.int .i64 y1):=by rw[hb4.cell (p:=⟨g3,0,none⟩) (World.block_lt_of_cell? w3 _ d0)];exact d0
     have g1:w4.cell? ⟨g3,1,none⟩=some (.int .i64 y2):=by rw[hb4.cell (p:=⟨g3,1,none⟩) (World.block_lt_of_cell? w3 _ d1)];exact d1
     have HC0:Hid (w4.drew.cell? ⟨g3,0,none⟩=some (.int .i64 y1)/\w4.drew.cell? ⟨g3,1,none⟩=some (.int .i64 y2)):=⟨g0,g1⟩;have HNX:Hid (∀ v' w',z0s (w4.drew.alloc (.cells #[.int .i64 (y1:Int),.int .i64 (y2:Int),.slice a4 n4 c4] 297)) 297 3 (.slice av ys.length cv) ys.length 1 (duxV ys) [.int .i64 (y1:Int),.int .i64 (y2:Int),.slice a4 n4 c4] v' w'->DOut w2 w' v' (ys ++ [(((y1:Int),(y2:Int)),a4,n4,c4)])):=fun v' w' hA =>
      DOut.next (y:=(((y1:Int),(y2:Int)),a4,n4,c4)) (HR4.out.below (z00 (z0h zb) _)) hA
     have HOW:Hid (Own (w4.drew.alloc (.cells #[.int .i64 (y1:Int),.int .i64 (y2:Int),.slice a4 n4 c4] 297)) 297 3 (.slice av ys.length cv) ys.length (duxV ys)):=(HR4.out.below (z00 (z0h zb) _)).1;have HST2:=zh (HST.out (a4,n4,c4));have HNEW:Hid (∀ j u,([.int .i64 (y1:Int),.int .i64 (y2:Int),.slice a4 n4 c4]:List Value)[j]?=some u->(w4.drew.alloc (.cells #[.int .i64 (y1:Int),.int .i64 (y2:Int),.slice a4 n4 c4] 297)).cell? ((⟨w4.drew.heap.size,0,none⟩:Addr).add j)=some u):=fun j u hj=>by
      rw[Addr.add_lit,Nat.zero_add,cell_of_row _ _ _ _ _ _ (heap_alloc_new w4.drew (.cells #[.int .i64 (y1:Int),.int .i64 (y2:Int),.slice a4 n4 c4] 297))];simpa using hj
     have HONE:Hid (∀ u∈([.int .i64 (y1:Int),.int .i64 (y2:Int),.slice a4 n4 c4]:List Value),u.oneCell'=true):=fun u hu=>by
      simp only[List.mem_cons,List.not_mem_nil,or_false]at hu;rcases hu with rfl | rfl | rfl<;>rfl
     clear hb4 HR3 HNU hc3 d0 d1 g0 g1 HST HR4;go_upto_region 8 with fail;generalize ys ++ [(((y1:Int),(y2:Int)),a4,n4,c4)]=ys2 at *
     generalize duxV ys=dv at *
     generalize ys.length=yn at *
     obtain⟨g0,g1⟩:=HC0.out
     go_region_law (refine z7l (o:=⟨some 51,_,_,_,_,_⟩) rfl _ _ 294 294 rfl duxT duxT _ yn _ rfl HOW.out _ 1 _ [.int .i64 (y1:Int),.int .i64 (y2:Int),.slice a4 n4 c4] rfl rfl HNEW.out HONE.out (by unfold maxLen;omega) (by omega) ?_;intro v' w' hA)
     all_goals
      have HR5:=zh (HNX.out _ _ hA);clear hA HNX;go_wp2_with fail;go_roundw
      case rel=>exact⟨k+1,ys2,by go_num,by omega,HR5.out,HST2.out⟩
      case measure=>simp[intOf];omega
  ·obtain rfl:k=us.length:=by omega
   rw[List.take_length]at hys;have HE3:=zh (HEE.out _ _ _ HR.out hys);clear hys;go_wp2_with fail;go_ret;exact HE3.out
def z6k(bl:Int)(l:List (Int × Int)):Int:=l.foldl (fun n y=>if y.1=bl/\n<=y.2 then wrap64 (y.2+1)else n) 0
theorem zmn(bl:Int)(l:List (Int × Int))(y:Int × Int):z6k bl (l ++ [y])=if y.1=bl/\z6k bl l<=y.2 then wrap64 (y.2+1)else z6k bl l:=by
 unfold z6k;rw[List.foldl_append];rfl
def zyg(W:World)(a:Option Addr)(ys:List DuX):Prop:=∀ k y,ys[k]?=some y->∃ g,a=some ⟨g,0,none⟩/\W.cell? ⟨g,k*3,none⟩=some (.int .i64 y.1.1)/\W.cell? ⟨g,k*3+1,none⟩=some (.int .i64 y.1.2)/\W.cell? ⟨g,k*3+2,none⟩=some (.slice y.2.1 y.2.2.1 y.2.2.2)
theorem DOut.at{w wr:World}{v:Value}{ys:List DuX}(h:DOut w wr v ys):∃ a c,v= .slice a ys.length c/\zyg wr a ys:=by
 obtain⟨a,c,e,hc⟩:=h.1.form;refine⟨a,c,e,fun k y hk => ?_⟩;obtain⟨x0,x1,x2⟩:=zkw ys k y hk;obtain⟨g,rfl,h0⟩:=hc _ _ x0;obtain⟨g1,e1,h1⟩:=hc _ _ x1;obtain⟨g2,e2,h2⟩:=hc _ _ x2;cases e1;cases e2;exact⟨g,rfl,h0,h1,h2⟩
theorem zwc(w:World)(b:Nat)(L:List Nat)(s:St)(f:Nat)(hq:RRep w b s L)(hf:s.Fit f)(hm:f<10000000000):Calls Tryz.prog 34 #[.pointer (some ⟨b,0,none⟩)] w fun e w'=>e= .returned (.int .i64 (s.int K27))/\Below w.heap.size w w':=by
 have HK:Hid (Calls Tryz.prog 95 #[.int .i64 27,.slice none 0 0] w fun e w2=>e= .returned (.string K27)/\Below w.heap.size w w2):=zde 27 (by decide) (by decide) w;have HI:Hid (∀ w1,Below w.heap.size w w1->Calls Tryz.prog 100 #[.pointer (some ⟨b,0,none⟩),.string K27] w1 fun e w2=>e= .returned (.int .i64 (s.int K27))/\Below w.heap.size w w2):=fun w1 h1=>(zw6 w1 b s L K27 (hq.below h1) (Nat.lt_of_le_of_lt (hf.val K27) (by decide)) (Nat.lt_of_le_of_lt hf.size (by omega))).mono fun e w2 h2=>⟨h2.1,z0b h1 h2.2⟩
 clear hq hf;generalize s.int K27=n at *
 generalize K27=k27 at *
 go_enter Tryz.func34,Tryz.ntmps34;go_wp2_with fail;refine zm HK.out ?_;rintro e w1 ⟨rfl,hb1⟩;have HI1:=zh (HI.out _ hb1);clear hb1 HK HI;go_wp2_with fail;refine zm HI1.out ?_;rintro e w2 ⟨rfl,hb2⟩;go_wp2_with fail;go_ret;exact⟨rfl,hb2⟩
theorem zql(w:World)(b:Option Addr)(bl:Nat)(hbl:1099511627776<bl)(y:Value):Calls Tryz.prog 231 #[.pointer b,.int .i64 bl,y] w fun e w'=>e= .returned (.int .i64 2)/\w=w':=by
 have hd0:decide ((bl:Int)<0)=false:=decide_eq_false (by omega);have hd1:decide ((1099511627776:Int)<(bl:Int))=true:=decide_eq_true (by omega);have hd2:(1099511627776<bl)=True:=eq_true hbl;go_enter Tryz.func231,Tryz.ntmps231;go_wp2_with fail;go_ret;exact⟨rfl,rfl⟩
theorem zvp(w:World)(b:Nat)(L:List Nat)(s:St)(f bl:Nat)(hbl:bl<=1099511627776)(y:Value)(l:List Int)(hy:z0w w y l)(hyn:∀ k,y.ownBlock=some k->k∉L)(hl0:0<l.length)(hl1:l.length<1000)(hr:∀ n∈l,0<=n/\n<9223372036854775808)(hq:RRep w b s L)(hf:s.Fit f)(hm:f<1000000000)(hkey:∀ x∈s.ents,x.1.size<1000000000000)
  (hN:z6k bl (dueE (keyL 26 []) s)=dueN s bl) (h27:(z1z s bl l).int K27<1000000000000) :
  Calls Tryz.prog 231 #[.pointer (some ⟨b,0,none⟩),.int .i64 bl,y] w fun e w'=>e= .returned (.int .i64 0)/\ROn w b L (z4u s bl l) w':=by
 have hnn:0<=dueN s bl/\dueN s bl<9223372036854775808:=zio _;have hk1:keyL 26 [(bl:Int),dueN s bl]≠z05:=z5l 26 fun x hx=>by
  simp only[List.mem_cons,List.not_mem_nil,or_false]at hx;rcases hx with rfl | rfl<;>omega
 have hf1:(z1z s bl l).Fit (f+2):=hf.put _ (z15 l (by omega));have hsz:s.size<1000000000000:=Nat.lt_of_le_of_lt hf.size (by omega);have hsz1:(z1z s bl l).size<1000000000000:=Nat.lt_of_le_of_lt hf1.size (by omega);have hmap:∀ ys:List DuX,ys.map Prod.fst=dueE (keyL 26 []) s->ys.length<1000000000000:=fun ys he=>by
  have h1:=congrArg List.length he;rw[List.length_map]at h1;rw[h1];unfold dueE;refine Nat.lt_of_le_of_lt (Nat.le_trans (z6q _ _) (z6f _ _)) ?_;unfold St.size at hsz;omega
 have HBD:Hid (Calls Tryz.prog 232 #[y] w fun e w'=>e= .returned (.bool false)/\FV b w L s [] w'):=(zo7 w y l hy hl0 (by omega) (fun n hn=>(hr n hn).1)).mono fun e w' ⟨he,hw⟩=>⟨he,by rw[<- hw];exact FV.start hq⟩
 have HAL:Hid (∀ W,FV b w L s [] W->Calls Tryz.prog 253 #[.pointer (some ⟨b,0,none⟩)] W fun e w'=>∃ (a:Option Addr) (c:Nat) (ys:List DuX),e= .returned (.slice a ys.length c)/\zyg w' a ys/\ys.map Prod.fst=dueE (keyL 26 []) s/\FV b w L s [] w'):=fun W hV=>by
  obtain⟨L',h1,_⟩:=hV.on;refine(zvm W b L' s f h1 hf (by omega) hkey).mono fun e w' ⟨v,ys,he,hO,hE⟩ => ?_
  obtain⟨a,c,rfl,hat⟩:=hO.at
  exact⟨a,c,ys,he,hat,hE,QV.below hV hO.2.2⟩
 have HKY:Hid (∀ rs W,FV b w L s rs W->Calls Tryz.prog 95 #[.int .i64 26,.slice (some ⟨W.heap.size,0,none⟩) 2 2] (W.alloc (.cells #[.int .i64 bl,.int .i64 (dueN s bl)] 3)) fun e w'=>e= .returned (.string (keyL 26 [(bl:Int),dueN s bl]))/\FV b w L s rs w'):=fun rs W hV =>
  (zi8 26 (by decide) (by decide) bl (dueN s bl) (by omega) hnn.2 W).mono fun e w' ⟨he,hb⟩=>⟨he,QV.below hV hb⟩
 have HSR:Hid (∀ rs W,FV b w L s rs W->Calls Tryz.prog 187 #[.pointer (some ⟨b,0,none⟩),.string (keyL 26 [(bl:Int),dueN s bl]),y] W fun e w'=>e= .returned (.tuple #[])/\FV b w L (z1z s bl l) rs w'):=fun rs W hV=>hV.putRow hsz _ hk1 y l (hV.ints hy hyn) hl1 (fun e=>by rw[e]at hl0;cases hl0) hr
 have HK7:Hid (∀ rs W,FV b w L (z1z s bl l) rs W->Calls Tryz.prog 95 #[.int .i64 27,.slice none 0 0] W fun e w'=>e= .returned (.string K27)/\FV b w L (z1z s bl l) rs w'):=fun rs W hV=>(zde 27 (by decide) (by decide) W).mono fun e w' ⟨he,hb⟩=>⟨he,QV.below hV hb⟩
 have HLN:Hid (∀ rs W,FV b w L (z1z s bl l) rs W->Calls Tryz.prog 34 #[.pointer (some ⟨b,0,none⟩)] W fun e w'=>e= .returned (.int .i64 ((z1z s bl l).int K27))/\FV b w L (z1z s bl l) rs w'):=fun rs W hV=>hV.reads fun L' h1=>zwc W b L' _ _ h1 hf1 (by omega)
 have HSI:Hid (∀ rs W,FV b w L (z1z s bl l) rs W->Calls Tryz.prog 189 #[.pointer (some ⟨b,0,none⟩),.string K27,.int .i64 (((z1z s bl l).int K27:Int)+1)] W fun e w'=>e= .returned (.tuple #[])/\FV b w L (z4u s bl l) rs w'):=fun rs W hV=>hV.z2r hsz1 K27 _ (by omega)
 have HNN:=zh hN;have HMAP:=zh hmap;have hd0:decide ((bl:Int)<0)=false:=decide_eq_false (by omega);have hd1:decide ((1099511627776:Int)<(bl:Int))=false:=decide_eq_false (by omega);have hd2:(1099511627776<bl)=False:=eq_false (by omega);clear hmap hN hq hf hf1 hsz hsz1 hy hyn hk1 hr hl0 hl1 hkey hnn;generalize z4u s bl l=s2 at *
 generalize (z1z s bl l).int K27=n27 at *
 generalize z1z s bl l=s1 at *
 generalize keyL 26 [(bl:Int),dueN s bl]=k1 at *
 generalize dueE (keyL 26 []) s=dE at *
 generalize dueN s bl=dn at *
 generalize K27=k27 at *
 go_enter Tryz.func231,Tryz.ntmps231;go_wp2_with fail;refine zm HBD.out ?_;rintro e w1 ⟨rfl,hV1⟩;have HV1:=zh hV1;clear hV1 HBD;go_wp2_with fail;refine zm (HAL.out _ HV1.out) ?_;rintro e w2 ⟨a,c,ys,rfl,hat,hys,hV2⟩;have HV2:=zh hV2;have HAT:=zh hat
 have hylen:=HMAP.out ys hys;have HG:Hid (∀ k,k<ys.length->∃ x,ys[k]?=some x):=fun k hk=>⟨_,List.getElem?_eq_getElem hk⟩
 have HF0:Hid (z6k bl ((ys.take 0).map Prod.fst)=0):=rfl;have HFS:Hid (∀ (k:Nat) (x:DuX),ys[k]?=some x->z6k bl ((ys.take (k+1)).map Prod.fst)=if x.1.1=(bl:Int)/\z6k bl ((ys.take k).map Prod.fst)<=x.1.2 then wrap64 (x.1.2+1)else z6k bl ((ys.take k).map Prod.fst)):=fun k x hx=>by
  have h1:ys.take (k+1)=ys.take k ++ [x]:=by rw[List.take_add_one,hx];rfl
  rw[h1,List.map_append];exact zmn _ _ _
 have HFN:Hid (z6k bl ((ys.take ys.length).map Prod.fst)=dn):=by rw[List.take_length,hys];exact HNN.out
 clear hV2 hat hys HV1 HMAP HNN HAL;go_wp2_with fail
 go_loopw [7,23] (fun nv iv wr=>∃ k:Nat,iv= .int .i64 k/\k<=ys.length/\nv= .int .i64 (z6k bl ((ys.take k).map Prod.fst))/\Below w2.heap.size w2 wr) (fun _ iv _=>ys.length-(intOf iv).toNat)
 case atStart=>exact⟨0,rfl,by omega,by rw[HF0.out],Below.refl _ _⟩
 case round =>
  obtain⟨k,rfl,hk,rfl,hB⟩:=hrel;have HB:=zh hB;clear hB
  by_cases hlt:k<ys.length
  ·obtain⟨x,hx⟩:=HG.out k hlt;obtain⟨g,rfl,q0,q1,q2⟩:=HAT.out k x hx;have HFK:=zh (HFS.out k x hx);obtain⟨⟨x0,x1⟩,xa,xn,xc⟩:=x;dsimp only at q0 q1 q2 HFK;have c0:wr.cell? ⟨g,k*3,none⟩=some (.int .i64 x0):=by rw[HB.out.cell (p:=⟨g,k*3,none⟩) (World.block_lt_of_cell? w2 _ q0)];exact q0
   have c1:wr.cell? ⟨g,k*3+1,none⟩=some (.int .i64 x1):=by rw[HB.out.cell (p:=⟨g,k*3+1,none⟩) (World.block_lt_of_cell? w2 _ q1)];exact q1
   have c2:wr.cell? ⟨g,k*3+2,none⟩=some (.slice xa xn xc):=by rw[HB.out.cell (p:=⟨g,k*3+2,none⟩) (World.block_lt_of_cell? w2 _ q2)];exact q2
   have HR:Hid (Below w2.heap.size w2 (wr.alloc (.cells #[.int .i64 x0,.int .i64 x1,.slice xa xn xc] 297))):=HB.out.alloc HB.out.size _;clear hx q0 q1 q2 HB;obtain⟨F1,HF1⟩:∃ F1,Hid (z6k bl ((ys.take (k+1)).map Prod.fst)=F1):=⟨_,zh rfl⟩;rw[HF1.out]at HFK;generalize z6k bl ((ys.take k).map Prod.fst)=F0 at *
   by_cases hb:x0=(bl:Int)
   ·have hbe:(x0==(bl:Int))=true:=beq_iff_eq.2 hb
    by_cases hle:F0<=x1
    ·have hde:decide (F0<=x1)=true:=decide_eq_true hle;have HE:Hid (F1=wrap64 (x1+1)):=zh (by rw[HFK.out,if_pos ⟨hb,hle⟩]);clear HFK hb;go_wp2_with fail;go_roundw
     case rel=>exact⟨k+1,by go_num,by omega,by rw[HF1.out,HE.out],HR.out⟩
     case measure=>simp[intOf];omega
    ·have hde:decide (F0<=x1)=false:=decide_eq_false hle;have HE:Hid (F1=F0):=zh (by rw[HFK.out,if_neg fun h=>hle h.2]);clear HFK hb;go_wp2_with fail;go_roundw
     case rel=>exact⟨k+1,by go_num,by omega,by rw[HF1.out,HE.out],HR.out⟩
     case measure=>simp[intOf];omega
   ·have hbe:(x0==(bl:Int))=false:=beq_eq_false_iff_ne.2 hb;have HE:Hid (F1=F0):=zh (by rw[HFK.out,if_neg fun h=>hb h.1]);clear HFK hb;go_wp2_with fail;go_roundw
    case rel=>exact⟨k+1,by go_num,by omega,by rw[HF1.out,HE.out],HR.out⟩
    case measure=>simp[intOf];omega
  ·obtain rfl:k=ys.length:=by omega
   rw[HFN.out];have hV3:=QV.below HV2.out HB.out;have HK3:=zh (HKY.out _ _ hV3);clear hV3 HKY HB HV2 HFS HF0 HG HAT HFN;go_wp2_with fail;refine zm HK3.out ?_;rintro e w4 ⟨rfl,hV4⟩;have HV4:=zh hV4;clear hV4 HK3;go_wp2_with fail;refine zm (HSR.out _ _ HV4.out) ?_;rintro e w5 ⟨rfl,hV5⟩;have HV5:=zh hV5;clear hV5 HSR HV4;go_wp2_with fail;refine zm (HK7.out _ _ HV5.out) ?_;rintro e w6 ⟨rfl,hV6⟩;have HV6:=zh hV6;clear hV6 HK7 HV5;go_wp2_with fail;refine zm (HLN.out _ _ HV6.out) ?_;rintro e w7 ⟨rfl,hV7⟩;have HV7:=zh hV7;clear hV7 HLN HV6;go_wp2_with fail;refine zm (HSI.out _ _ HV7.out) ?_;rintro e w8 ⟨rfl,hV8⟩;have HR:Hid (ROn w b L s2 w8):=FV.done hV8
   clear hV8 HSI HV7;go_wp2_with fail;go_ret;exact⟨rfl,HR.out⟩
end Go.Proofs.YtnkilceibkkjlaaGreat
