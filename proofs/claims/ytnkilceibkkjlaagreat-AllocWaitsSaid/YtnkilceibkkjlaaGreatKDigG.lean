/- What is proved here: plain facts on digits, the least fir -/
import Derived.Test.YtnkilceibkkjlaaGreatKU256
set_option maxRecDepth 100000
set_option maxHeartbeats 16000000
namespace Go.Proofs.YtnkilceibkkjlaaGreat
theorem ze5{α:Type}(l:List α)(k:Nat)(x:α)(h:l[k]?=some x):l.take (k+1)=l.take k ++ [x]:=by
 rw[List.take_add_one,h];rfl
def dgN(B:Nat):List Nat->Nat
 | []=>0
 | d::ds=>d+B*dgN B ds
theorem zcb(B:Nat):∀ (l:List Nat) (k d v:Nat),l[k]?=some d->dgN B (l.set k v)+B ^ k*d=dgN B l+B ^ k*v
 | [],k,d,v,h=>by simp at h
 | x::l,0,d,v,h=>by
  have e:x=d:=by simpa using h
  subst e
  show v+B*dgN B l+1*x=x+B*dgN B l+1*v
  omega
 | x::l,k+1,d,v,h=>by
  have h1:=zcb B l k d v (by simpa using h)
  show x+B*dgN B (l.set k v)+B ^ (k+1)*d=x+B*dgN B l+B ^ (k+1)*v
  have h2:=congrArg (B * ·) h1
  simp only[Nat.mul_add]at h2
  rw[Nat.pow_succ,Nat.mul_comm (B ^ k) B,Nat.mul_assoc,Nat.mul_assoc]
  omega
theorem zhc(B:Nat):∀ n,dgN B (List.replicate n 0)=0
 | 0=>rfl
 | n+1=>by rw[List.replicate_succ];show 0+B*dgN B _=0;rw[zhc B n];rfl
theorem zrn{B P x y o c N M:Nat}(h:M+P*o=N+P*((x*y+o+c)%B)):M+P*B*((x*y+o+c)/B)=N+P*c+P*(x*y):=by
 have h1:=Nat.div_add_mod (x*y+o+c) B;generalize (x*y+o+c)/B=q at *
 generalize (x*y+o+c)%B=r at *
 have h2:=congrArg (P * ·) h1;simp only[Nat.mul_add]at h2;rw[Nat.mul_assoc];omega
theorem zkg{B x y o c:Nat}(hx:x<B)(hy:y<B)(ho:o<B)(hc:c<B):(x*y+o+c)/B<B:=by
 rw[Nat.div_lt_iff_lt_mul (by omega)];obtain⟨b,rfl⟩:∃ b,B=b+1:=⟨B-1,by omega⟩;have h1:x*y<=b*b:=Nat.mul_le_mul (by omega) (by omega);have h2:(b+1)*(b+1)=b*b+2*b+1:=by rw[Nat.mul_add,Nat.add_mul];omega
 omega
def dLow(B:Nat)(f:Nat->Nat):Nat->Nat
 | 0=>0
 | k+1=>dLow B f k+B ^ k*f k
def mIn(B x:Nat)(y:Nat->Nat)(i:Nat)(o:List Nat):Nat->List Nat × Nat
 | 0=>(o,0)
 | j+1=>(((mIn B x y i o j).1.set (i+j) ((x*y j+(mIn B x y i o j).1.getD (i+j) 0+(mIn B x y i o j).2)%B)),(x*y j+(mIn B x y i o j).1.getD (i+j) 0+(mIn B x y i o j).2)/B)
def Words(B:Nat)(l:List Nat):Prop:=∀ d∈l,d<B
theorem Words.getD{B:Nat}(hB:0<B){l:List Nat}(h:Words B l)(k:Nat):l.getD k 0<B:=by
 rw[List.getD_eq_getElem?_getD];cases e:l[k]? with
 | none=>exact hB
 | some d=>exact h d (List.mem_of_getElem? e)
theorem Words.set{B:Nat}{l:List Nat}(h:Words B l)(k v:Nat)(hv:v<B):Words B (l.set k v):=fun d hd=>by
 rcases List.mem_or_eq_of_mem_set hd with hd | rfl
 ·exact h d hd
 ·exact hv
theorem getD_at{l:List Nat}{k:Nat}(h:k<l.length):l[k]?=some (l.getD k 0):=by
 rw[List.getD_eq_getElem?_getD,List.getElem?_eq_getElem h];rfl
theorem zfz(B x:Nat)(y:Nat->Nat)(i m:Nat)(o:List Nat)(hx:x<B)(hy:∀ k,y k<B)(ho:Words B o)(hl:i+m<=o.length):∀ j,j<=m->(mIn B x y i o j).1.length=o.length/\Words B (mIn B x y i o j).1/\(mIn B x y i o j).2<B /\
  dgN B (mIn B x y i o j).1+B ^ (i+j)*(mIn B x y i o j).2=dgN B o+B ^ i*(x*dLow B y j)/\∀ k,k<i\/i+j<=k->(mIn B x y i o j).1.getD k 0=o.getD k 0
 | 0,_=>⟨rfl,ho,by show 0<B;omega,by show dgN B o+_*0=_+_*(x*0);omega,fun k _=>rfl⟩
 | j+1,hj=>by
  obtain⟨h1,h2,h3,h4,h5⟩:=zfz B x y i m o hx hy ho hl j (by omega)
  have hw:=h2.getD (by omega) (i+j)
  have hf:=zkg hx (hy j) hw h3
  refine⟨?_,h2.set _ _ (Nat.mod_lt _ (by omega)),hf,?_,?_⟩
  ·show((mIn B x y i o j).1.set _ _).length=o.length
   rw[List.length_set];exact h1
  ·show dgN B ((mIn B x y i o j).1.set _ _)+_*_=_
   have hg:(mIn B x y i o j).1[i+j]?=some ((mIn B x y i o j).1.getD (i+j) 0):=getD_at (by omega)
   have hs:=zrn (zcb B _ _ _ ((x*y j+(mIn B x y i o j).1.getD (i+j) 0+(mIn B x y i o j).2)%B) hg)
   rw[<- Nat.add_assoc i j 1,Nat.pow_succ B (i+j)]
   rw[show(mIn B x y i o (j+1)).2=(x*y j+(mIn B x y i o j).1.getD (i+j) 0+(mIn B x y i o j).2)/B from rfl]
   rw[hs,h4,show dLow B y (j+1)=dLow B y j+B ^ j*y j from rfl,Nat.mul_add x,Nat.mul_add (B ^ i),Nat.add_assoc]
   congr 2
   rw[Nat.pow_add,Nat.mul_assoc,Nat.mul_left_comm x]
  ·intro k hk
   show((mIn B x y i o j).1.set _ _).getD k 0=_
   rw[List.getD_eq_getElem?_getD,List.getElem?_set_ne (by omega),<- List.getD_eq_getElem?_getD]
   exact h5 k (by omega)
def mOut(B n:Nat)(x y:Nat->Nat)(m:Nat):Nat->List Nat
 | 0=>List.replicate n 0
 | i+1=>(mIn B (x i) y i (mOut B n x y m i) m).1.set (i+m) (mIn B (x i) y i (mOut B n x y m i) m).2
theorem z5b(B n:Nat)(x y:Nat->Nat)(m:Nat)(hB:0<B)(hx:∀ k,x k<B)(hy:∀ k,y k<B):∀ i,i+m<=n->(mOut B n x y m i).length=n/\Words B (mOut B n x y m i)/\dgN B (mOut B n x y m i)=dLow B x i*dLow B y m/\∀ k,i+m<=k->(mOut B n x y m i).getD k 0=0
 | 0,_=>⟨List.length_replicate,fun d hd=>by rw[(List.mem_replicate.1 hd).2];exact hB,by show dgN _ (List.replicate n 0)=0*_;rw[zhc,Nat.zero_mul],fun k hk=>by
   rw[mOut,List.getD_eq_getElem?_getD,List.getElem?_replicate]
   split<;>rfl⟩
 | i+1,hi=>by
  obtain⟨h1,h2,h3,h4⟩:=z5b B n x y m hB hx hy i (by omega)
  obtain⟨g1,g2,g3,g4,g5⟩:=zfz B (x i) y i m _ (hx i) hy h2 (by omega) m (Nat.le_refl _)
  refine⟨by rw[mOut,List.length_set,g1,h1],g2.set _ _ g3,?_,?_⟩
  ·have hg:(mIn B (x i) y i (mOut B n x y m i) m).1[i+m]?=some 0:=by
    rw[getD_at (by omega),g5 (i+m) (by omega),h4 (i+m) (by omega)]
   have hs:=zcb B _ _ _ (mIn B (x i) y i (mOut B n x y m i) m).2 hg;rw[Nat.mul_zero,Nat.add_zero]at hs;rw[mOut,hs,g4,h3,show dLow B x (i+1)=dLow B x i+B ^ i*x i from rfl,Nat.add_mul,Nat.mul_assoc]
  ·intro k hk;rw[mOut,List.getD_eq_getElem?_getD,List.getElem?_set_ne (by omega),<- List.getD_eq_getElem?_getD];rw[g5 k (by omega)];exact h4 k (by omega)
def z04(ds:List Nat):Nat:=dgN 4294967296 ds
def DOk(ds:List Nat):Prop:=∀ d∈ds,d<4294967296
def digs(n:Nat):List Nat:=if h:n=0 then []else(n%4294967296)::digs (n/4294967296)
termination_by n
decreasing_by omega
abbrev BP(k:Nat):Nat:=4294967296 ^ k
theorem zxk(k:Nat):0<BP k:=Nat.pow_pos (by decide)
theorem z6w(k:Nat):BP (k+1)=4294967296*BP k:=by show 4294967296 ^ (k+1)=_;rw[Nat.pow_succ,Nat.mul_comm]
theorem z3w:digs 0 = []:=by unfold digs;rfl
theorem z9l{n:Nat}(h:n≠0):digs n=(n%4294967296)::digs (n/4294967296):=by rw[digs,dif_neg h]
theorem z0j(n:Nat):z04 (digs n)=n:=by
 induction n using Nat.strongRecOn with
 | ind n ih =>
  by_cases h:n=0
  ·subst h;rw[z3w];rfl
  ·rw[z9l h];show n%4294967296+4294967296*z04 (digs (n/4294967296))=n
   rw[ih (n/4294967296) (by omega)];omega
theorem z1h(n:Nat):DOk (digs n):=by
 induction n using Nat.strongRecOn with
 | ind n ih =>
  by_cases h:n=0
  ·subst h;rw[z3w];intro d hd;cases hd
  ·rw[z9l h];intro d hd;rcases List.mem_cons.1 hd with rfl | hd
   ·omega
   ·exact ih (n/4294967296) (by omega) d hd
theorem DOk.tail{d:Nat}{ds:List Nat}(h:DOk (d::ds)):DOk ds:=fun x hx=>h x (List.mem_cons.2 (.inr hx))
theorem DOk.take{ds:List Nat}(h:DOk ds)(k:Nat):DOk (ds.take k):=fun x hx=>h x (List.mem_of_mem_take hx)
theorem DOk.snoc{ds:List Nat}(h:DOk ds){d:Nat}(hd:d<4294967296):DOk (ds ++ [d]):=fun x hx=>by
 rcases List.mem_append.1 hx with hx | hx
 ·exact h x hx
 ·rw[List.mem_singleton.1 hx];exact hd
theorem DOk.at{ds:List Nat}(h:DOk ds){k d:Nat}(hk:ds[k]?=some d):d<4294967296:=h d (List.mem_of_getElem? hk)
theorem z2j:∀ {ds:List Nat},DOk ds->z04 ds<BP ds.length
 | [],_=>by decide
 | d::ds,h=>by
  have h1:=z2j h.tail
  have h2:=h d (by simp)
  show d+4294967296*z04 ds<BP (ds.length+1)
  rw[z6w];omega
theorem z6j:∀ (a b:List Nat),z04 (a++b)=z04 a+BP a.length*z04 b
 | [],b=>by show z04 b=0+1*z04 b;omega
 | d::a,b=>by
  show d+4294967296*z04 (a++b)=d+4294967296*z04 a+BP (a.length+1)*z04 b
  rw[z6j a b,z6w,Nat.mul_add,Nat.mul_assoc];omega
theorem zad(a:List Nat)(d:Nat):z04 (a ++ [d])=z04 a+BP a.length*d:=by
 rw[z6j];show _+_*(d+4294967296*0)=_;simp
theorem z6r:∀ n:Nat,z04 (List.replicate n 0)=0
 | 0=>rfl
 | n+1=>by rw[List.replicate_succ];show 0+4294967296*z04 _=0;rw[z6r n]
theorem z2w{ds:List Nat}{k d:Nat}(h:ds[k]?=some d):z04 (ds.take (k+1))=z04 (ds.take k)+BP k*d:=by
 rw[ze5 ds k d h,zad,List.length_take];have:=(List.getElem?_eq_some_iff.1 h).1;rw[Nat.min_eq_left (by omega)]
theorem zpc{ds:List Nat}(h:DOk ds)(k:Nat):z04 (ds.take k)=z04 ds%BP k:=by
 have e:=z6j (ds.take k) (ds.drop k);rw[List.take_append_drop]at e
 by_cases hk:k<=ds.length
 ·rw[List.length_take,Nat.min_eq_left hk]at e;have h2:=z2j (h.take k);rw[List.length_take,Nat.min_eq_left hk]at h2;rw[e,Nat.add_mul_mod_self_left,Nat.mod_eq_of_lt h2]
 ·rw[List.take_of_length_le (by omega)];have h2:=z2j h;have h3:BP ds.length<=BP k:=Nat.pow_le_pow_right (by decide) (by omega);rw[Nat.mod_eq_of_lt (by omega)]
theorem zct:∀ (ds:List Nat),DOk ds->(∀ (h:ds≠[]),ds.getLast h≠0)->digs (z04 ds)=ds
 | [],_,_=>z3w
 | d::ds,h,hl=>by
  have hd:=h d (by simp)
  have hne:z04 (d::ds)≠0:=by
   show d+4294967296*z04 ds≠0
   by_cases e:ds = []
   ·subst e;have:=hl (by simp);simp at this;show d+4294967296*0≠0
    omega
   ·have h2:=zct ds h.tail (fun he=>by have:=hl (by simp);rwa [List.getLast_cons he]at this);intro h0;have:z04 ds=0:=by omega
    rw[this,z3w]at h2;exact e h2.symm
  have ih:=zct ds h.tail (fun he=>by have:=hl (by simp);rwa [List.getLast_cons he]at this);rw[z9l hne];have e1:z04 (d::ds)%4294967296=d:=by show(d+4294967296*z04 ds)%_=d;omega
  have e2:z04 (d::ds)/4294967296=z04 ds:=by show(d+4294967296*z04 ds)/_=_;omega
  rw[e1,e2,ih]
theorem z3a{n k:Nat}(h:n<BP k):(digs n).length<=k:=by
 induction k generalizing n with
 | zero =>
  have:n=0:=by have h1:BP 0=1:=rfl;omega
  subst this;rw[z3w];exact Nat.le_refl _
 | succ k ih =>
  by_cases h0:n=0
  ·subst h0;rw[z3w];exact Nat.zero_le _
  ·rw[z9l h0,List.length_cons];rw[z6w]at h;have:=ih (n:=n/4294967296) (Nat.div_lt_of_lt_mul h);omega
theorem z6p{n k:Nat}(h:(digs n).length<=k):n<BP k:=by
 have h1:=z2j (z1h n);rw[z0j]at h1;exact Nat.lt_of_lt_of_le h1 (Nat.pow_le_pow_right (by decide) h)
theorem zs6{a b:Nat}(h:digs a=digs b):a=b:=by rw[<- z0j a,<- z0j b,h]
theorem zd8{a b:Nat}(h:(digs a).length<(digs b).length):a<b:=by
 refine Decidable.byContradiction fun hn => ?_
 have h1:b<BP (digs a).length:=Nat.lt_of_le_of_lt (Nat.le_of_not_lt hn) (z6p (Nat.le_refl _));have h2:=z3a h1;omega
theorem zoj{a b:List Nat}(ha:DOk a){k x y:Nat}(hl:a.length=b.length)(hx:a[k]?=some x)(hy:b[k]?=some y)(he:a.drop (k+1)=b.drop (k+1))(h:x<y):z04 a<z04 b:=by
 have e1:=z6j (a.take (k+1)) (a.drop (k+1));have e2:=z6j (b.take (k+1)) (b.drop (k+1));rw[List.take_append_drop]at e1 e2;rw[z2w hx]at e1;rw[z2w hy]at e2;have ka:=(List.getElem?_eq_some_iff.1 hx).1;have kb:=(List.getElem?_eq_some_iff.1 hy).1;rw[List.length_take,Nat.min_eq_left (by omega)]at e1;rw[List.length_take,Nat.min_eq_left (by omega),<- he]at e2;have h1:=z2j (ha.take k);rw[List.length_take,Nat.min_eq_left (by omega)]at h1;have h3:BP k*x+BP k<=BP k*y:=by rw[<- Nat.mul_succ];exact Nat.mul_le_mul_left _ h
 omega
def uOf(n:Nat):W4:=(n%18446744073709551616,n/18446744073709551616%18446744073709551616,n/340282366920938463463374607431768211456%18446744073709551616,n/6277101735386680763835789423207666416102355444464034512896%18446744073709551616)
theorem z1y(n:Nat):(uOf n).Ok:=by
 simp only[W4.Ok,uOf];omega
theorem zr0(n:Nat):uN (uOf n)=n%115792089237316195423570985008687907853269984665640564039457584007913129639936:=by
 simp only[uN,uOf];omega
theorem z5f{n:Nat}(h:n<115792089237316195423570985008687907853269984665640564039457584007913129639936):uN (uOf n)=n:=by
 rw[zr0];omega
theorem z2i{x:W4}(h:x.Ok):uN x<115792089237316195423570985008687907853269984665640564039457584007913129639936:=by
 obtain⟨x0,x1,x2,x3⟩:=x;obtain⟨h0,h1,h2,h3⟩:=h;simp only[uN]at *;omega
theorem z6c{x y:W4}(hx:x.Ok)(hy:y.Ok)(h:uN x=uN y):x=y:=by
 obtain⟨x0,x1,x2,x3⟩:=x;obtain⟨y0,y1,y2,y3⟩:=y;obtain⟨a0,a1,a2,a3⟩:=hx;obtain⟨b0,b1,b2,b3⟩:=hy;simp only[uN]at *
 have e0:x0=y0:=by omega
 have e1:x1=y1:=by omega
 have e2:x2=y2:=by omega
 have e3:x3=y3:=by omega
 rw[e0,e1,e2,e3]
theorem zn0{x:W4}(h:x.Ok):uOf (uN x)=x:=z6c (z1y _) h (z5f (z2i h))
theorem zjr:W4.Ok (0,0,0,0):=⟨by decide,by decide,by decide,by decide⟩
theorem zek{x:W4}:x=(0,0,0,0)↔uN x=0:=by
 obtain⟨x0,x1,x2,x3⟩:=x;simp only[uN,Prod.mk.injEq];omega
theorem zbx{x y:W4}:z8j x y=0↔uN x+uN y<115792089237316195423570985008687907853269984665640564039457584007913129639936:=by
 have h:=zkv (x:=x) (y:=y);have:=z2i (zia x y);omega
theorem zl4{x y:W4}:zcf x y=uOf (uN x+uN y):=by
 refine z6c (zia x y) (z1y _) ?_;have h:=zkv (x:=x) (y:=y);have:=z2i (zia x y);rw[zr0];omega
theorem zgg{x y:W4}(hx:x.Ok)(hy:y.Ok):uN (z3s x y)+uN y=uN x+115792089237316195423570985008687907853269984665640564039457584007913129639936*z3l x y:=by
 obtain⟨x0,x1,x2,x3⟩:=x;obtain⟨y0,y1,y2,y3⟩:=y;obtain⟨a0,a1,a2,a3⟩:=hx;obtain⟨b0,b1,b2,b3⟩:=hy;simp only at a0 a1 a2 a3 b0 b1 b2 b3;have one:∀ a b c:Nat,a<18446744073709551616->b<18446744073709551616->c<=1->subS a b c+b+c=a+18446744073709551616*subC a b c/\subC a b c<=1:=fun a b c h1 h2 h3=>by
  unfold subS subC;split<;>omega
 simp only[uN,z3s,z3l,z1l,W4.set,W4.at];obtain⟨e0,c0⟩:=one x0 y0 0 a0 b0 (by omega);obtain⟨e1,c1⟩:=one x1 y1 _ a1 b1 c0;obtain⟨e2,c2⟩:=one x2 y2 _ a2 b2 c1;obtain⟨e3,c3⟩:=one x3 y3 _ a3 b3 c2;generalize subC x3 y3 _=z3 at *
 generalize subS x3 y3 _=s3 at *
 generalize subC x2 y2 _=z2 at *
 generalize subS x2 y2 _=s2 at *
 generalize subC x1 y1 _=z1 at *
 generalize subS x1 y1 _=s1 at *
 generalize subC x0 y0 _=z0 at *
 generalize subS x0 y0 _=s0 at *
 omega
theorem z3f{x y:W4}(hx:x.Ok)(hy:y.Ok):z3l x y=0↔uN y<=uN x:=by
 have h:=zgg hx hy;have h1:=z2i (zdo x y);have h2:=z2i hx;have h3:=z2i hy;have h4:z3l x y<=1:=zbs x y 4;omega
theorem zl9{x y:W4}(hx:x.Ok)(hy:y.Ok)(h:uN y<=uN x):z3s x y=uOf (uN x-uN y):=by
 refine z6c (zdo x y) (z1y _) ?_;have h1:=zgg hx hy;rw[(z3f hx hy).2 h]at h1;have h2:=z2i hx;rw[z5f (by omega)];omega
theorem zms{x y:W4}(hx:x.Ok)(hy:y.Ok)(h:uN x<uN y):z3s x y=uOf (115792089237316195423570985008687907853269984665640564039457584007913129639936+uN x-uN y):=by
 refine z6c (zdo x y) (z1y _) ?_;have h1:=zgg hx hy;have h2:=z2i hx;have h3:=z2i hy;have h4:z3l x y<=1:=zbs x y 4;have h5:=z2i (zdo x y);rw[z5f (by omega)];omega
theorem zkb(n k:Nat)(hk:k<4):(uOf n).at k=n/18446744073709551616 ^ k%18446744073709551616:=by
 match k,hk with
 | 0,_=>show n%_=n/1%_;rw[Nat.div_one]
 | 1,_=>rfl
 | 2,_=>rfl
 | 3,_=>rfl
theorem zu0(x:W4)(k v:Nat)(hk:k<4):uN (x.set k v)+18446744073709551616 ^ k*x.at k=uN x+18446744073709551616 ^ k*v:=by
 obtain⟨x0,x1,x2,x3⟩:=x
 match k,hk with
 | 0,_=>simp only[uN,W4.set,W4.at];omega
 | 1,_=>simp only[uN,W4.set,W4.at];omega
 | 2,_=>simp only[uN,W4.set,W4.at];omega
 | 3,_=>simp only[uN,W4.set,W4.at];omega
theorem W4.Ok.set{x:W4}(h:x.Ok)(k v:Nat)(hv:v<18446744073709551616):(x.set k v).Ok:=by
 obtain⟨x0,x1,x2,x3⟩:=x;obtain⟨h0,h1,h2,h3⟩:=h;unfold W4.set;split
 ·exact⟨hv,h1,h2,h3⟩
 ·exact⟨h0,hv,h2,h3⟩
 ·exact⟨h0,h1,hv,h3⟩
 ·exact⟨h0,h1,h2,hv⟩
theorem zol(x:W4):dLow 18446744073709551616 x.at 4=uN x:=by
 obtain⟨x0,x1,x2,x3⟩:=x;simp only[dLow,uN,W4.at];omega
theorem zxu{l:List Nat}(h:l.length=8)(hw:Words 18446744073709551616 l):l = [(uOf (dgN 18446744073709551616 l)).1,(uOf (dgN 18446744073709551616 l)).2.1,(uOf (dgN 18446744073709551616 l)).2.2.1,(uOf (dgN 18446744073709551616 l)).2.2.2,
  (uOf (dgN 18446744073709551616 l/115792089237316195423570985008687907853269984665640564039457584007913129639936)).1,(uOf (dgN 18446744073709551616 l/115792089237316195423570985008687907853269984665640564039457584007913129639936)).2.1,(uOf (dgN 18446744073709551616 l/115792089237316195423570985008687907853269984665640564039457584007913129639936)).2.2.1,(uOf (dgN 18446744073709551616 l/115792089237316195423570985008687907853269984665640564039457584007913129639936)).2.2.2]:=by
 match l,h with
 | [a,b,c,d,e,f,g,i],_ =>
  have ha:=hw a (by simp);have hb:=hw b (by simp);have hc:=hw c (by simp);have hd:=hw d (by simp);have he:=hw e (by simp);have hf:=hw f (by simp);have hg:=hw g (by simp);have hi:=hw i (by simp);simp only[dgN,uOf,List.cons.injEq,and_true];refine⟨?_,?_,?_,?_,?_,?_,?_,?_⟩<;>omega
theorem zgc(N d i:Nat)(hd:0<d):(2*(N/2 ^ (i+1)%d)+N/2 ^ i%2<d->N/2 ^ i%d=2*(N/2 ^ (i+1)%d)+N/2 ^ i%2/\N/2 ^ i/d=2*(N/2 ^ (i+1)/d)) /\
  (d<=2*(N/2 ^ (i+1)%d)+N/2 ^ i%2->N/2 ^ i%d=2*(N/2 ^ (i+1)%d)+N/2 ^ i%2-d/\N/2 ^ i/d=2*(N/2 ^ (i+1)/d)+1):=by
 have e1:N/2 ^ (i+1)=N/2 ^ i/2:=by rw[Nat.pow_succ,Nat.div_div_eq_div_mul]
 rw[e1];generalize N/2 ^ i=M;have h1:=Nat.div_add_mod (M/2) d;have h2:=Nat.mod_lt (M/2) hd;generalize M/2/d=q at *
 generalize hr:M/2%d=r at *
 have hM:M=d*(2*q)+(2*r+M%2):=by
  have:d*(2*q)=2*(d*q):=by rw[Nat.mul_left_comm]
  omega
 refine⟨fun h => ?_,fun h => ?_⟩
 ·generalize M%2=b at *
  subst hM;rw[Nat.mul_add_mod,Nat.mod_eq_of_lt h,Nat.mul_add_div hd,Nat.div_eq_of_lt h];exact⟨rfl,rfl⟩
 ·have hb:=Nat.mod_lt M (show 0<2 by decide);generalize M%2=b at *
  have hM2:M=d*(2*q+1)+(2*r+b-d):=by rw[Nat.mul_add,Nat.mul_one];omega
  have hlt:2*r+b-d<d:=by omega
  subst hM2;rw[Nat.mul_add_mod,Nat.mod_eq_of_lt hlt,Nat.mul_add_div hd,Nat.div_eq_of_lt hlt];exact⟨rfl,rfl⟩
theorem zuk(v r:Nat)(h8:r<64)(hv:v%2 ^ (r+1)=0)(hlt:v<18446744073709551616):v+2 ^ r<18446744073709551616/\v ||| 2 ^ r=v+2 ^ r:=by
 have hq:v=2 ^ (r+1)*(v/2 ^ (r+1)):=by
  have:=Nat.div_add_mod v (2 ^ (r+1));omega
 have hp:2 ^ r<2 ^ (r+1):=Nat.pow_lt_pow_right (by decide) (by omega);refine⟨?_,?_⟩
 ·have h64:(18446744073709551616:Nat)=2 ^ (r+1)*2 ^ (63-r):=by
   rw[<- Nat.pow_add,show r+1+(63-r)=64 by omega]
  rw[h64]at hlt ⊢;have h1:v/2 ^ (r+1)<2 ^ (63-r):=Nat.div_lt_of_lt_mul hlt;have h2:2 ^ (r+1)*(v/2 ^ (r+1)+1)<=2 ^ (r+1)*2 ^ (63-r):=Nat.mul_le_mul_left _ h1;rw[Nat.mul_add]at h2;omega
 ·rw[hq,<- Nat.two_pow_add_eq_or_of_lt hp]
theorem zjs(k:Nat):(18446744073709551616:Nat) ^ k=2 ^ (64*k):=by
 rw[show(18446744073709551616:Nat)=2 ^ 64 by decide,<- Nat.pow_mul]
theorem zpd(Q i:Nat)(hi:i<256)(hQ:Q<115792089237316195423570985008687907853269984665640564039457584007913129639936)(hz:Q%2 ^ (i+1)=0):(uOf Q).at (i/64)+2 ^ (i%64)<18446744073709551616/\(uOf Q).at (i/64) ||| 2 ^ (i%64)=(uOf Q).at (i/64)+2 ^ (i%64)/\(uOf Q).set (i/64) ((uOf Q).at (i/64)+2 ^ (i%64))=uOf (Q+2 ^ i)/\Q+2 ^ i<115792089237316195423570985008687907853269984665640564039457584007913129639936:=by
 have hk:i/64<4:=by omega
 have hp:2 ^ i=2 ^ (64*(i/64))*2 ^ (i%64):=by rw[<- Nat.pow_add];congr 1;omega
 have hw:(uOf Q).at (i/64)%2 ^ (i%64+1)=0:=by
  rw[zkb _ _ hk,zjs];have hd:2 ^ (i%64+1)∣18446744073709551616:=by
   rw[show(18446744073709551616:Nat)=2 ^ 64 by decide];exact Nat.pow_dvd_pow 2 (by omega)
  rw[Nat.mod_mod_of_dvd _ hd];have hp1:2 ^ (i+1)=2 ^ (64*(i/64))*2 ^ (i%64+1):=by rw[<- Nat.pow_add];congr 1;omega
  have h1:Q=2 ^ (64*(i/64))*(2 ^ (i%64+1)*(Q/2 ^ (i+1))):=by
   have:=Nat.div_add_mod Q (2 ^ (i+1));rw[hz,Nat.add_zero,hp1,Nat.mul_assoc,<- hp1]at this;exact this.symm
  rw[h1,Nat.mul_div_cancel_left _ (Nat.pow_pos (by decide)),Nat.mul_mod_right]
 obtain⟨b1,b2⟩:=zuk _ _ (Nat.mod_lt _ (by decide)) hw ((z1y Q).at _);have hs:=zu0 (uOf Q) (i/64) ((uOf Q).at (i/64)+2 ^ (i%64)) hk;rw[Nat.mul_add,zjs,<- hp,z5f hQ]at hs;have hok:=(z1y Q).set (i/64) _ b1;have hlt:=z2i hok;have hfit:Q+2 ^ i<115792089237316195423570985008687907853269984665640564039457584007913129639936:=by omega
 refine⟨b1,b2,z6c hok (z1y _) ?_,hfit⟩;rw[z5f hfit];omega
open Go.RowKit
theorem zcx{n:Nat}(h:n<18446744073709551616):bits .and .u64 (n:Int) 4294967295=((n%4294967296:Nat):Int):=by
 obtain⟨X,hX,_⟩:=zfj h;have hM:(4294967295:Int)=(((BitVec.ofNat 64 4294967295).toNat:Nat):Int):=by decide
 rw[<- hX,hM,zky,BitVec.toNat_and];congr 1;rw[show(BitVec.ofNat 64 4294967295).toNat=2 ^ 32-1 by decide,Nat.and_two_pow_sub_one_eq_mod]
theorem z9x{x y:Nat}(h:x*y<18446744073709551616):IntKind.u64.wrap ((x:Int)*(y:Int))=((x*y:Nat):Int):=by
 rw[<- Int.natCast_mul,IntKind.wrap_u64];omega
theorem wrap_add{x y:Nat}(h:x+y<18446744073709551616):IntKind.u64.wrap ((x:Int)+(y:Int))=((x+y:Nat):Int):=by
 rw[IntKind.wrap_u64];omega
theorem zx4(n:Nat):(n:Int)/4294967296=((n/4294967296:Nat):Int):=rfl
theorem zus{x y:Nat}(hy:y<4294967296):bits .or .u64 (IntKind.u64.wrap ((x:Int)*4294967296)) (y:Int)=(((x%4294967296)*4294967296+y:Nat):Int):=by
 have hw:IntKind.u64.wrap ((x:Int)*4294967296)=(((x%4294967296)*4294967296:Nat):Int):=by rw[IntKind.wrap_u64];omega
 obtain⟨X,hX,_⟩:=zfj (n:=(x%4294967296)*4294967296) (by omega);obtain⟨Y,hY,_⟩:=zfj (n:=y) (by omega);rw[hw,<- hX,<- hY,zop,BitVec.toNat_or,hX,hY];congr 1;rw[Nat.mul_comm,show(4294967296:Nat)=2 ^ 32 by decide,<- Nat.two_pow_add_eq_or_of_lt (by omega)]
theorem zwl(a b:Nat)(ha:a<18446744073709551616)(hb:b<18446744073709551616) :
  IntKind.u64.wrap (IntKind.u64.wrap (IntKind.u64.wrap ((a:Int)/4294967296*((b:Int)/4294967296))+IntKind.u64.wrap (IntKind.u64.wrap ((a:Int)/4294967296*bits BinOp.and IntKind.u64 (b:Int) 4294967295)+IntKind.u64.wrap (bits BinOp.and IntKind.u64 (a:Int) 4294967295*bits BinOp.and IntKind.u64 (b:Int) 4294967295)/4294967296)/4294967296)+IntKind.u64.wrap (IntKind.u64.wrap (bits BinOp.and IntKind.u64 (a:Int) 4294967295*((b:Int)/4294967296))+bits BinOp.and IntKind.u64 (IntKind.u64.wrap (IntKind.u64.wrap ((a:Int)/4294967296*bits BinOp.and IntKind.u64 (b:Int) 4294967295)+IntKind.u64.wrap (bits BinOp.and IntKind.u64 (a:Int) 4294967295*bits BinOp.and IntKind.u64 (b:Int) 4294967295)/4294967296)) 4294967295)/4294967296)=((a*b/18446744073709551616:Nat):Int) /\
  bits BinOp.or IntKind.u64 (IntKind.u64.wrap (IntKind.u64.wrap (IntKind.u64.wrap (bits BinOp.and IntKind.u64 (a:Int) 4294967295*((b:Int)/4294967296))+bits BinOp.and IntKind.u64 (IntKind.u64.wrap (IntKind.u64.wrap ((a:Int)/4294967296*bits BinOp.and IntKind.u64 (b:Int) 4294967295)+IntKind.u64.wrap (bits BinOp.and IntKind.u64 (a:Int) 4294967295*bits BinOp.and IntKind.u64 (b:Int) 4294967295)/4294967296)) 4294967295)*4294967296)) (bits BinOp.and IntKind.u64 (IntKind.u64.wrap (bits BinOp.and IntKind.u64 (a:Int) 4294967295*bits BinOp.and IntKind.u64 (b:Int) 4294967295)) 4294967295)=((a*b%18446744073709551616:Nat):Int):=by
 have e3:(a:Int)/4294967296=((a/4294967296:Nat):Int):=rfl;have e4:(b:Int)/4294967296=((b/4294967296:Nat):Int):=rfl;rw[zcx ha,zcx hb,e3,e4];have hA:=Nat.div_add_mod a 4294967296;have hB:=Nat.div_add_mod b 4294967296;have a1:a/4294967296<4294967296:=by omega
 have a2:a%4294967296<4294967296:=by omega
 have b1:b/4294967296<4294967296:=by omega
 have b2:b%4294967296<4294967296:=by omega
 clear ha hb e3 e4;generalize a/4294967296=x at *
 generalize a%4294967296=y at *
 generalize b/4294967296=u at *
 generalize b%4294967296=v at *
 have hab:a*b=18446744073709551616*(x*u)+4294967296*(x*v)+4294967296*(y*u)+y*v:=by
  rw[<- hA,<- hB,Nat.add_mul,Nat.mul_add,Nat.mul_add,Nat.mul_assoc,Nat.mul_assoc,Nat.mul_left_comm x,Nat.mul_left_comm y];omega
 rw[hab];have k1:x*u<=4294967295*4294967295:=Nat.mul_le_mul (by omega) (by omega);have k2:x*v<=4294967295*4294967295:=Nat.mul_le_mul (by omega) (by omega);have k3:y*u<=4294967295*4294967295:=Nat.mul_le_mul (by omega) (by omega);have k4:y*v<=4294967295*4294967295:=Nat.mul_le_mul (by omega) (by omega);rw[z9x (x:=x) (y:=u) (by omega),z9x (x:=x) (y:=v) (by omega),z9x (x:=y) (y:=v) (by omega),z9x (x:=y) (y:=u) (by omega)];generalize x*u=p at *
 generalize x*v=q at *
 generalize y*u=r at *
 generalize y*v=s at *
 rw[zx4,wrap_add (by omega),zcx (n:=q+s/4294967296) (by omega),zcx (n:=s) (by omega),wrap_add (by omega),zus (by omega),zx4,zx4,wrap_add (by omega),wrap_add (by omega)];refine⟨?_,?_⟩
 ·congr 1;omega
 ·congr 1;omega
theorem zjv(a b:Nat)(ha:a<18446744073709551616)(hb:b<18446744073709551616)(w:World):Calls Tryz.prog 224 #[.int .u64 a,.int .u64 b] w fun e w'=>e= .returned (.tuple #[.int .u64 ((a*b/18446744073709551616:Nat):Int),.int .u64 ((a*b%18446744073709551616:Nat):Int)])/\w=w':=by
 have HP:=zh (zwl a b ha hb);go_enter Tryz.func224,Tryz.ntmps224;go_wp2_with fail;refine bodyPost_ret (results_tmp2 rfl _ _ _) rfl ⟨?_,rfl⟩;rw[<- HP.out.1,<- HP.out.2];rfl
end Go.Proofs.YtnkilceibkkjlaaGreat
