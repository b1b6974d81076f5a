/- What is proved here: a store as it has become since a world. No condition. a store behind a handle, m -/
import Derived.Test.YtnkilceibkkjlaaGreatGU256
import Derived.Test.YtnkilceibkkjlaaGreatGAmtG
import Derived.Test.YtnkilceibkkjlaaGreatGBase
set_option maxRecDepth 100000
set_option maxHeartbeats 16000000
namespace Go.Proofs.YtnkilceibkkjlaaGreat
open Go.RowKit
def On(w:World)(b:Nat)(L:List Nat)(s:St)(W:World):Prop:=∃ L',SRep W b s L'/\Step w L W L'
theorem On.start{w:World}{b:Nat}{L:List Nat}{s:St}(h:SRep w b s L):On w b L s w:=⟨L,h,Step.refl w L⟩
structure Hand where
 ptr:Option Addr
 on:Bool
 L:List Nat
def QSt(w:World)(h:Hand)(s:St):Prop:=(h.on=true/\∃ b,h.ptr=some ⟨b,0,none⟩/\SRep w b s h.L)\/(h.on=false/\z5k w h.ptr/\s=⟨[],[]⟩/\h.L=h.ptr.toList.map (·.block))
def QOn(w:World)(h:Hand)(s:St)(W:World):Prop:=∃ L',QSt W ⟨h.ptr,h.on,L'⟩ s/\Step w h.L W L'
def Hand.st(h:Hand)(s s':St):St:=if h.on then s' else s
theorem QSt.lt{w:World}{h:Hand}{s:St}(hq:QSt w h s):∀ k∈h.L,k<w.heap.size:=by
 rcases hq with⟨_,b,_,hS⟩ | ⟨_,hN,_,hl⟩
 ·exact hS.lt
 ·intro k hk;rw[hl]at hk;rcases hN with h1 | ⟨b,h1,h2,_⟩
  ·rw[h1]at hk;cases hk
  ·rw[h1]at hk;simp only[Option.toList,List.map_cons,List.map_nil,List.mem_singleton]at hk;subst hk;exact h2
theorem QSt.frame{w W:World}{h:Hand}{s:St}(hq:QSt w h s)(hs:w.heap.size<=W.heap.size)(hb:∀ k∈h.L,W.heap[k]?=w.heap[k]?):QSt W h s:=by
 rcases hq with⟨hm,b,hp,hS⟩ | ⟨hm,hN,he,hl⟩
 ·exact .inl ⟨hm,b,hp,hS.frame hb⟩
 ·refine .inr ⟨hm,?_,he,hl⟩;rcases hN with h1 | ⟨b,h1,h2,h3⟩
  ·exact .inl h1
  ·refine .inr ⟨b,h1,Nat.lt_of_lt_of_le h2 hs,?_⟩;have hk:b∈h.L:=by rw[hl,h1];simp[Option.toList]
   rw[World.cell?_of_block (w:=w) (hb b hk)];exact h3
theorem QSt.below{w W:World}{h:Hand}{s:St}(hq:QSt w h s)(hb:Below w.heap.size w W):QSt W h s:=by
 rcases hq with⟨hm,b,hp,hS⟩ | ⟨hm,hN,hs,hl⟩
 ·exact .inl ⟨hm,b,hp,hS.below hb⟩
 ·exact .inr ⟨hm,hN.below hb,hs,hl⟩
theorem QOn.start{w:World}{h:Hand}{s:St}(hq:QSt w h s):QOn w h s w:=⟨h.L,hq,Step.refl _ _⟩
theorem z5c{w W:World}(hb:Below w.heap.size w W)(L:List Nat):Step w L W L:=⟨Fr.of_below hb _,fun _ h => .inl h⟩
theorem QOn.below{w W W':World}{h:Hand}{s:St}(hq:QOn w h s W)(hb:Below W.heap.size W W'):QOn w h s W':=by
 obtain⟨L',hS,st⟩:=hq;exact⟨L',hS.below hb,st.trans (z5c hb _)⟩
theorem QOn.back{w W W':World}{h:Hand}{s:St}(hq:QOn W h s W')(hb:Below w.heap.size w W):QOn w h s W':=by
 obtain⟨L',hS,st⟩:=hq;exact⟨L',hS,(z5c hb _).trans st⟩
theorem QSt.read{w:World}{h:Hand}{s:St}{f:Nat}(hq:QSt w h s)(hf:s.Fit f)(hm:f<100000000000):z4b w.heap.size w h.ptr s:=by
 rcases hq with⟨_,b,hp,hS⟩ | ⟨_,hN,hs,_⟩
 ·rw[hp];exact z4b.made hS hf hm
 ·rw[hs];exact z4b.not hN
theorem Hand.zhe{h:Hand}{s s':St}{f:Nat}(h1:s.Fit f)(h2:s'.Fit f):(h.st s s').Fit f:=by
 unfold Hand.st;split
 ·exact h2
 ·exact h1
def St.amt(s:St)(k:ByteArray):W4:=z3a (s.val k)
theorem zgw(w:World)(h:Hand)(s:St)(f:Nat)(k:ByteArray)(hq:QSt w h s)(hf:s.Fit f)(hm:f<100000000000):Calls Tryz.prog 64 #[.pointer h.ptr,.string k] w fun e w'=>e= .returned (uV (s.amt k))/\Below w.heap.size w w':=
 (hq.read hf hm).amount k
theorem zya(w:World)(q:Option Addr)(k v:ByteArray)(h:z5k w q):Calls Tryz.prog 149 #[.pointer q,.string k,.string v] w fun e w'=>e= .returned (.tuple #[])/\Below w.heap.size w w':=by
 have HD:Hid (Calls Tryz.prog 85 #[.pointer q,.string k] w fun e w'=>e= .returned (.bool false)/\w=w'):=by
  have HG:=zh (h.get k);unfold zb7 at HG;clear h;go_enter Tryz.func85,Tryz.ntmps85;go_wp2_with (go_at_call 140;refine HG.out.mono ?_;rintro e w' ⟨rfl,rfl⟩);go_ret;exact⟨rfl,rfl⟩
 have HS:Hid (Calls Tryz.prog 208 #[.pointer q,.string k,.string v] w fun e w'=>e= .returned (.int .i64 1)/\w=w'):=by
  rcases h with rfl | ⟨b,rfl,_,hc⟩
  ·exact zxy w k v
  ·have HI:=zh (z8u w b false hc);clear hc;go_enter Tryz.func208,Tryz.ntmps208;go_wp2_with (go_at_call 142;refine HI.out.mono ?_;rintro e w' ⟨rfl,rfl⟩);go_ret;exact⟨rfl,rfl⟩
 clear h
 by_cases hv:v=z0d
 ·subst hv;unfold z0d;go_enter Tryz.func149,Tryz.ntmps149;go_wp2_with (go_at_call 85;refine HD.out.mono ?_;rintro e w' ⟨rfl,rfl⟩);refine bodyPost_ret (results_none rfl _ _ _) rfl ?_;exact⟨rfl,Below.refl _ _⟩
 ·have hv':=z9i hv;clear hv;go_enter Tryz.func149,Tryz.ntmps149;go_wp2_with (go_at_call 208;refine HS.out.mono ?_;rintro e w' ⟨rfl,rfl⟩)
  go_end0
  exact⟨rfl,Below.refl _ _⟩
theorem zmn(w:World)(q:Option Addr)(k:ByteArray)(x:W4)(h:z5k w q):Calls Tryz.prog 81 #[.pointer q,.string k,uV x] w fun e w'=>e= .returned (.tuple #[])/\Below w.heap.size w w':=by
 have HP:∀ v,Hid (∀ w1,Below w.heap.size w w1->Calls Tryz.prog 149 #[.pointer q,.string k,.string v] w1 fun e w'=>e= .returned (.tuple #[])/\Below w.heap.size w w'):=fun v w1 h1 =>
  (zya w1 q k v (h.below h1)).mono fun e w' h2=>⟨h2.1,z0a h1 h2.2⟩
 have hb1:=z04 (Below.refl _ w) (.cells (uL x) 24)
 by_cases h0:x=(0,0,0,0)
 ·have HP1:=HP z0d;have HB1:=zh hb1;unfold z0d at *
  subst h0;have hE:∀ w,(Op.equalIn 10000 24 (.agg #[.int .u64 0,.int .u64 0,.int .u64 0,.int .u64 0]) (.agg #[.int .u64 0,.int .u64 0,.int .u64 0,.int .u64 0])).run Tryz.prog w= .ok true w:=fun w=>eqU (0,0,0,0) (0,0,0,0) w
  clear h HP hb1;go_enter Tryz.func81,Tryz.ntmps81;go_wp2_with (go_at_call 149;refine(HP1.out _ HB1.out).mono ?_;rintro e w' ⟨rfl,hR⟩);refine bodyPost_ret (results_none rfl _ _ _) rfl ?_;exact⟨rfl,hR⟩
 ·have HP1:=HP (amtB x);have HK:Hid (Calls Tryz.prog 150 #[uV x] (w.alloc (.cells (uL x) 24)) fun e w'=>e= .returned (.string (amtB x))/\Below w.heap.size w w'):=(z92 x _).mono fun e w' ⟨he,hb⟩=>⟨he,z0a hb1 hb⟩
  have hE:∀ w,(Op.equalIn 10000 24 (.agg #[.int .u64 x.1,.int .u64 x.2.1,.int .u64 x.2.2.1,.int .u64 x.2.2.2]) (.agg #[.int .u64 0,.int .u64 0,.int .u64 0,.int .u64 0])).run Tryz.prog w= .ok false w:=fun w=>by
   have:=eqU x (0,0,0,0) w;rw[decide_eq_false h0]at this;exact this
  have hq:=row4 (heap_alloc_new w (.cells (uL x) 24));obtain⟨q0,q1,q2,q3,_⟩:=hq;generalize amtB x=nb at *
  clear h HP hb1;go_enter Tryz.func81,Tryz.ntmps81;go_wp2_with (first | (go_at_call 150;refine HK.out.mono ?_;rintro e w1 ⟨rfl,hb1⟩)|(go_at_call 149;refine(HP1.out _ hb1).mono ?_;rintro e w' ⟨rfl,hR⟩))
  go_end0
  exact⟨rfl,hR⟩
theorem zvd(w:World)(h:Hand)(s:St)(k:ByteArray)(x:W4)(hq:QSt w h s)(hz:s.size<1000000000000):Calls Tryz.prog 81 #[.pointer h.ptr,.string k,uV x] w fun e w'=>e= .returned (.tuple #[])/\QOn w h (h.st s (s.z15 k x)) w':=by
 unfold Hand.st;rcases hq with⟨hm,b,hp,hS⟩ | ⟨hm,hN,hs,hl⟩
 ·rw[hp,if_pos hm];exact(zn5 w b s h.L k x hS hz).mono fun e w' ⟨he,L',hS',st⟩=>⟨he,L',.inl ⟨hm,b,hp,hS'⟩,st⟩
 ·rw[if_neg (by rw[hm];decide)];exact(zmn w h.ptr k x hN).mono fun e w' ⟨he,hb⟩=>⟨he,h.L,.inr ⟨hm,hN.below hb,hs,hl⟩,z5c hb _⟩
theorem zz5(w:World)(h:Hand)(s:St)(hq:QSt w h s):Calls Tryz.prog 73 #[.pointer h.ptr] w fun e w'=>e= .returned (.int .i64 s.past.length)/\w=w':=by
 rcases hq with⟨hm,b,hp,hS⟩ | ⟨hm,hN,hs,hl⟩
 ·rw[hp];have HI:=zh (z8u w b true hS.cell0);obtain⟨mb,es,clk,bv,pv,bs,hS,_⟩:=hS;obtain⟨a,c,rfl,_⟩:=hS.ps.form;obtain⟨_,_,_,c3,_⟩:=z0q hS.hd;clear hS hp;generalize s.past.length=n at *
  go_enter Tryz.func73,Tryz.ntmps73;go_wp2_with (go_at_call 142;refine HI.out.mono ?_;rintro e w' ⟨rfl,rfl⟩);go_ret;exact⟨rfl,rfl⟩
 ·have HI:Hid (Calls Tryz.prog 142 #[.pointer h.ptr] w fun e w'=>e= .returned (.bool false)/\w=w'):=by
   rcases hN with h1 | ⟨b,h1,_,hc⟩
   ·rw[h1];exact is_nil w
   ·rw[h1];exact z8u w b false hc
  subst hs;generalize h.ptr=q at *
  clear hN hl;go_enter Tryz.func73,Tryz.ntmps73;go_wp2_with (go_at_call 142;refine HI.out.mono ?_;rintro e w' ⟨rfl,rfl⟩);go_ret;exact⟨rfl,rfl⟩
theorem zdq{α:Type}(l:List α)(k:Nat)(x:α)(h:l[k]?=some x):l.take (k+1)=l.take k ++ [x]:=by
 rw[List.take_add_one,h];rfl
def dgN(B:Nat):List Nat->Nat
 | []=>0
 | d::ds=>d+B*dgN B ds
theorem zbr(B:Nat):∀ (l:List Nat) (k d v:Nat),l[k]?=some d->dgN B (l.set k v)+B ^ k*d=dgN B l+B ^ k*v
 | [],k,d,v,h=>by simp at h
 | x::l,0,d,v,h=>by
  have e:x=d:=by simpa using h
  subst e
  show v+B*dgN B l+1*x=x+B*dgN B l+1*v
  omega
 | x::l,k+1,d,v,h=>by
  have h1:=zbr B l k d v (by simpa using h)
  show x+B*dgN B (l.set k v)+B ^ (k+1)*d=x+B*dgN B l+B ^ (k+1)*v
  have h2:=congrArg (B * ·) h1
  simp only[Nat.mul_add]at h2
  rw[Nat.pow_succ,Nat.mul_comm (B ^ k) B,Nat.mul_assoc,Nat.mul_assoc]
  omega
theorem zhj(B:Nat):∀ n,dgN B (List.replicate n 0)=0
 | 0=>rfl
 | n+1=>by rw[List.replicate_succ];show 0+B*dgN B _=0;rw[zhj B n];rfl
theorem zug{B P x y o c N M:Nat}(h:M+P*o=N+P*((x*y+o+c)%B)):M+P*B*((x*y+o+c)/B)=N+P*c+P*(x*y):=by
 have h1:=Nat.div_add_mod (x*y+o+c) B;generalize (x*y+o+c)/B=q at *
 generalize (x*y+o+c)%B=r at *
 have h2:=congrArg (P * ·) h1;simp only[Nat.mul_add]at h2;rw[Nat.mul_assoc];omega
theorem zlk{B x y o c:Nat}(hx:x<B)(hy:y<B)(ho:o<B)(hc:c<B):(x*y+o+c)/B<B:=by
 rw[Nat.div_lt_iff_lt_mul (by omega)];obtain⟨b,rfl⟩:∃ b,B=b+1:=⟨B-1,by omega⟩;have h1:x*y<=b*b:=Nat.mul_le_mul (by omega) (by omega);have h2:(b+1)*(b+1)=b*b+2*b+1:=by rw[Nat.mul_add,Nat.add_mul];omega
 omega
def dLow(B:Nat)(f:Nat->Nat):Nat->Nat
 | 0=>0
 | k+1=>dLow B f k+B ^ k*f k
def mIn(B x:Nat)(y:Nat->Nat)(i:Nat)(o:List Nat):Nat->List Nat × Nat
 | 0=>(o,0)
 | j+1=>(((mIn B x y i o j).1.set (i+j) ((x*y j+(mIn B x y i o j).1.getD (i+j) 0+(mIn B x y i o j).2)%B)),(x*y j+(mIn B x y i o j).1.getD (i+j) 0+(mIn B x y i o j).2)/B)
def Words(B:Nat)(l:List Nat):Prop:=∀ d∈l,d<B
theorem Words.getD{B:Nat}(hB:0<B){l:List Nat}(h:Words B l)(k:Nat):l.getD k 0<B:=by
 rw[List.getD_eq_getElem?_getD];cases e:l[k]? with
 | none=>exact hB
 | some d=>exact h d (List.mem_of_getElem? e)
theorem Words.set{B:Nat}{l:List Nat}(h:Words B l)(k v:Nat)(hv:v<B):Words B (l.set k v):=fun d hd=>by
 rcases List.mem_or_eq_of_mem_set hd with hd | rfl
 ·exact h d hd
 ·exact hv
theorem getD_at{l:List Nat}{k:Nat}(h:k<l.length):l[k]?=some (l.getD k 0):=by
 rw[List.getD_eq_getElem?_getD,List.getElem?_eq_getElem h];rfl
theorem zg7(B x:Nat)(y:Nat->Nat)(i m:Nat)(o:List Nat)(hx:x<B)(hy:∀ k,y k<B)(ho:Words B o)(hl:i+m<=o.length):∀ j,j<=m->(mIn B x y i o j).1.length=o.length/\Words B (mIn B x y i o j).1/\(mIn B x y i o j).2<B /\
  dgN B (mIn B x y i o j).1+B ^ (i+j)*(mIn B x y i o j).2=dgN B o+B ^ i*(x*dLow B y j)/\∀ k,k<i\/i+j<=k->(mIn B x y i o j).1.getD k 0=o.getD k 0
 | 0,_=>⟨rfl,ho,by show 0<B;omega,by show dgN B o+_*0=_+_*(x*0);omega,fun k _=>rfl⟩
 | j+1,hj=>by
  obtain⟨h1,h2,h3,h4,h5⟩:=zg7 B x y i m o hx hy ho hl j (by omega)
  have hw:=h2.getD (by omega) (i+j)
  have hf:=zlk hx (hy j) hw h3
  refine⟨?_,h2.set _ _ (Nat.mod_lt _ (by omega)),hf,?_,?_⟩
  ·show((mIn B x y i o j).1.set _ _).length=o.length
   rw[List.length_set];exact h1
  ·show dgN B ((mIn B x y i o j).1.set _ _)+_*_=_
   have hg:(mIn B x y i o j).1[i+j]?=some ((mIn B x y i o j).1.getD (i+j) 0):=getD_at (by omega)
   have hs:=zug (zbr B _ _ _ ((x*y j+(mIn B x y i o j).1.getD (i+j) 0+(mIn B x y i o j).2)%B) hg)
   rw[<- Nat.add_assoc i j 1,Nat.pow_succ B (i+j)]
   rw[show(mIn B x y i o (j+1)).2=(x*y j+(mIn B x y i o j).1.getD (i+j) 0+(mIn B x y i o j).2)/B from rfl]
   rw[hs,h4,show dLow B y (j+1)=dLow B y j+B ^ j*y j from rfl,Nat.mul_add x,Nat.mul_add (B ^ i),Nat.add_assoc]
   congr 2
   rw[Nat.pow_add,Nat.mul_assoc,Nat.mul_left_comm x]
  ·intro k hk
   show((mIn B x y i o j).1.set _ _).getD k 0=_
   rw[List.getD_eq_getElem?_getD,List.getElem?_set_ne (by omega),<- List.getD_eq_getElem?_getD]
   exact h5 k (by omega)
def mOut(B n:Nat)(x y:Nat->Nat)(m:Nat):Nat->List Nat
 | 0=>List.replicate n 0
 | i+1=>(mIn B (x i) y i (mOut B n x y m i) m).1.set (i+m) (mIn B (x i) y i (mOut B n x y m i) m).2
theorem z4z(B n:Nat)(x y:Nat->Nat)(m:Nat)(hB:0<B)(hx:∀ k,x k<B)(hy:∀ k,y k<B):∀ i,i+m<=n->(mOut B n x y m i).length=n/\Words B (mOut B n x y m i)/\dgN B (mOut B n x y m i)=dLow B x i*dLow B y m/\∀ k,i+m<=k->(mOut B n x y m i).getD k 0=0
 | 0,_=>⟨List.length_replicate,fun d hd=>by rw[(List.mem_replicate.1 hd).2];exact hB,by show dgN _ (List.replicate n 0)=0*_;rw[zhj,Nat.zero_mul],fun k hk=>by
   rw[mOut,List.getD_eq_getElem?_getD,List.getElem?_replicate]
   split<;>rfl⟩
 | i+1,hi=>by
  obtain⟨h1,h2,h3,h4⟩:=z4z B n x y m hB hx hy i (by omega)
  obtain⟨g1,g2,g3,g4,g5⟩:=zg7 B (x i) y i m _ (hx i) hy h2 (by omega) m (Nat.le_refl _)
  refine⟨by rw[mOut,List.length_set,g1,h1],g2.set _ _ g3,?_,?_⟩
  ·have hg:(mIn B (x i) y i (mOut B n x y m i) m).1[i+m]?=some 0:=by
    rw[getD_at (by omega),g5 (i+m) (by omega),h4 (i+m) (by omega)]
   have hs:=zbr B _ _ _ (mIn B (x i) y i (mOut B n x y m i) m).2 hg;rw[Nat.mul_zero,Nat.add_zero]at hs;rw[mOut,hs,g4,h3,show dLow B x (i+1)=dLow B x i+B ^ i*x i from rfl,Nat.add_mul,Nat.mul_assoc]
  ·intro k hk;rw[mOut,List.getD_eq_getElem?_getD,List.getElem?_set_ne (by omega),<- List.getD_eq_getElem?_getD];rw[g5 k (by omega)];exact h4 k (by omega)
def z06(ds:List Nat):Nat:=dgN 4294967296 ds
def DOk(ds:List Nat):Prop:=∀ d∈ds,d<4294967296
def digs(n:Nat):List Nat:=if h:n=0 then []else(n%4294967296)::digs (n/4294967296)
termination_by n
decreasing_by omega
abbrev BP(k:Nat):Nat:=4294967296 ^ k
theorem z7r(k:Nat):BP (k+1)=4294967296*BP k:=by show 4294967296 ^ (k+1)=_;rw[Nat.pow_succ,Nat.mul_comm]
theorem z4k:digs 0 = []:=by unfold digs;rfl
theorem zbg{n:Nat}(h:n≠0):digs n=(n%4294967296)::digs (n/4294967296):=by rw[digs,dif_neg h]
theorem z0n(n:Nat):z06 (digs n)=n:=by
 induction n using Nat.strongRecOn with
 | ind n ih =>
  by_cases h:n=0
  ·subst h;rw[z4k];rfl
  ·rw[zbg h];show n%4294967296+4294967296*z06 (digs (n/4294967296))=n
   rw[ih (n/4294967296) (by omega)];omega
theorem z1q(n:Nat):DOk (digs n):=by
 induction n using Nat.strongRecOn with
 | ind n ih =>
  by_cases h:n=0
  ·subst h;rw[z4k];intro d hd;cases hd
  ·rw[zbg h];intro d hd;rcases List.mem_cons.1 hd with rfl | hd
   ·omega
   ·exact ih (n/4294967296) (by omega) d hd
theorem DOk.tail{d:Nat}{ds:List Nat}(h:DOk (d::ds)):DOk ds:=fun x hx=>h x (List.mem_cons.2 (.inr hx))
theorem DOk.take{ds:List Nat}(h:DOk ds)(k:Nat):DOk (ds.take k):=fun x hx=>h x (List.mem_of_mem_take hx)
theorem DOk.snoc{ds:List Nat}(h:DOk ds){d:Nat}(hd:d<4294967296):DOk (ds ++ [d]):=fun x hx=>by
 rcases List.mem_append.1 hx with hx | hx
 ·exact h x hx
 ·rw[List.mem_singleton.1 hx];exact hd
theorem DOk.at{ds:List Nat}(h:DOk ds){k d:Nat}(hk:ds[k]?=some d):d<4294967296:=h d (List.mem_of_getElem? hk)
theorem z2i:∀ {ds:List Nat},DOk ds->z06 ds<BP ds.length
 | [],_=>by decide
 | d::ds,h=>by
  have h1:=z2i h.tail
  have h2:=h d (by simp)
  show d+4294967296*z06 ds<BP (ds.length+1)
  rw[z7r];omega
theorem z6h:∀ (a b:List Nat),z06 (a++b)=z06 a+BP a.length*z06 b
 | [],b=>by show z06 b=0+1*z06 b;omega
 | d::a,b=>by
  show d+4294967296*z06 (a++b)=d+4294967296*z06 a+BP (a.length+1)*z06 b
  rw[z6h a b,z7r,Nat.mul_add,Nat.mul_assoc];omega
theorem zak(a:List Nat)(d:Nat):z06 (a ++ [d])=z06 a+BP a.length*d:=by
 rw[z6h];show _+_*(d+4294967296*0)=_;simp
theorem z6r:∀ n:Nat,z06 (List.replicate n 0)=0
 | 0=>rfl
 | n+1=>by rw[List.replicate_succ];show 0+4294967296*z06 _=0;rw[z6r n]
theorem z2w{ds:List Nat}{k d:Nat}(h:ds[k]?=some d):z06 (ds.take (k+1))=z06 (ds.take k)+BP k*d:=by
 rw[zdq ds k d h,zak,List.length_take];have:=(List.getElem?_eq_some_iff.1 h).1;rw[Nat.min_eq_left (by omega)]
theorem zod{ds:List Nat}(h:DOk ds)(k:Nat):z06 (ds.take k)=z06 ds%BP k:=by
 have e:=z6h (ds.take k) (ds.drop k);rw[List.take_append_drop]at e
 by_cases hk:k<=ds.length
 ·rw[List.length_take,Nat.min_eq_left hk]at e;have h2:=z2i (h.take k);rw[List.length_take,Nat.min_eq_left hk]at h2;rw[e,Nat.add_mul_mod_self_left,Nat.mod_eq_of_lt h2]
 ·rw[List.take_of_length_le (by omega)];have h2:=z2i h;have h3:BP ds.length<=BP k:=Nat.pow_le_pow_right (by decide) (by omega);rw[Nat.mod_eq_of_lt (by omega)]
theorem zbw:∀ (ds:List Nat),DOk ds->(∀ (h:ds≠[]),ds.getLast h≠0)->digs (z06 ds)=ds
 | [],_,_=>z4k
 | d::ds,h,hl=>by
  have hd:=h d (by simp)
  have hne:z06 (d::ds)≠0:=by
   show d+4294967296*z06 ds≠0
   by_cases e:ds = []
   ·subst e;have:=hl (by simp);simp at this;show d+4294967296*0≠0
    omega
   ·have h2:=zbw ds h.tail (fun he=>by have:=hl (by simp);rwa [List.getLast_cons he]at this);intro h0;have:z06 ds=0:=by omega
    rw[this,z4k]at h2;exact e h2.symm
  have ih:=zbw ds h.tail (fun he=>by have:=hl (by simp);rwa [List.getLast_cons he]at this);rw[zbg hne];have e1:z06 (d::ds)%4294967296=d:=by show(d+4294967296*z06 ds)%_=d;omega
  have e2:z06 (d::ds)/4294967296=z06 ds:=by show(d+4294967296*z06 ds)/_=_;omega
  rw[e1,e2,ih]
theorem z2x{n k:Nat}(h:n<BP k):(digs n).length<=k:=by
 induction k generalizing n with
 | zero =>
  have:n=0:=by have h1:BP 0=1:=rfl;omega
  subst this;rw[z4k];exact Nat.le_refl _
 | succ k ih =>
  by_cases h0:n=0
  ·subst h0;rw[z4k];exact Nat.zero_le _
  ·rw[zbg h0,List.length_cons];rw[z7r]at h;have:=ih (n:=n/4294967296) (Nat.div_lt_of_lt_mul h);omega
theorem z9a{n k:Nat}(h:(digs n).length<=k):n<BP k:=by
 have h1:=z2i (z1q n);rw[z0n]at h1;exact Nat.lt_of_lt_of_le h1 (Nat.pow_le_pow_right (by decide) h)
theorem zt1{a b:Nat}(h:digs a=digs b):a=b:=by rw[<- z0n a,<- z0n b,h]
theorem zcv{a b:Nat}(h:(digs a).length<(digs b).length):a<b:=by
 refine Decidable.byContradiction fun hn => ?_
 have h1:b<BP (digs a).length:=Nat.lt_of_le_of_lt (Nat.le_of_not_lt hn) (z9a (Nat.le_refl _));have h2:=z2x h1;omega
theorem zoc{a b:List Nat}(ha:DOk a){k x y:Nat}(hl:a.length=b.length)(hx:a[k]?=some x)(hy:b[k]?=some y)(he:a.drop (k+1)=b.drop (k+1))(h:x<y):z06 a<z06 b:=by
 have e1:=z6h (a.take (k+1)) (a.drop (k+1));have e2:=z6h (b.take (k+1)) (b.drop (k+1));rw[List.take_append_drop]at e1 e2;rw[z2w hx]at e1;rw[z2w hy]at e2;have ka:=(List.getElem?_eq_some_iff.1 hx).1;have kb:=(List.getElem?_eq_some_iff.1 hy).1;rw[List.length_take,Nat.min_eq_left (by omega)]at e1;rw[List.length_take,Nat.min_eq_left (by omega),<- he]at e2;have h1:=z2i (ha.take k);rw[List.length_take,Nat.min_eq_left (by omega)]at h1;have h3:BP k*x+BP k<=BP k*y:=by rw[<- Nat.mul_succ];exact Nat.mul_le_mul_left _ h
 omega
def uOf(n:Nat):W4:=(n%18446744073709551616,n/18446744073709551616%18446744073709551616,n/340282366920938463463374607431768211456%18446744073709551616,n/6277101735386680763835789423207666416102355444464034512896%18446744073709551616)
theorem z1z(n:Nat):(uOf n).Ok:=by
 simp only[W4.Ok,uOf];omega
theorem zoy(n:Nat):uN (uOf n)=n%115792089237316195423570985008687907853269984665640564039457584007913129639936:=by
 simp only[uN,uOf];omega
theorem z6y{n:Nat}(h:n<115792089237316195423570985008687907853269984665640564039457584007913129639936):uN (uOf n)=n:=by
 rw[zoy];omega
theorem z2m{x:W4}(h:x.Ok):uN x<115792089237316195423570985008687907853269984665640564039457584007913129639936:=by
 obtain⟨x0,x1,x2,x3⟩:=x;obtain⟨h0,h1,h2,h3⟩:=h;simp only[uN]at *;omega
theorem z8r{x y:W4}(hx:x.Ok)(hy:y.Ok)(h:uN x=uN y):x=y:=by
 obtain⟨x0,x1,x2,x3⟩:=x;obtain⟨y0,y1,y2,y3⟩:=y;obtain⟨a0,a1,a2,a3⟩:=hx;obtain⟨b0,b1,b2,b3⟩:=hy;simp only[uN]at *
 have e0:x0=y0:=by omega
 have e1:x1=y1:=by omega
 have e2:x2=y2:=by omega
 have e3:x3=y3:=by omega
 rw[e0,e1,e2,e3]
theorem zoh{x:W4}(h:x.Ok):uOf (uN x)=x:=z8r (z1z _) h (z6y (z2m h))
theorem z6u:W4.Ok (0,0,0,0):=⟨by decide,by decide,by decide,by decide⟩
theorem zc1{x:W4}:x=(0,0,0,0)↔uN x=0:=by
 obtain⟨x0,x1,x2,x3⟩:=x;simp only[uN,Prod.mk.injEq];omega
theorem z9v{x y:W4}:z3m x y=0↔uN x+uN y<115792089237316195423570985008687907853269984665640564039457584007913129639936:=by
 have h:=zl6 (x:=x) (y:=y);have:=z2m (zf0 x y);omega
theorem zkk{x y:W4}:z4s x y=uOf (uN x+uN y):=by
 refine z8r (zf0 x y) (z1z _) ?_;have h:=zl6 (x:=x) (y:=y);have:=z2m (zf0 x y);rw[zoy];omega
theorem zft{x y:W4}(hx:x.Ok)(hy:y.Ok):uN (z3g x y)+uN y=uN x+115792089237316195423570985008687907853269984665640564039457584007913129639936*z1y x y:=by
 obtain⟨x0,x1,x2,x3⟩:=x;obtain⟨y0,y1,y2,y3⟩:=y;obtain⟨a0,a1,a2,a3⟩:=hx;obtain⟨b0,b1,b2,b3⟩:=hy;simp only at a0 a1 a2 a3 b0 b1 b2 b3;have one:∀ a b c:Nat,a<18446744073709551616->b<18446744073709551616->c<=1->subS a b c+b+c=a+18446744073709551616*subC a b c/\subC a b c<=1:=fun a b c h1 h2 h3=>by
  unfold subS subC;split<;>omega
 simp only[uN,z3g,z1y,z1k,W4.set,W4.at];obtain⟨e0,c0⟩:=one x0 y0 0 a0 b0 (by omega);obtain⟨e1,c1⟩:=one x1 y1 _ a1 b1 c0;obtain⟨e2,c2⟩:=one x2 y2 _ a2 b2 c1;obtain⟨e3,c3⟩:=one x3 y3 _ a3 b3 c2;generalize subC x3 y3 _=z3 at *
 generalize subS x3 y3 _=s3 at *
 generalize subC x2 y2 _=z2 at *
 generalize subS x2 y2 _=s2 at *
 generalize subC x1 y1 _=z1 at *
 generalize subS x1 y1 _=s1 at *
 generalize subC x0 y0 _=z0 at *
 generalize subS x0 y0 _=s0 at *
 omega
theorem z3b{x y:W4}(hx:x.Ok)(hy:y.Ok):z1y x y=0↔uN y<=uN x:=by
 have h:=zft hx hy;have h1:=z2m (zcg x y);have h2:=z2m hx;have h3:=z2m hy;have h4:z1y x y<=1:=zdf x y 4;omega
theorem zk2{x y:W4}(hx:x.Ok)(hy:y.Ok)(h:uN y<=uN x):z3g x y=uOf (uN x-uN y):=by
 refine z8r (zcg x y) (z1z _) ?_;have h1:=zft hx hy;rw[(z3b hx hy).2 h]at h1;have h2:=z2m hx;rw[z6y (by omega)];omega
theorem zm4{x y:W4}(hx:x.Ok)(hy:y.Ok)(h:uN x<uN y):z3g x y=uOf (115792089237316195423570985008687907853269984665640564039457584007913129639936+uN x-uN y):=by
 refine z8r (zcg x y) (z1z _) ?_;have h1:=zft hx hy;have h2:=z2m hx;have h3:=z2m hy;have h4:z1y x y<=1:=zdf x y 4;have h5:=z2m (zcg x y);rw[z6y (by omega)];omega
theorem zk7(n k:Nat)(hk:k<4):(uOf n).at k=n/18446744073709551616 ^ k%18446744073709551616:=by
 match k,hk with
 | 0,_=>show n%_=n/1%_;rw[Nat.div_one]
 | 1,_=>rfl
 | 2,_=>rfl
 | 3,_=>rfl
theorem zvf(x:W4)(k v:Nat)(hk:k<4):uN (x.set k v)+18446744073709551616 ^ k*x.at k=uN x+18446744073709551616 ^ k*v:=by
 obtain⟨x0,x1,x2,x3⟩:=x
 match k,hk with
 | 0,_=>simp only[uN,W4.set,W4.at];omega
 | 1,_=>simp only[uN,W4.set,W4.at];omega
 | 2,_=>simp only[uN,W4.set,W4.at];omega
 | 3,_=>simp only[uN,W4.set,W4.at];omega
theorem W4.Ok.set{x:W4}(h:x.Ok)(k v:Nat)(hv:v<18446744073709551616):(x.set k v).Ok:=by
 obtain⟨x0,x1,x2,x3⟩:=x;obtain⟨h0,h1,h2,h3⟩:=h;unfold W4.set;split
 ·exact⟨hv,h1,h2,h3⟩
 ·exact⟨h0,hv,h2,h3⟩
 ·exact⟨h0,h1,hv,h3⟩
 ·exact⟨h0,h1,h2,hv⟩
theorem zor(x:W4):dLow 18446744073709551616 x.at 4=uN x:=by
 obtain⟨x0,x1,x2,x3⟩:=x;simp only[dLow,uN,W4.at];omega
theorem zzu{l:List Nat}(h:l.length=8)(hw:Words 18446744073709551616 l):l = [(uOf (dgN 18446744073709551616 l)).1,(uOf (dgN 18446744073709551616 l)).2.1,(uOf (dgN 18446744073709551616 l)).2.2.1,(uOf (dgN 18446744073709551616 l)).2.2.2,
  (uOf (dgN 18446744073709551616 l/115792089237316195423570985008687907853269984665640564039457584007913129639936)).1,(uOf (dgN 18446744073709551616 l/115792089237316195423570985008687907853269984665640564039457584007913129639936)).2.1,(uOf (dgN 18446744073709551616 l/115792089237316195423570985008687907853269984665640564039457584007913129639936)).2.2.1,(uOf (dgN 18446744073709551616 l/115792089237316195423570985008687907853269984665640564039457584007913129639936)).2.2.2]:=by
 match l,h with
 | [a,b,c,d,e,f,g,i],_ =>
  have ha:=hw a (by simp);have hb:=hw b (by simp);have hc:=hw c (by simp);have hd:=hw d (by simp);have he:=hw e (by simp);have hf:=hw f (by simp);have hg:=hw g (by simp);have hi:=hw i (by simp);simp only[dgN,uOf,List.cons.injEq,and_true];refine⟨?_,?_,?_,?_,?_,?_,?_,?_⟩<;>omega
theorem zfd(N d i:Nat)(hd:0<d):(2*(N/2 ^ (i+1)%d)+N/2 ^ i%2<d->N/2 ^ i%d=2*(N/2 ^ (i+1)%d)+N/2 ^ i%2/\N/2 ^ i/d=2*(N/2 ^ (i+1)/d)) /\
  (d<=2*(N/2 ^ (i+1)%d)+N/2 ^ i%2->N/2 ^ i%d=2*(N/2 ^ (i+1)%d)+N/2 ^ i%2-d/\N/2 ^ i/d=2*(N/2 ^ (i+1)/d)+1):=by
 have e1:N/2 ^ (i+1)=N/2 ^ i/2:=by rw[Nat.pow_succ,Nat.div_div_eq_div_mul]
 rw[e1];generalize N/2 ^ i=M;have h1:=Nat.div_add_mod (M/2) d;have h2:=Nat.mod_lt (M/2) hd;generalize M/2/d=q at *
 generalize hr:M/2%d=r at *
 have hM:M=d*(2*q)+(2*r+M%2):=by
  have:d*(2*q)=2*(d*q):=by rw[Nat.mul_left_comm]
  omega
 refine⟨fun h => ?_,fun h => ?_⟩
 ·generalize M%2=b at *
  subst hM;rw[Nat.mul_add_mod,Nat.mod_eq_of_lt h,Nat.mul_add_div hd,Nat.div_eq_of_lt h];exact⟨rfl,rfl⟩
 ·have hb:=Nat.mod_lt M (show 0<2 by decide);generalize M%2=b at *
  have hM2:M=d*(2*q+1)+(2*r+b-d):=by rw[Nat.mul_add,Nat.mul_one];omega
  have hlt:2*r+b-d<d:=by omega
  subst hM2;rw[Nat.mul_add_mod,Nat.mod_eq_of_lt hlt,Nat.mul_add_div hd,Nat.div_eq_of_lt hlt];exact⟨rfl,rfl⟩
theorem zuu(v r:Nat)(h8:r<64)(hv:v%2 ^ (r+1)=0)(hlt:v<18446744073709551616):v+2 ^ r<18446744073709551616/\v ||| 2 ^ r=v+2 ^ r:=by
 have hq:v=2 ^ (r+1)*(v/2 ^ (r+1)):=by
  have:=Nat.div_add_mod v (2 ^ (r+1));omega
 have hp:2 ^ r<2 ^ (r+1):=Nat.pow_lt_pow_right (by decide) (by omega);refine⟨?_,?_⟩
 ·have h64:(18446744073709551616:Nat)=2 ^ (r+1)*2 ^ (63-r):=by
   rw[<- Nat.pow_add,show r+1+(63-r)=64 by omega]
  rw[h64]at hlt ⊢;have h1:v/2 ^ (r+1)<2 ^ (63-r):=Nat.div_lt_of_lt_mul hlt;have h2:2 ^ (r+1)*(v/2 ^ (r+1)+1)<=2 ^ (r+1)*2 ^ (63-r):=Nat.mul_le_mul_left _ h1;rw[Nat.mul_add]at h2;omega
 ·rw[hq,<- Nat.two_pow_add_eq_or_of_lt hp]
theorem zil(k:Nat):(18446744073709551616:Nat) ^ k=2 ^ (64*k):=by
 rw[show(18446744073709551616:Nat)=2 ^ 64 by decide,<- Nat.pow_mul]
theorem zp1(Q i:Nat)(hi:i<256)(hQ:Q<115792089237316195423570985008687907853269984665640564039457584007913129639936)(hz:Q%2 ^ (i+1)=0):(uOf Q).at (i/64)+2 ^ (i%64)<18446744073709551616/\(uOf Q).at (i/64) ||| 2 ^ (i%64)=(uOf Q).at (i/64)+2 ^ (i%64)/\(uOf Q).set (i/64) ((uOf Q).at (i/64)+2 ^ (i%64))=uOf (Q+2 ^ i)/\Q+2 ^ i<115792089237316195423570985008687907853269984665640564039457584007913129639936:=by
 have hk:i/64<4:=by omega
 have hp:2 ^ i=2 ^ (64*(i/64))*2 ^ (i%64):=by rw[<- Nat.pow_add];congr 1;omega
 have hw:(uOf Q).at (i/64)%2 ^ (i%64+1)=0:=by
  rw[zk7 _ _ hk,zil];have hd:2 ^ (i%64+1)∣18446744073709551616:=by
   rw[show(18446744073709551616:Nat)=2 ^ 64 by decide];exact Nat.pow_dvd_pow 2 (by omega)
  rw[Nat.mod_mod_of_dvd _ hd];have hp1:2 ^ (i+1)=2 ^ (64*(i/64))*2 ^ (i%64+1):=by rw[<- Nat.pow_add];congr 1;omega
  have h1:Q=2 ^ (64*(i/64))*(2 ^ (i%64+1)*(Q/2 ^ (i+1))):=by
   have:=Nat.div_add_mod Q (2 ^ (i+1));rw[hz,Nat.add_zero,hp1,Nat.mul_assoc,<- hp1]at this;exact this.symm
  rw[h1,Nat.mul_div_cancel_left _ (Nat.pow_pos (by decide)),Nat.mul_mod_right]
 obtain⟨b1,b2⟩:=zuu _ _ (Nat.mod_lt _ (by decide)) hw ((z1z Q).at _);have hs:=zvf (uOf Q) (i/64) ((uOf Q).at (i/64)+2 ^ (i%64)) hk;rw[Nat.mul_add,zil,<- hp,z6y hQ]at hs;have hok:=(z1z Q).set (i/64) _ b1;have hlt:=z2m hok;have hfit:Q+2 ^ i<115792089237316195423570985008687907853269984665640564039457584007913129639936:=by omega
 refine⟨b1,b2,z8r hok (z1z _) ?_,hfit⟩;rw[z6y hfit];omega
theorem zcr{n:Nat}(h:n<18446744073709551616):bits .and .u64 (n:Int) 4294967295=((n%4294967296:Nat):Int):=by
 obtain⟨X,hX,_⟩:=zex h;have hM:(4294967295:Int)=(((BitVec.ofNat 64 4294967295).toNat:Nat):Int):=by decide
 rw[<- hX,hM,zjy,BitVec.toNat_and];congr 1;rw[show(BitVec.ofNat 64 4294967295).toNat=2 ^ 32-1 by decide,Nat.and_two_pow_sub_one_eq_mod]
theorem za6{x y:Nat}(h:x*y<18446744073709551616):IntKind.u64.wrap ((x:Int)*(y:Int))=((x*y:Nat):Int):=by
 rw[<- Int.natCast_mul,IntKind.wrap_u64];omega
theorem wrap_add{x y:Nat}(h:x+y<18446744073709551616):IntKind.u64.wrap ((x:Int)+(y:Int))=((x+y:Nat):Int):=by
 rw[IntKind.wrap_u64];omega
theorem zxm(n:Nat):(n:Int)/4294967296=((n/4294967296:Nat):Int):=rfl
theorem zve{x y:Nat}(hy:y<4294967296):bits .or .u64 (IntKind.u64.wrap ((x:Int)*4294967296)) (y:Int)=(((x%4294967296)*4294967296+y:Nat):Int):=by
 have hw:IntKind.u64.wrap ((x:Int)*4294967296)=(((x%4294967296)*4294967296:Nat):Int):=by rw[IntKind.wrap_u64];omega
 obtain⟨X,hX,_⟩:=zex (n:=(x%4294967296)*4294967296) (by omega);obtain⟨Y,hY,_⟩:=zex (n:=y) (by omega);rw[hw,<- hX,<- hY,zq3,BitVec.toNat_or,hX,hY];congr 1;rw[Nat.mul_comm,show(4294967296:Nat)=2 ^ 32 by decide,<- Nat.two_pow_add_eq_or_of_lt (by omega)]
theorem zwq(a b:Nat)(ha:a<18446744073709551616)(hb:b<18446744073709551616) :
  IntKind.u64.wrap (IntKind.u64.wrap (IntKind.u64.wrap ((a:Int)/4294967296*((b:Int)/4294967296))+IntKind.u64.wrap (IntKind.u64.wrap ((a:Int)/4294967296*bits BinOp.and IntKind.u64 (b:Int) 4294967295)+IntKind.u64.wrap (bits BinOp.and IntKind.u64 (a:Int) 4294967295*bits BinOp.and IntKind.u64 (b:Int) 4294967295)/4294967296)/4294967296)+IntKind.u64.wrap (IntKind.u64.wrap (bits BinOp.and IntKind.u64 (a:Int) 4294967295*((b:Int)/4294967296))+bits BinOp.and IntKind.u64 (IntKind.u64.wrap (IntKind.u64.wrap ((a:Int)/4294967296*bits BinOp.and IntKind.u64 (b:Int) 4294967295)+IntKind.u64.wrap (bits BinOp.and IntKind.u64 (a:Int) 4294967295*bits BinOp.and IntKind.u64 (b:Int) 4294967295)/4294967296)) 4294967295)/4294967296)=((a*b/18446744073709551616:Nat):Int) /\
  bits BinOp.or IntKind.u64 (IntKind.u64.wrap (IntKind.u64.wrap (IntKind.u64.wrap (bits BinOp.and IntKind.u64 (a:Int) 4294967295*((b:Int)/4294967296))+bits BinOp.and IntKind.u64 (IntKind.u64.wrap (IntKind.u64.wrap ((a:Int)/4294967296*bits BinOp.and IntKind.u64 (b:Int) 4294967295)+IntKind.u64.wrap (bits BinOp.and IntKind.u64 (a:Int) 4294967295*bits BinOp.and IntKind.u64 (b:Int) 4294967295)/4294967296)) 4294967295)*4294967296)) (bits BinOp.and IntKind.u64 (IntKind.u64.wrap (bits BinOp.and IntKind.u64 (a:Int) 4294967295*bits BinOp.and IntKind.u64 (b:Int) 4294967295)) 4294967295)=((a*b%18446744073709551616:Nat):Int):=by
 have e3:(a:Int)/4294967296=((a/4294967296:Nat):Int):=rfl;have e4:(b:Int)/4294967296=((b/4294967296:Nat):Int):=rfl;rw[zcr ha,zcr hb,e3,e4];have hA:=Nat.div_add_mod a 4294967296;have hB:=Nat.div_add_mod b 4294967296;have a1:a/4294967296<4294967296:=by omega
 have a2:a%4294967296<4294967296:=by omega
 have b1:b/4294967296<4294967296:=by omega
 have b2:b%4294967296<4294967296:=by omega
 clear ha hb e3 e4;generalize a/4294967296=x at *
 generalize a%4294967296=y at *
 generalize b/4294967296=u at *
 generalize b%4294967296=v at *
 have hab:a*b=18446744073709551616*(x*u)+4294967296*(x*v)+4294967296*(y*u)+y*v:=by
  rw[<- hA,<- hB,Nat.add_mul,Nat.mul_add,Nat.mul_add,Nat.mul_assoc,Nat.mul_assoc,Nat.mul_left_comm x,Nat.mul_left_comm y];omega
 rw[hab];have k1:x*u<=4294967295*4294967295:=Nat.mul_le_mul (by omega) (by omega);have k2:x*v<=4294967295*4294967295:=Nat.mul_le_mul (by omega) (by omega);have k3:y*u<=4294967295*4294967295:=Nat.mul_le_mul (by omega) (by omega);have k4:y*v<=4294967295*4294967295:=Nat.mul_le_mul (by omega) (by omega);rw[za6 (x:=x) (y:=u) (by omega),za6 (x:=x) (y:=v) (by omega),za6 (x:=y) (y:=v) (by omega),za6 (x:=y) (y:=u) (by omega)];generalize x*u=p at *
 generalize x*v=q at *
 generalize y*u=r at *
 generalize y*v=s at *
 rw[zxm,wrap_add (by omega),zcr (n:=q+s/4294967296) (by omega),zcr (n:=s) (by omega),wrap_add (by omega),zve (by omega),zxm,zxm,wrap_add (by omega),wrap_add (by omega)];refine⟨?_,?_⟩
 ·congr 1;omega
 ·congr 1;omega
theorem ziy(a b:Nat)(ha:a<18446744073709551616)(hb:b<18446744073709551616)(w:World):Calls Tryz.prog 224 #[.int .u64 a,.int .u64 b] w fun e w'=>e= .returned (.tuple #[.int .u64 ((a*b/18446744073709551616:Nat):Int),.int .u64 ((a*b%18446744073709551616:Nat):Int)])/\w=w':=by
 have HP:=zh (zwq a b ha hb);go_enter Tryz.func224,Tryz.ntmps224;go_wp2_with fail;refine bodyPost_ret (results_tmp2 rfl _ _ _) rfl ⟨?_,rfl⟩;rw[<- HP.out.1,<- HP.out.2];rfl
end Go.Proofs.YtnkilceibkkjlaaGreat
