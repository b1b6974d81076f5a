/- What is proved here: a drawn region whose values are know -/
import Derived.Test.YtnkilceibkkjlaaGreatKRelyC
import Derived.Test.YtnkilceibkkjlaaGreatKHoldD
set_option maxRecDepth 100000
set_option maxHeartbeats 16000000
namespace Go.Proofs.YtnkilceibkkjlaaGreat
open Go.RowKit
def reEq(un:List Nat)(vs:Nat->Value)(cs:List Value):List Nat->Prop
 | []=>True
 | j::l=>(bif un.contains j then True else vs j=cs.getD j undef)/\reEq un vs cs l
theorem zq6{un:List Nat}{vs:Nat->Value}{cs:List Value}:∀ {l:List Nat},(∀ j∈l,bif un.contains j then True else vs j=cs.getD j undef)->reEq un vs cs l
 | [],_=>trivial
 | j::_,h=>⟨h j (by simp),zq6 fun i hi=>h i (by simp[hi])⟩
def zir(P:Program)(ops:Array Oper)(pr:List (List Nat))(cs:List Value)(un:List Nat)(I:(Nat->Bool)->(Nat->Value)->World->Prop)(fr:(Nat->Value)->Act):Nat->List Oper->Prop
 | _,[]=>True
 | k,o::l=>(∀ L vs w,reEq un vs cs (pr.getD k [])->I L vs w->(∀ j,(pr.getD k []).contains j=true->L j=true)->L k=false->(∀ j,(pr.getD j []).contains k=true->L j=false)->rgDo P ops o (fr vs) w fun v w'=>(bif un.contains k then True else v=cs.getD k undef)/\I (fun j=>if j=k then true else L j) (z5j vs k v) w')/\zir P ops pr cs un I fr (k+1) l
theorem zem{P:Program}{ops:Array Oper}{pr:List (List Nat)}{cs:List Value}{un:List Nat}{I:(Nat->Bool)->(Nat->Value)->World->Prop}{fr:(Nat->Value)->Act}:∀ {l:List Oper} {k:Nat},zir P ops pr cs un I fr k l->∀ (i:Nat) (o:Oper),l[i]?=some o ->
  ∀ L vs w,reEq un vs cs (pr.getD (k+i) [])->I L vs w->(∀ j,(pr.getD (k+i) []).contains j=true->L j=true)->L (k+i)=false->(∀ j,(pr.getD j []).contains (k+i)=true->L j=false)->rgDo P ops o (fr vs) w fun v w'=>(bif un.contains (k+i)then True else v=cs.getD (k+i) undef)/\I (fun j=>if j=k+i then true else L j) (z5j vs (k+i) v) w'
 | [],_,_,i,o,h=>by simp at h
 | x::l,k,h,0,o,ho=>by
  simp only[List.getElem?_cons_zero,Option.some.injEq]at ho
  subst ho;exact h.1
 | x::l,k,h,i+1,o,ho=>by
  have:=zem h.2 i o (by simpa using ho)
  rwa [show k+1+i=k+(i+1)by omega]at this
theorem z8q{P:Program}{id:Nat}{Q:Exit->Act->World->Prop}{a:Act}{w:World}{l:List Oper}(pr:List (List Nat))(cs:List Value)(un:List Nat)(I:(Nat->Bool)->(Nat->Value)->World->Prop)(fr:(Nat->Value)->Act){frc:(Nat->Value)->Act}
  (hm:P.follows .mixedOrders=true) (hB:rgB l.toArray pr a.tmps.size=true) (hpl:decide (pr.length<=l.length)=true) (hfr:∀ vs,z14 l a vs=fr vs) (hfc:∀ vs:Nat->Value,fr (fun j=>bif un.contains j then vs j else cs.getD j undef)=frc vs)
  (h0:I (fun _=>false) (fun _=>undef) w.drew)
  (hs:zir P l.toArray pr cs un I fr 0 l)
  (hend:∀ L vs w,I L vs w->(∀ j,j<l.length->L j=true)->Q .normal (frc vs) w):(Code.region id l.toArray true).wp P Q a w:=by
 refine wp_region_any hm ?_;have hok:=zl2 hB;have hsz:l.toArray.size=l.length:=by simp
 have hpl:=of_decide_eq_true hpl;refine z7w hok (fun L vs w=>(∀ j,L j=true->bif un.contains j then True else vs j=cs.getD j undef)/\I L vs w/\∀ j,l.length<=j->L j=false) ?_ ?_ l.toArray.size (Array.replicate l.toArray.size false) (fun _=>undef) a w.drew ?_ ?_ ?_
 ·intro i o ho L vs w hI hpre hLi hpost;obtain⟨hv,hP,hbig⟩:=hI;have hil:i<l.length:=by rw[<- hsz];exact(Array.getElem?_eq_some_iff.1 ho).1
  have hi:=zem hs i o (by simpa using ho);rw[Nat.zero_add]at hi;rw[show z14 l.toArray.toList a vs=z14 l a vs from rfl,hfr vs]
  refine zdi (fun v w' he=>⟨fun j hj => ?_,he.2,fun j hj => ?_⟩) (hi L vs w (zq6 fun j hj=>hv j (hpre j hj)) hP (fun j hj=>hpre j (by simpa using hj)) hLi (fun j hj => ?_))
  ·by_cases hji:j=i
   ·subst hji;have:=he.1
    simpa [z5j]using this
   ·have:(if j=i then true else L j)=true:=hj;rw[if_neg hji]at this;have h2:=hv j this
    simpa [z5j,hji]using h2
  ·show(if j=i then true else L j)=false
   rw[if_neg (by omega)];exact hbig j hj
  ·by_cases hjl:j<l.length
   ·exact hpost j l[j] (by simp[hjl]) (by simpa using hj)
   ·exact hbig j (by omega)
 ·intro L vs w hI hall;obtain⟨hv,hP,_⟩:=hI;have e:z14 l.toArray.toList a vs=frc vs:=by
   rw[<- hfc,<- hfr];show({ a with tmps:=_ }:Act) = { a with tmps:=_ }
   congr 1;refine zbw l 0 _ _ _ fun j hj => ?_
   rw[Nat.zero_add];have h1:=hv j (hall j (by rw[hsz];exact hj));cases hc:un.contains j with
   | true=>rfl
   | false=>rw[hc]at h1;exact h1
  rw[e];exact hend L vs w hP fun j hj=>hall j (by rw[hsz];exact hj)
 ·refine⟨rfl,rfl,fun t ht => ?_,by simp,fun j oj _ hl => ?_⟩
  ·refine(z6t _ _ _ _ _ fun j o hj hd => ?_).symm;have:=ht j o (by simpa using hj) hd;rw[getD_replicate_false]at this;cases this
  ·rw[getD_replicate_false]at hl;cases hl
 ·refine Nat.le_trans (List.length_filter_le _ _) (by simp)
 ·have e:(fun j=>(Array.replicate l.toArray.size false).getD j false)=fun _=>false:=by funext j;rw[getD_replicate_false]
  refine⟨fun j hj => ?_,?_,fun j _ => ?_⟩
  ·have:(Array.replicate l.toArray.size false).getD j false=true:=hj;rw[getD_replicate_false]at this;cases this
  ·rw[e];exact h0
  ·show(Array.replicate l.toArray.size false).getD j false=false
   rw[getD_replicate_false]
theorem zp4{ops:Array Oper}{o:Oper}{a:Act}{w:World}{K:Value->World->Prop}{x:Operand}{m:Int}(hg:Region.wanted o (yielded ops a.tmps)=true)(ho:o.op= .buildSlice 75 1 #[(0,x)])(hx:a.eval x= .int .i64 m)
  (hk:K (.slice (some ⟨w.heap.size,0,none⟩) 1 1) (w.alloc (.cells #[.int .i64 m] 3))):rgDo Tryz.prog ops o a w K:=by
 refine z7s hg ?_ hk;unfold execOp;simp only[ho,hx,List.map_toArray,List.map_cons,List.map_nil]
 go_simp
theorem zqe{P:Program}{ops:Array Oper}{o:Oper}{a:Act}{w:World}{K:Value->World->Prop}(hgd:Region.wanted o (yielded ops a.tmps)=true)(s x:Operand)(t t2:TypeId)(ho:o.op= .call { callee:=.builtin .append,args:=#[s,x],argTypes:=#[t,t2] })
  {e:TypeId} {z:Value} {size bytes:Nat} (T:z1j P t e z size bytes) (T2:z1j P t2 e z size bytes)
  {v:Value} {n:Nat} {xs:List Value} (hs:a.eval s=v) (hown:Own w e size v n xs)
  {ad:Addr} {m c:Nat} (news:List Value) (hx:a.eval x= .slice (some ad) m c) (hl:news.length=m*size) (hnews:∀ j u,news[j]?=some u->w.cell? (ad.add j)=some u) (h1:∀ u∈news,u.oneCell'=true)
  (h63:n+m<=maxLen) (hbytes:(n+m)*bytes<=140737488355328)
  (hk:∀ v' w',z0s w e size v n m xs news v' w'->K v' w'):rgDo P ops o a w K:=by
 obtain⟨v',w',hr,hA⟩:=z4t T T2 o.type hown news hl hnews h1 h63 hbytes;exact z7s hgd (z16 ho hs hx hr) (hk v' w' hA)
def PSt(w:World)(x:I4)(g:Nat)(a b:Nat)(W:World):Prop:=Below w.heap.size w W/\(W.cell? ⟨g,0,none⟩=some (.int .i64 a)/\W.cell? ⟨g,1,none⟩=some (.int .i64 b))/\IdC w.heap.size x W/\W.heap[w.heap.size+1]?=some (.cells (uL (0,0,0,0)) 24 (0,0))
theorem PSt.below{w:World}{x:I4}{g a b:Nat}{W W':World}(h:PSt w x g a b W)(hb:Below W.heap.size W W'):PSt w x g a b W':=
 ⟨z0b h.1 hb,⟨z5q hb h.2.1.1,z5q hb h.2.1.2⟩,z7n h.2.2.1 hb,(hb.block _ (Array.getElem?_eq_some_iff.1 h.2.2.2).1).trans h.2.2.2⟩
theorem PSt.out{w:World}{x:I4}{g a b:Nat}{W:World}(h:PSt w x g a b W):(W.cell? ⟨g,0,none⟩=some (.int .i64 a)/\W.cell? ⟨g,1,none⟩=some (.int .i64 b))/\IdC w.heap.size x W/\W.frozen? ⟨w.heap.size+1,0,none⟩=false/\W.frozen? ⟨w.heap.size+1,1,none⟩=false/\W.frozen? ⟨w.heap.size+1,2,none⟩=false/\W.frozen? ⟨w.heap.size+1,3,none⟩=false:=by
 obtain⟨_,_,_,_,f0,f1,f2,f3⟩:=row4 h.2.2.2;exact⟨h.2.1,h.2.2.1,f0,f1,f2,f3⟩
theorem z5p(w:World)(q:Option Addr)(s:St)(x:I4)(hx:x.Ok)(h:z1c w.heap.size w q s):Calls Tryz.prog 20 #[.pointer q,idV x] w fun e w'=>e= .returned (.tuple #[.int .i64 (pend s x).1,uV (pend s x).2.1,.int .i64 (pend s x).2.2])/\Below w.heap.size w w':=by
 have hrow:((w.alloc (.cells (idL x) 34)).alloc (.cells (uL (0,0,0,0)) 24)).heap[w.heap.size]?=some (.cells (idL x) 34 (0,0)):=by
  rw[heap_alloc_old _ _ (by simp)];exact heap_alloc_new w (.cells (idL x) 34)
 have hc:IdC w.heap.size x ((w.alloc (.cells (idL x) 34)).alloc (.cells #[.int .u64 0,.int .u64 0,.int .u64 0,.int .u64 0] 24)):=z0g hrow;obtain⟨q0,q1,q2,q3⟩:=hc
 have HC:Hid (Calls Tryz.prog 65 #[idV x,.int .i64 30] ((w.alloc (.cells (idL x) 34)).alloc (.cells (uL (0,0,0,0)) 24)) fun e w1=>e= .returned (.string (aKey 30 x)) /\
  Calls Tryz.prog 75 #[.pointer q,.string (aKey 30 x)] w1 fun e w2=>∃ v,e= .returned v/\Own w2 3 1 v (rowOf (s.val (aKey 30 x))).length (zmx (rowOf (s.val (aKey 30 x))))/\(∀ g,v.ownBlock=some g->w.heap.size+1<g)/\Below w.heap.size w w2/\IdC w.heap.size x w2/\w2.heap[w.heap.size+1]?=some (.cells (uL (0,0,0,0)) 24 (0,0))):=by
  refine(z5v 30 (by decide) (by decide) x hx _).mono fun e w1 ⟨he,hb⟩=>⟨he,?_⟩
  have hi1:IdC w.heap.size x w1:=z7n (z0g hrow) hb;have hsz:=hb.size;simp only[World.size_alloc]at hsz;obtain⟨hb1,hr1⟩:=zfc _ _ hb;refine((h.below hb1).row (aKey 30 x)).mono fun e w2 ⟨v,he,ho,hg,hb2⟩=>⟨v,he,ho,fun g hgg=>(by have:=hg g hgg;omega),z0b hb1 hb2,z7n hi1 hb2,(hb2.block _ (Array.getElem?_eq_some_iff.1 hr1).1).trans hr1⟩
 have HA:Hid (∀ W,Below w.heap.size w W->Calls Tryz.prog 64 #[.pointer q,.string (aKey 31 x)] W fun e w2=>e= .returned (uV (z2p (s.val (aKey 31 x))))/\Below W.heap.size W w2):=fun W hb=>((h.below hb).up hb.size).amount _
 have HP:Hid (pend s x=zb0 (rowOf (s.val (aKey 30 x))) (z2p (s.val (aKey 31 x)))):=rfl;have HK:Hid (∀ W,Calls Tryz.prog 65 #[idV x,.int .i64 31] W fun e w'=>e= .returned (.string (aKey 31 x))/\Below W.heap.size W w'):=fun W=>z5v 31 (by decide) (by decide) x hx W
 clear hrow h;generalize z2p (s.val (aKey 31 x))=y at *
 generalize rowOf (s.val (aKey 30 x))=l at *
 generalize aKey 30 x=k at *
 generalize aKey 31 x=k2 at *
 generalize pend s x=p at *
 by_cases h2:l.length=2
 ·obtain⟨a,b,rfl⟩:∃ a b,l = [a,b]:=by
   match l,h2 with
   | [a,b],_=>exact⟨a,b,rfl⟩
  have hp:p=(a,y,b):=HP.out;subst hp;clear h2 HP;go_enter Tryz.func20,Tryz.ntmps20;go_wp2_with fail;refine zm HC.out ?_;rintro e w1 ⟨rfl,hD⟩;have HD:=zh hD;clear hD HC;go_wp2_with fail;refine zm HD.out ?_;rintro e w2 ⟨v,rfl,ho,hgn,hb2,hI2,hr2⟩;obtain⟨g,c,rfl,c0,c1⟩:=z7h ho;have hg1:w.heap.size+1<g:=hgn g rfl;have hP:PSt w x g a b w2:=⟨hb2,⟨c0,c1⟩,hI2,hr2⟩;have hPd:PSt w x g a b w2.drew:=⟨z0h hb2,⟨c0,c1⟩,hI2,hr2⟩;have HP:=zh hPd;obtain⟨_,⟨i0,i1,i2,i3⟩,f0,f1,f2,f3⟩:=hP.out;have n1:g≠w.heap.size+1:=by omega
  have n2:=Ne.symm n1;clear HD ho hgn hb2 hI2 hr2 hP hPd;go_wp2_with fail
  go_region_held3 (fun w'=>w'.cell? ⟨g,0,none⟩=some (.int .i64 a)/\w'.cell? ⟨g,1,none⟩=some (.int .i64 b)/\w'.cell? ⟨w.heap.size,0,none⟩=some (.int .i64 x.1)/\w'.cell? ⟨w.heap.size,1,none⟩=some (.int .i64 x.2.1)/\w'.cell? ⟨w.heap.size,2,none⟩=some (.int .i64 x.2.2.1)/\w'.cell? ⟨w.heap.size,3,none⟩=some (.int .i64 x.2.2.2)/\w'.frozen? ⟨w.heap.size+1,0,none⟩=false/\w'.frozen? ⟨w.heap.size+1,1,none⟩=false/\w'.frozen? ⟨w.heap.size+1,2,none⟩=false/\w'.frozen? ⟨w.heap.size+1,3,none⟩=false) (first | assumption | go_keep)
   (first
    | (go_at_call 65;refine zm (HK.out _) ?_;rintro e w3 ⟨rfl,hb3⟩;have HP3:=zh (HP.out.below hb3);obtain⟨⟨d0,d1⟩,⟨j0,j1,j2,j3⟩,e0,e1,e2,e3⟩:=HP3.out.out)
    | (go_at_call 64;refine zm (HA.out _ HP3.out.1) ?_;rintro e w4 ⟨rfl,hb4⟩;have HP4:=zh (HP3.out.below hb4);obtain⟨⟨m0,m1⟩,⟨l0,l1,l2,l3⟩,_⟩:=HP4.out.out;obtain⟨t0,t1,t2,t3,k0,k1,k2,k3⟩:=row4 HP4.out.2.2.2))
  all_goals
   go_wp2_with fail;refine bodyPost_ret (z2f rfl _ _ (w.heap.size+1) 24 (uL y) (0,0) _ rfl (put4 HP4.out.2.2.2 y) Tryz.underlying24 rfl (by kernel_rfl)) rfl ?_;exact⟨rfl,z0f HP4.out.1 (by omega) _ _ _ _⟩
 ·have hp:p=(0,(0,0,0,0),0):=by
   rw[HP.out];unfold zb0
   match l,h2 with
   | [],_=>rfl
   | [_],_=>rfl
   | _::_::_::_,_=>rfl
  subst hp
  have HC1:Hid (Calls Tryz.prog 65 #[idV x,.int .i64 30] ((w.alloc (.cells (idL x) 34)).alloc (.cells (uL (0,0,0,0)) 24)) fun e w1=>e= .returned (.string k) /\
   Calls Tryz.prog 75 #[.pointer q,.string k] w1 fun e w2=>∃ ad c,e= .returned (.slice ad l.length c)/\Below w.heap.size w w2/\w2.heap[w.heap.size+1]?=some (.cells (uL (0,0,0,0)) 24 (0,0))):=by
   refine HC.out.mono fun e w1 ⟨he,h1⟩=>⟨he,h1.mono fun e w2 ⟨v,he,hO,_,hb,_,hr⟩ => ?_⟩
   obtain⟨ad,c,hu,_⟩:=hO.form;subst hu;exact⟨ad,c,he,hb,hr⟩
  have hne:((l.length:Int)==2)=false:=beq_eq_false_iff_ne.2 (by omega);clear HC HP h2;generalize l.length=ln at *
  go_enter Tryz.func20,Tryz.ntmps20;go_wp2_with fail;refine zm HC1.out ?_;rintro e w1 ⟨rfl,hD⟩;have HD:=zh hD;clear hD HC1;go_wp2_with fail;refine zm HD.out ?_;rintro e w2 ⟨ad,c,rfl,hb2,hrow⟩;have HR:=zh hrow;obtain⟨_,_,_,_,r0,r1,r2,r3⟩:=row4 hrow;clear hrow HD;go_wp2_with fail;refine bodyPost_ret (z2f rfl _ _ (w.heap.size+1) 24 (uL (0,0,0,0)) (0,0) _ rfl (put4 HR.out (0,0,0,0)) Tryz.underlying24 rfl (by kernel_rfl)) rfl ?_;exact⟨rfl,z0f hb2 (by omega) _ _ _ _⟩
abbrev chL(a b:W4)(x y z:Int)(t:Bool):Array Value:=#[.int .u64 a.1,.int .u64 a.2.1,.int .u64 a.2.2.1,.int .u64 a.2.2.2,.int .u64 b.1,.int .u64 b.2.1,.int .u64 b.2.2.1,.int .u64 b.2.2.2,.int .i64 x,.int .i64 y,.int .i64 z,.bool t]
abbrev chV(a b:W4)(x y z:Int)(t:Bool):Value:=.agg (chL a b x y z t)
abbrev qL(q:Option Addr)(t:Int)(v:Value)(a b:Int):Array Value:=#[.pointer q,.int .i64 t,v,.int .i64 a,.int .i64 b]
theorem zfg{w:World}{g:Nat}{a b c d e:Value}{t:TypeId}(h:w.heap[g]?=some (.cells #[a,b,c,d,e] t (0,0))):(w.cell? ⟨g,0,none⟩=some a/\w.cell? ⟨g,1,none⟩=some b/\w.cell? ⟨g,2,none⟩=some c/\w.cell? ⟨g,3,none⟩=some d/\w.cell? ⟨g,4,none⟩=some e)/\w.frozen? ⟨g,0,none⟩=false/\w.frozen? ⟨g,1,none⟩=false/\w.frozen? ⟨g,2,none⟩=false/\w.frozen? ⟨g,3,none⟩=false/\w.frozen? ⟨g,4,none⟩=false:=
 ⟨⟨by rw[cell_of_row _ _ _ _ _ _ h];rfl,by rw[cell_of_row _ _ _ _ _ _ h];rfl,by rw[cell_of_row _ _ _ _ _ _ h];rfl,by rw[cell_of_row _ _ _ _ _ _ h];rfl,by rw[cell_of_row _ _ _ _ _ _ h];rfl⟩,frozen_of_row _ _ _ _ _ h,frozen_of_row _ _ _ _ _ h,frozen_of_row _ _ _ _ _ h,frozen_of_row _ _ _ _ _ h,frozen_of_row _ _ _ _ _ h⟩
theorem z7x(w:World):w.drew.heap=w.heap:=rfl
theorem z9a:rowOf z05 = []:=by unfold rowOf z05;rfl
theorem zu3(w:World)(q:Option Addr)(t:Nat)(ht1:1<=t)(ht2:t<=255)(ad:Option Addr)(c:Nat)(l:List Int)(hv:z0w w (.slice ad l.length c) l)(hl:l.length<1000000)(hr:∀ n∈l,n<9223372036854775808)(h:z4j w q):Calls Tryz.prog 138 #[.pointer q,.int .i64 t,.slice ad l.length c] w fun e w'=>e= .returned (.agg (qL q t (.slice ad l.length c) 0 0))/\Below w.heap.size w w':=by
 have hb0:=z00 (z00 (Below.refl _ w) (.cells (qL none 0 (.slice none 0 0) 0 0) 188)) (.cells (qL q t (.slice ad l.length c) 0 0) 188)
 have HC:Hid (Calls Tryz.prog 90 #[.int .i64 t,.slice ad l.length c] ((w.alloc (.cells (qL none 0 (.slice none 0 0) 0 0) 188)).alloc (.cells (qL q t (.slice ad l.length c) 0 0) 188)) fun e w1=>e= .returned (.string (keyL t l)) /\
  Calls Tryz.prog 75 #[.pointer q,.string (keyL t l)] w1 fun e w2=>∃ a2 c2,e= .returned (.slice a2 0 c2)/\Below w.heap.size w w2/\w2.heap[w.heap.size]?=some (.cells (qL none 0 (.slice none 0 0) 0 0) 188 (0,0))/\w2.heap[w.heap.size+1]?=some (.cells (qL q t (.slice ad l.length c) 0 0) 188 (0,0))):=by
  have hr0:((w.alloc (.cells (qL none 0 (.slice none 0 0) 0 0) 188)).alloc (.cells (qL q t (.slice ad l.length c) 0 0) 188)).heap[w.heap.size]?=some (.cells (qL none 0 (.slice none 0 0) 0 0) 188 (0,0)):=by
   rw[heap_alloc_old _ _ (by simp)];exact heap_alloc_new w (.cells (qL none 0 (.slice none 0 0) 0 0) 188)
  have hr1:=heap_alloc_new (w.alloc (.cells (qL none 0 (.slice none 0 0) 0 0) 188)) (.cells (qL q t (.slice ad l.length c) 0 0) 188);rw[World.size_alloc]at hr1;refine(z5g t ht1 ht2 _ l _ (hv.below hb0) (by omega) hr).mono fun e w1 ⟨he,hb⟩=>⟨he,?_⟩
  have hb1:=z0b hb0 hb;have hp0:=(hb.block _ (Array.getElem?_eq_some_iff.1 hr0).1).trans hr0;have hp1:=(hb.block _ (Array.getElem?_eq_some_iff.1 hr1).1).trans hr1;refine((z1c.not (h.below hb1)).row (keyL t l)).mono fun e w2 ⟨v,he,ho,hg,hb2⟩ => ?_
  rw[show rowOf ((⟨[],[]⟩:St).val (keyL t l)) = []from z9a]at ho
  obtain⟨a2,c2,rfl,_⟩:=ho.form;exact⟨a2,c2,he,z0b hb1 hb2,(hb2.block _ (Array.getElem?_eq_some_iff.1 hp0).1).trans hp0,(hb2.block _ (Array.getElem?_eq_some_iff.1 hp1).1).trans hp1⟩
 clear h hb0 hv hr;generalize keyL t l=k at *
 generalize l.length=n at *
 go_enter Tryz.func138,Tryz.ntmps138;go_wp2_with fail;refine zm HC.out ?_;rintro e w1 ⟨rfl,hD⟩;have HD:=zh hD;clear hD HC;go_wp2_with fail;refine zm HD.out ?_;rintro e w2 ⟨a2,c2,rfl,hb2,hr0,hr1⟩;have HR0:=zh hr0;have HB:=zh hb2;have f0:=zfg hr0;have f1:=zfg hr1;obtain⟨⟨_,_,_,_,_⟩,_,_,_,_,_⟩:=f0;obtain⟨⟨_,_,_,_,_⟩,_⟩:=f1;clear HD hr0 hr1 hb2;go_wp2_with fail
 go_region
 all_goals
  go_wp2_with fail;refine bodyPost_ret (results_cell_row rfl _ _ w.heap.size 188 (qL q t (.slice ad n c) 0 0) (0,0) _ rfl ?_ Tryz.underlying188 rfl (by kernel_rfl)) rfl ?_
  ·rw[z7x];exact z0d _ (z0d _ (z0d _ (z0d _ (z0d _ HR0.out))))
  ·exact⟨rfl,z0h ((z0f HB.out (Nat.le_refl _) _ _ _ _).setCell (p:=⟨w.heap.size,4,none⟩) (Nat.le_refl _) _)⟩
theorem zfx(w:World)(q:Option Addr)(t:Int)(v:Value)(a b:Nat)(hab:a<=b)(hb:b<9223372036854775808):Calls Tryz.prog 139 #[.agg (qL q t v a b)] w fun e w'=>e= .returned (.int .i64 ((b-a:Nat):Int))/\Below w.heap.size w w':=by
 have hb0:=z00 (Below.refl _ w) (.cells (qL q t v a b) 188);have f0:=zfg (heap_alloc_new w (.cells (qL q t v a b) 188));obtain⟨⟨_,_,_,c3,c4⟩,_⟩:=f0;go_enter Tryz.func139,Tryz.ntmps139;go_wp2_with fail;go_ret;exact⟨by simp;omega,hb0⟩
structure Ex where
 st:Int
 op:Int
 sg:Int
 bl:Int
 wo:W4
 mx:W4
def Ex.L(x:Ex):Array Value:=#[.int .i64 x.st,.int .i64 x.op,.int .i64 x.sg,.int .i64 x.bl,.int .u64 x.wo.1,.int .u64 x.wo.2.1,.int .u64 x.wo.2.2.1,.int .u64 x.wo.2.2.2,.int .u64 x.mx.1,.int .u64 x.mx.2.1,.int .u64 x.mx.2.2.1,.int .u64 x.mx.2.2.2]
structure Ex.Ok (x:Ex):Prop where
 st:I63 x.st
 op:I63 x.op
 sg:I63 x.sg
 bl:I63 x.bl
 wo:x.wo.Ok
 mx:x.mx.Ok
theorem zku{w:World}{v:Value}{l:List Int}(h:Own w 3 1 v l.length (l.map fun n=>Value.int .i64 n)):z0w w v l:=by
 obtain⟨_,a,c,he,hc⟩:=h.src;rcases h.2 with⟨rfl,h0⟩ | ⟨g,cap,cur,rfl,_⟩
 ·exact .inl ⟨rfl,List.eq_nil_of_length_eq_zero h0⟩
 ·cases he;refine .inr ⟨_,_,rfl,fun j x hj => ?_⟩;obtain⟨ad,h5,h6⟩:=hc j (.int .i64 x) (by simp[hj]);cases h5;exact h6
theorem zk5{w:World}{y:Value}{l:List Int}(h:z0w w y l):Src w 1 y l.length (l.map fun n=>Value.int .i64 n):=by
 refine⟨by simp,?_⟩;rcases h with⟨rfl,rfl⟩ | ⟨a,c,rfl,hc⟩
 ·exact⟨none,0,rfl,fun j u hj=>by simp at hj⟩
 ·refine⟨some a,c,rfl,fun j u hj => ?_⟩;rw[List.getElem?_map,Option.map_eq_some_iff]at hj;obtain⟨x,hx,rfl⟩:=hj;exact⟨a,rfl,hc j x hx⟩
def zby(w:World)(l:List Int)(e:Ending)(w':World):Prop:=∃ v,e= .returned v/\Own w' 3 1 v l.length (l.map fun n=>Value.int .i64 n)/\(∀ g,v.ownBlock=some g->w.heap.size<=g)/\Below w.heap.size w w'
theorem zm7(w:World)(y:Value)(l:List Int)(h:z0w w y l)(hl:l.length<1000000000000):Calls Tryz.prog 210 #[y] w (zby w l):=by
 have hS:=zk5 h;rcases h with⟨rfl,rfl⟩ | ⟨ad,c,rfl,hc⟩
 ·have HE:Hid (zby w [] (.returned (.slice none 0 0)) w):=⟨_,rfl,Own.nil _ _ _,fun g hg=>by simp[Value.ownBlock]at hg,Below.refl _ _⟩;have hsn:=fun (w:World)=>Lib.run_eql_slice_nil (P:=Tryz.prog) w 75 3 none 0 0 0 0 intT.und
  generalize zby w []=R at *
  clear hS;go_enter Tryz.func210,Tryz.ntmps210;go_wp2;exact HE.out
 ·have hown:Own (w.alloc (.cells #[] 3)) 3 1 (.slice (some ⟨w.heap.size,0,none⟩) 0 0) 0 []:=
   ⟨rfl,.inr ⟨w.heap.size,0,#[],rfl,heap_alloc_new w _,Nat.le_refl _,Nat.zero_le _,Nat.zero_le _,rfl⟩⟩
  have hS2:=hS.below (w':=w.alloc (.cells #[] 3)) ((Below.refl _ w).alloc (Nat.le_refl _) _);have HE:Hid (∀ v' w',z0s (w.alloc (.cells #[] 3)) 3 1 (.slice (some ⟨w.heap.size,0,none⟩) 0 0) 0 l.length [] (l.map fun n=>Value.int .i64 n) v' w'->zby w l (.returned v') w'):=fun v' w' hA=>by
   refine⟨v',rfl,by simpa using hA.own,fun g hg => ?_,((Below.refl _ w).alloc (Nat.le_refl _) _).grown hA.grown (by simp) (fun k hk=>by simp[Value.ownBlock]at hk;omega)⟩;rcases hA.block g hg with h | h
   ·simp[Value.ownBlock]at h;omega
   ·simp at h;omega
  have hmx:0+l.length<=maxLen:=by unfold maxLen;omega
  have hone:∀ u∈l.map (fun n=>Value.int .i64 n),u.oneCell'=true:=fun u hu=>by
   obtain⟨x,_,rfl⟩:=List.mem_map.1 hu;rfl
  generalize zby w l=R at *
  generalize (l.map fun n=>Value.int .i64 n)=xs at *
  generalize l.length=n at *
  have hsn:=fun (w:World)=>Lib.run_eql_slice_nil (P:=Tryz.prog) w 75 3 (some ad) n c 0 0 intT.und
  clear hS hc;go_enter Tryz.func210,Tryz.ntmps210;go_wp2_with (at_builtin;refine z2a rfl _ _ 75 75 rfl intT intT _ 0 [] rfl hown _ n xs rfl hS2 hone hmx (by omega) ?_);intro v' w' hA;have hR:=HE.out v' w' hA;go_wp2;exact hR
structure IdOk (l:List Int):Prop where
 len:l.length<=100
 lt:∀ x∈l,I63 x
def St.hlen(s:St)(t:Nat)(l:List Int):Nat:=s.int (keyL t l)
def hpt(v:ByteArray):Nat × W4:=if v.size<8 then(0,(0,0,0,0))else match numsL (v.extract 0 8).data.toList with
 | some [n]=>if (v.extract 8 v.size).size=32 then(n,z2p (v.extract 8 v.size))else(0,(0,0,0,0))
 | _=>(0,(0,0,0,0))
theorem z1c.get{n:Nat}{w:World}{q:Option Addr}{s:St}(h:z1c n w q s)(k:ByteArray):∃ ok,zb8 w q k (s.val k) ok:=by
 rcases h with⟨b,L,rfl,h,_,hv,_⟩ | ⟨h,_,rfl⟩
 ·exact⟨_,h.get k⟩
 ·exact⟨false,h.get k⟩
theorem z1c.vsz{n:Nat}{w:World}{q:Option Addr}{s:St}(h:z1c n w q s)(k:ByteArray):(s.val k).size<1000000000000:=by
 rcases h with⟨b,L,rfl,h,_,hv,_⟩ | ⟨h,_,rfl⟩
 ·exact hv k
 ·show z05.size<_;decide
def St.hlast(s:St)(t:Nat)(l:List Int):W4:=if s.hlen t l=0 then(0,0,0,0)else(hpt (s.val (keyL t (l ++ [((s.hlen t l:Nat):Int)-1])))).2
end Go.Proofs.YtnkilceibkkjlaaGreat
