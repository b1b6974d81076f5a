/- What is proved here: a row read over any store; two numbe -/
import Derived.Laws.Cover3
import Derived.Test.YtnkilceibkkjlaaGreatKRelyG
set_option maxRecDepth 100000
set_option maxHeartbeats 16000000
namespace Go.Proofs.YtnkilceibkkjlaaGreat
open Go.RowKit
theorem z1c.row{n:Nat}{w:World}{q:Option Addr}{s:St}(h:z1c n w q s)(k:ByteArray):Calls Tryz.prog 75 #[.pointer q,.string k] w (z5i w (rowOf (s.val k))):=by
 rcases h with⟨b,L,rfl,h,_,hv,_⟩ | ⟨h,_,rfl⟩
 ·exact zbg w _ k _ _ (h.get k) (hv k)
 ·exact zbg w q k z05 false (h.get k) (by decide)
theorem z7h{w:World}{v:Value}{x y:Nat}(h:Own w 3 1 v 2 (zmx [x,y])):∃ g c,v= .slice (some ⟨g,0,none⟩) 2 c/\w.cell? ⟨g,0,none⟩=some (.int .i64 x)/\w.cell? ⟨g,1,none⟩=some (.int .i64 y):=by
 rcases h.2 with⟨_,h0⟩ | ⟨g,cap,cur,rfl,hg,_,_,hsz,hx⟩
 ·cases h0
 ·have hl:cur.toList.take 2 = [Value.int .i64 (x:Int),Value.int .i64 (y:Int)]:=hx;have e0:=congrArg (fun l=>l[0]?) hl;have e1:=congrArg (fun l=>l[1]?) hl;simp only[List.getElem?_take]at e0 e1;refine⟨g,cap,rfl,?_,?_⟩
  ·rw[cell_of_row _ _ _ _ _ _ hg];simpa using e0
  ·rw[cell_of_row _ _ _ _ _ _ hg];simpa using e1
abbrev I4:=Int × Int × Int × Int
abbrev I4.l(x:I4):List Int:=[x.1,x.2.1,x.2.2.1,x.2.2.2]
abbrev idL(x:I4):Array Value:=#[.int .i64 x.1,.int .i64 x.2.1,.int .i64 x.2.2.1,.int .i64 x.2.2.2]
abbrev idV(x:I4):Value:=.agg (idL x)
def I4.Ok(x:I4):Prop:=∀ n∈x.l,n<9223372036854775808
abbrev IdC(g:Nat)(x:I4)(w':World):Prop:=w'.cell? ⟨g,0,none⟩=some (.int .i64 x.1)/\w'.cell? ⟨g,1,none⟩=some (.int .i64 x.2.1)/\w'.cell? ⟨g,2,none⟩=some (.int .i64 x.2.2.1)/\w'.cell? ⟨g,3,none⟩=some (.int .i64 x.2.2.2)
theorem z0g{w:World}{g:Nat}{x:I4}{t:TypeId}(h:w.heap[g]?=some (.cells (idL x) t (0,0))):IdC g x w:=
 ⟨by rw[cell_of_row _ _ _ _ _ _ h];rfl,by rw[cell_of_row _ _ _ _ _ _ h];rfl,by rw[cell_of_row _ _ _ _ _ _ h];rfl,by rw[cell_of_row _ _ _ _ _ _ h];rfl⟩
theorem z7n{w w':World}{g:Nat}{x:I4}(h:IdC g x w)(hb:Below w.heap.size w w'):IdC g x w':=⟨z5q hb h.1,z5q hb h.2.1,z5q hb h.2.2.1,z5q hb h.2.2.2⟩
def aKey(t:Nat)(x:I4):ByteArray:=keyL t x.l
def aAll(x:I4):ByteArray:=keyL 32 [x.1,x.2.1]
theorem z5v(t:Nat)(ht1:1<=t)(ht2:t<=255)(x:I4)(hx:x.Ok)(w:World):Calls Tryz.prog 65 #[idV x,.int .i64 t] w fun e w'=>e= .returned (.string (aKey t x))/\Below w.heap.size w w':=by
 have hc0:=z0g (heap_alloc_new w (.cells (idL x) 34));obtain⟨q0,q1,q2,q3⟩:=hc0;have HK:Hid (Calls Tryz.prog 90 #[.int .i64 t,.slice (some ⟨w.heap.size+1,0,none⟩) 4 4] ((w.alloc (.cells (idL x) 34)).alloc (.cells (idL x) 3)) fun e w'=>e= .returned (.string (aKey t x))/\Below w.heap.size w w'):=by
  have hr:=heap_alloc_new (w.alloc (.cells (idL x) 34)) (.cells (idL x) 3);rw[World.size_alloc]at hr;obtain⟨c0,c1,c2,c3⟩:=z0g hr;refine(z5g t ht1 ht2 _ x.l _ (z3p (g:=w.heap.size+1) (l:=x.l) fun j z hj => ?_) (by simp) hx).mono fun e w' ⟨he,hb⟩=>⟨he,z0b (z00 (z00 (Below.refl _ w) _) _) hb⟩
  match j,hj with
  | 0,hj=>cases hj;exact c0
  | 1,hj=>cases hj;exact c1
  | 2,hj=>cases hj;exact c2
  | 3,hj=>cases hj;exact c3
 generalize aKey t x=k at *
 go_enter Tryz.func65,Tryz.ntmps65;go_wp2_with (go_at_call 90;refine HK.out.mono ?_;rintro e w1 ⟨rfl,h1⟩);go_ret;exact⟨rfl,h1⟩
theorem zbn(x:I4)(hx:x.Ok)(w:World):Calls Tryz.prog 82 #[idV x] w fun e w'=>e= .returned (.string (aAll x))/\Below w.heap.size w w':=by
 have hc0:=z0g (heap_alloc_new w (.cells (idL x) 34));obtain⟨q0,q1,_⟩:=hc0;have HK:Hid (Calls Tryz.prog 90 #[.int .i64 32,.slice (some ⟨w.heap.size+1,0,none⟩) 2 2] ((w.alloc (.cells (idL x) 34)).alloc (.cells #[.int .i64 x.1,.int .i64 x.2.1] 3)) fun e w'=>e= .returned (.string (aAll x))/\Below w.heap.size w w'):=by
  have hr:=heap_alloc_new (w.alloc (.cells (idL x) 34)) (.cells #[.int .i64 x.1,.int .i64 x.2.1] 3);rw[World.size_alloc]at hr
  exact(z5g 32 (by decide) (by decide) _ [x.1,x.2.1] _ (z2u _ _ _ _ hr) (by simp) (fun m hm=>hx m (by
   simp only[List.mem_cons,List.not_mem_nil,or_false]at hm ⊢
   rcases hm with rfl | rfl<;>simp))).mono fun e w' ⟨he,hb⟩=>⟨he,z0b (z00 (z00 (Below.refl _ w) _) _) hb⟩
 generalize aAll x=k at *
 go_enter Tryz.func82,Tryz.ntmps82;go_wp2_with (go_at_call 90;refine HK.out.mono ?_;rintro e w1 ⟨rfl,h1⟩);go_ret;exact⟨rfl,h1⟩
def cur(s:St)(x:I4):W4:=z2p (s.val (aKey 29 x))
def enc(s:St)(x:I4):W4:=z2p (s.val (aAll x))
theorem z5e(w:World)(q:Option Addr)(s:St)(x:I4)(hx:x.Ok)(h:z1c w.heap.size w q s):Calls Tryz.prog 18 #[.pointer q,idV x] w fun e w'=>e= .returned (uV (cur s x))/\Below w.heap.size w w':=by
 have hb0:=z00 (z00 (Below.refl _ w) (.cells (idL x) 34)) (.cells (uL (0,0,0,0)) 24);have hrow:((w.alloc (.cells (idL x) 34)).alloc (.cells (uL (0,0,0,0)) 24)).heap[w.heap.size]?=some (.cells (idL x) 34 (0,0)):=by
  rw[heap_alloc_old _ _ (by simp)];exact heap_alloc_new w (.cells (idL x) 34)
 have hc:IdC w.heap.size x ((w.alloc (.cells (idL x) 34)).alloc (.cells #[.int .u64 0,.int .u64 0,.int .u64 0,.int .u64 0] 24)):=z0g hrow;obtain⟨q0,q1,q2,q3⟩:=hc
 have HC:Hid (Calls Tryz.prog 65 #[idV x,.int .i64 29] ((w.alloc (.cells (idL x) 34)).alloc (.cells (uL (0,0,0,0)) 24)) fun e w1=>e= .returned (.string (aKey 29 x)) /\
  Calls Tryz.prog 64 #[.pointer q,.string (aKey 29 x)] w1 fun e w2=>e= .returned (uV (cur s x))/\Below w.heap.size w w2/\w2.heap[w.heap.size+1]?=some (.cells (uL (0,0,0,0)) 24 (0,0))):=by
  refine(z5v 29 (by decide) (by decide) x hx _).mono fun e w1 ⟨he,hb⟩=>⟨he,?_⟩
  obtain⟨hb1,hr1⟩:=zfc _ _ hb;refine(((h.below hb1).up hb1.size).amount (aKey 29 x)).mono fun e w2 ⟨he,hb2⟩=>⟨he,z0b hb1 hb2,(hb2.block _ (Array.getElem?_eq_some_iff.1 hr1).1).trans hr1⟩
 clear hb0 hrow h;generalize cur s x=y at *
 generalize aKey 29 x=k at *
 go_enter Tryz.func18,Tryz.ntmps18;go_wp2_with fail;refine zm HC.out ?_;rintro e w1 ⟨rfl,hD⟩;have HD:=zh hD;clear hD HC;go_wp2_with fail;refine zm HD.out ?_;rintro e w3 ⟨rfl,hb3,hrow⟩;have HR:=zh hrow;obtain⟨_,_,_,_,r0,r1,r2,r3⟩:=row4 hrow;clear hrow HD;go_wp2_with fail;refine bodyPost_ret (results_cell_row rfl _ _ (w.heap.size+1) 24 (uL y) (0,0) _ rfl (put4 HR.out y) Tryz.underlying24 rfl (by kernel_rfl)) rfl ?_;exact⟨rfl,z0f hb3 (by omega) _ _ _ _⟩
theorem zdy(w:World)(q:Option Addr)(s:St)(a b:Int)(ha:a<9223372036854775808)(hb:b<9223372036854775808)(h:z1c w.heap.size w q s):Calls Tryz.prog 27 #[.pointer q,.int .i64 a,.int .i64 b] w fun e w'=>e= .returned (uV (z2p (s.val (keyL 32 [a,b]))))/\Below w.heap.size w w':=by
 have HC:Hid (Calls Tryz.prog 90 #[.int .i64 32,.slice (some ⟨w.heap.size+1,0,none⟩) 2 2] ((w.alloc (.cells (uL (0,0,0,0)) 24)).alloc (.cells #[.int .i64 a,.int .i64 b] 3)) fun e w1=>e= .returned (.string (keyL 32 [a,b])) /\
  Calls Tryz.prog 64 #[.pointer q,.string (keyL 32 [a,b])] w1 fun e w2=>e= .returned (uV (z2p (s.val (keyL 32 [a,b]))))/\Below w.heap.size w w2/\w2.heap[w.heap.size]?=some (.cells (uL (0,0,0,0)) 24 (0,0))):=by
  have hr:=heap_alloc_new (w.alloc (.cells (uL (0,0,0,0)) 24)) (.cells #[.int .i64 a,.int .i64 b] 3);rw[World.size_alloc]at hr
  refine(z5g 32 (by decide) (by decide) _ [a,b] _ (z2u _ _ _ _ hr) (by simp) (fun m hm=>by
   simp only[List.mem_cons,List.not_mem_nil,or_false]at hm
   rcases hm with rfl | rfl<;>assumption)).mono fun e w1 ⟨he,hb1⟩=>⟨he,?_⟩
  have hbb:=z0b (z00 (z00 (Below.refl _ w) _) _) hb1;have hr1:w1.heap[w.heap.size]?=some (.cells (uL (0,0,0,0)) 24 (0,0)):=by
   rw[hb1.block _ (by simp;omega),heap_alloc_old _ _ (by simp)];exact heap_alloc_new w (.cells (uL (0,0,0,0)) 24)
  exact(((h.below hbb).up hbb.size).amount _).mono fun e w2 ⟨he,hb2⟩=>⟨he,z0b hbb hb2,(hb2.block _ (Array.getElem?_eq_some_iff.1 hr1).1).trans hr1⟩
 clear h;generalize z2p (s.val (keyL 32 [a,b]))=y at *
 generalize keyL 32 [a,b]=k at *
 go_enter Tryz.func27,Tryz.ntmps27;go_wp2_with fail;refine zm HC.out ?_;rintro e w1 ⟨rfl,hD⟩;have HD:=zh hD;clear hD HC;go_wp2_with fail;refine zm HD.out ?_;rintro e w3 ⟨rfl,hb3,hrow⟩;have HR:=zh hrow;obtain⟨_,_,_,_,r0,r1,r2,r3⟩:=row4 hrow;clear hrow HD;go_wp2_with fail;refine bodyPost_ret (results_cell_row rfl _ _ w.heap.size 24 (uL y) (0,0) _ rfl (put4 HR.out y) Tryz.underlying24 rfl (by kernel_rfl)) rfl ?_;exact⟨rfl,z0f hb3 (by omega) _ _ _ _⟩
def zb0(l:List Nat)(y:W4):Nat × W4 × Nat:=match l with
 | [a,b]=>(a,y,b)
 | _=>(0,(0,0,0,0),0)
def pend(s:St)(x:I4):Nat × W4 × Nat:=zb0 (rowOf (s.val (aKey 30 x))) (z2p (s.val (aKey 31 x)))
def rcEq(vs:Nat->Value)(cs:List Value):List Nat->Prop
 | []=>True
 | j::l=>vs j=cs.getD j undef/\rcEq vs cs l
theorem zpv{vs:Nat->Value}{cs:List Value}:∀ {l:List Nat},(∀ j∈l,vs j=cs.getD j undef)->rcEq vs cs l
 | [],_=>trivial
 | j::_,h=>⟨h j (by simp),zpv fun i hi=>h i (by simp[hi])⟩
def zg0(P:Program)(ops:Array Oper)(pr:List (List Nat))(cs:List Value)(so:List Nat)(Ph:Nat->World->Prop)(fr:(Nat->Value)->Act):Nat->List Oper->Prop
 | _,[]=>True
 | k,o::l=>(∀ vs p w,rcEq vs cs (pr.getD k [])->Ph p w->(∀ q,so[q]?=some k->p=q)->rgDo P ops o (fr vs) w fun v w'=>v=cs.getD k undef/\Ph (bif so.contains k then p+1 else p) w')/\zg0 P ops pr cs so Ph fr (k+1) l
theorem zep{P:Program}{ops:Array Oper}{pr:List (List Nat)}{cs:List Value}{so:List Nat}{Ph:Nat->World->Prop}{fr:(Nat->Value)->Act}:∀ {l:List Oper} {k:Nat},zg0 P ops pr cs so Ph fr k l->∀ (i:Nat) (o:Oper),l[i]?=some o ->
  ∀ vs p w,rcEq vs cs (pr.getD (k+i) [])->Ph p w->(∀ q,so[q]?=some (k+i)->p=q)->rgDo P ops o (fr vs) w fun v w'=>v=cs.getD (k+i) undef/\Ph (bif so.contains (k+i)then p+1 else p) w'
 | [],_,_,i,o,h=>by simp at h
 | x::l,k,h,0,o,ho=>by
  simp only[List.getElem?_cons_zero,Option.some.injEq]at ho
  subst ho;exact h.1
 | x::l,k,h,i+1,o,ho=>by
  have:=zep h.2 i o (by simpa using ho)
  rwa [show k+1+i=k+(i+1)by omega]at this
def rcB(so:List Nat)(pr:List (List Nat))(n:Nat):Bool:=(List.range so.length).all fun q=>decide (so.getD q 0<n)&&(List.range q).all fun q'=>(pr.getD (so.getD q 0) []).contains (so.getD q' 0)&&(so.getD q' 0 != so.getD q 0)
theorem zh5{so:List Nat}{pr:List (List Nat)}{n:Nat}(h:rcB so pr n=true){q k:Nat}(hq:so[q]?=some k):k<n/\∀ q' k',q'<q->so[q']?=some k'->k'∈pr.getD k []/\k'≠k:=by
 have hl:q<so.length:=(List.getElem?_eq_some_iff.1 hq).1;have h1:=List.all_eq_true.1 h q (List.mem_range.2 hl);rw[Bool.and_eq_true,decide_eq_true_eq]at h1;have e:so.getD q 0=k:=by rw[List.getD_eq_getElem?_getD,hq];rfl
 rw[e]at h1;refine⟨h1.1,fun q' k' hlt hq' => ?_⟩;have h2:=List.all_eq_true.1 h1.2 q' (List.mem_range.2 hlt);have e':so.getD q' 0=k':=by rw[List.getD_eq_getElem?_getD,hq'];rfl
 rw[e',Bool.and_eq_true]at h2;exact⟨by simpa using h2.1,by simpa using h2.2⟩
theorem zbw(l:List Oper):∀ (k:Nat) (vs vs':Nat->Value) (t:Array Value),(∀ j,j<l.length->vs (k+j)=vs' (k+j))->z1a l k vs t=z1a l k vs' t:=by
 induction l with
 | nil=>intro k vs vs' t _;rfl
 | cons o l ih =>
  intro k vs vs' t h;have h0:vs k=vs' k:=h 0 (by simp);simp only[z1a,h0];exact ih (k+1) vs vs' _ fun j hj=>by
   have:=h (j+1) (by simpa using hj)
   rwa [show k+(j+1)=k+1+j by omega]at this
theorem z0m{P:Program}{ops:Array Oper}{o:Oper}{a:Act}{w:World}{K:Value->World->Prop}{c:Call}{f:FuncId}{args:List Value}{v:Value}{R:World->Prop}(hg:Region.wanted o (yielded ops a.tmps)=true)(ho:o.op= .call c)(hc:c.callee= .value (.func f))(hf:rgFn P f=true)(ha:c.args.toList.map a.eval=args)
  (hk:Calls P f args.toArray w fun e w'=>e= .returned v/\R w') (hK:∀ w',R w'->K v w'):rgDo P ops o a w K:=z4w hg ho hc hf ha (hk.mono fun _ w' ⟨h1,h2⟩=>⟨_,h1,hK w' h2⟩)
theorem rgL1{a b:Value}(h:a=b):[a] = [b]:=by rw[h]
theorem rgL2{a b c d:Value}(h:a=b)(h2:c=d):[a,c] = [b,d]:=by rw[h,h2]
theorem rgL3{a b c d x y:Value}(h:a=b)(h2:c=d)(h3:x=y):[a,c,x] = [b,d,y]:=by rw[h,h2,h3]
theorem rgL5{a b c d x y u v p q:Value}(h:a=b)(h2:c=d)(h3:x=y)(h4:u=v)(h5:p=q):[a,c,x,u,p] = [b,d,y,v,q]:=by rw[h,h2,h3,h4,h5]
theorem zc6{P:Program}{id:Nat}{Q:Exit->Act->World->Prop}{a:Act}{w:World}{l:List Oper}(pr:List (List Nat))(cs:List Value)(so:List Nat)(Ph:Nat->World->Prop)(fr:(Nat->Value)->Act)
  (hm:P.follows .mixedOrders=true) (hB:rgB l.toArray pr a.tmps.size=true) (hso:rcB so pr l.length=true) (hfr:∀ vs,z14 l a vs=fr vs)
  (h0:Ph 0 w.drew)
  (hs:zg0 P l.toArray pr cs so Ph fr 0 l)
  (hend:∀ w,Ph so.length w->Q .normal (fr fun j=>cs.getD j undef) w):(Code.region id l.toArray true).wp P Q a w:=by
 refine wp_region_any hm ?_;have hok:=zl2 hB;have hsz:l.toArray.size=l.length:=by simp
 refine z7w hok (fun L vs w=>(∀ j,L j=true->vs j=cs.getD j undef)/\∃ p,Ph p w/\p<=so.length/\∀ q k,so[q]?=some k->(L k=true↔q<p)) ?_ ?_ l.toArray.size (Array.replicate l.toArray.size false) (fun _=>undef) a w.drew ?_ ?_ ?_
 ·intro i o ho L vs w hI hpre hLi hpost;obtain⟨hv,p,hP,hple,hp⟩:=hI;have hil:i<l.length:=by rw[<- hsz];exact(Array.getElem?_eq_some_iff.1 ho).1
  have hi:=zep hs i o (by simpa using ho);rw[Nat.zero_add]at hi;have hkey:∀ q,so[q]?=some i->p=q:=fun q hq=>by
   have h1:¬ q<p:=fun h=>by have:=(hp q i hq).2 h;rw[hLi]at this;cases this
   refine Nat.le_antisymm (Nat.le_of_not_lt h1) (Nat.le_of_not_lt fun h2 => ?_);have hql:q<so.length:=(List.getElem?_eq_some_iff.1 hq).1;have hk:so[p]?=some so[p]:=List.getElem?_eq_getElem (by omega);have h3:=((zh5 hso hq).2 p _ h2 hk).1;exact Nat.lt_irrefl p ((hp p _ hk).1 (hpre _ h3))
  rw[show z14 l.toArray.toList a vs=z14 l a vs from rfl,hfr vs]
  refine zdi (fun v w' he=>⟨fun j hj => ?_,?_⟩) (hi vs p w (zpv fun j hj=>hv j (hpre j hj)) hP hkey)
  ·by_cases hji:j=i
   ·subst hji;rw[<- he.1];simp[z5j]
   ·have:(if j=i then true else L j)=true:=hj;rw[if_neg hji]at this;rw[<- hv j this];simp[z5j,hji]
  ·have hw:=he.2;cases hc:so.contains i with
   | false =>
    rw[hc]at hw;refine⟨p,hw,hple,fun q k hq => ?_⟩;have hki:k≠i:=fun e=>by
     have:so.contains k=true:=by simpa using List.mem_of_getElem? hq
     rw[e,hc]at this;cases this
    show(if k=i then true else L k)=true↔_
    rw[if_neg hki];exact hp q k hq
   | true =>
    rw[hc]at hw;obtain⟨q,hq⟩:=List.mem_iff_getElem?.1 (by simpa using hc:i∈so);have hpq:=hkey q hq;have hql:q<so.length:=(List.getElem?_eq_some_iff.1 hq).1;refine⟨p+1,hw,by omega,fun q' k hq' => ?_⟩;show(if k=i then true else L k)=true↔_
    rcases Nat.lt_trichotomy q' q with h | h | h
    ·have h1:=(zh5 hso hq).2 q' k h hq';rw[if_neg h1.2,hp q' k hq'];omega
    ·subst h;rw[hq]at hq';cases hq';rw[if_pos rfl];constructor
     ·intro _;omega
     ·intro _;rfl
    ·have h1:=(zh5 hso hq').2 q i h hq;have hkl:=(zh5 hso hq').1;have h2:=hpost k _ (by simp[hkl]:l.toArray[k]?=some l[k]) h1.1;rw[if_neg (Ne.symm h1.2),h2];constructor
     ·intro h;cases h
     ·intro h;omega
 ·intro L vs w hI hall;obtain⟨hv,p,hP,hple,hp⟩:=hI;have hpl:p=so.length:=by
   refine Nat.le_antisymm hple (Nat.le_of_not_lt fun h => ?_);have hk:so[p]?=some so[p]:=List.getElem?_eq_getElem h;have:=(hp p _ hk).1 (hall _ (by rw[hsz];exact(zh5 hso hk).1));exact Nat.lt_irrefl _ this
  subst hpl;have e:z14 l.toArray.toList a vs=fr fun j=>cs.getD j undef:=by
   rw[<- hfr];show({ a with tmps:=_ }:Act) = { a with tmps:=_ }
   congr 1;exact zbw l 0 _ _ _ fun j hj=>by rw[Nat.zero_add];exact hv j (hall j (by rw[hsz];exact hj))
  rw[e];exact hend w hP
 ·refine⟨rfl,rfl,fun t ht => ?_,by simp,fun j oj _ hl => ?_⟩
  ·refine(z6t _ _ _ _ _ fun j o hj hd => ?_).symm;have:=ht j o (by simpa using hj) hd;rw[getD_replicate_false]at this;cases this
  ·rw[getD_replicate_false]at hl;cases hl
 ·refine Nat.le_trans (List.length_filter_le _ _) (by simp)
 ·refine⟨fun j hj => ?_,0,h0,Nat.zero_le _,fun q k _ => ?_⟩
  ·have:(Array.replicate l.toArray.size false).getD j false=true:=hj;rw[getD_replicate_false]at this;cases this
  ·constructor
   ·intro h;have:(Array.replicate l.toArray.size false).getD k false=true:=h;rw[getD_replicate_false]at this;cases this
   ·intro h;omega
theorem z06{P:Program}{id:Nat}{Q:Exit->Act->World->Prop}{a:Act}{w:World}{l:List Oper}(pr:List (List Nat))(cs:List Value)(so:List Nat)(Ph:Nat->World->Prop)(fr:(Nat->Value)->Act){frc:Act}
  (hm:P.follows .mixedOrders=true) (hB:rgB l.toArray pr a.tmps.size=true) (hso:rcB so pr l.length=true) (hfr:∀ vs,z14 l a vs=fr vs) (hfc:(fr fun j=>cs.getD j undef)=frc)
  (h0:Ph 0 w.drew)
  (hs:zg0 P l.toArray pr cs so Ph fr 0 l)
  (hend:∀ w,Ph so.length w->Q .normal frc w):(Code.region id l.toArray true).wp P Q a w:=
 zc6 pr cs so Ph fr hm hB hso hfr h0 hs fun w h=>by rw[hfc];exact hend w h
end Go.Proofs.YtnkilceibkkjlaaGreat
