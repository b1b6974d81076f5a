/- What is proved here: a drawn region with phases of the world, whose operations' values are known ahea -/
import Derived.Test.YtnkilceibkkjlaaGreatGHistW
import Derived.Test.YtnkilceibkkjlaaGreatGExActA
import Derived.Test.YtnkilceibkkjlaaGreatGRow
import Derived.Test.YtnkilceibkkjlaaGreatGNum
import Derived.ChangeSlices
import Derived.Test.YtnkilceibkkjlaaGreatGRNum
import Derived.Test.YtnkilceibkkjlaaGreatGBase
import Derived.Test.YtnkilceibkkjlaaGreatGExA
import Derived.OpenShut
import Derived.Test.YtnkilceibkkjlaaGreatGExEqB
set_option maxRecDepth 100000
set_option maxHeartbeats 16000000
namespace Go.Proofs.YtnkilceibkkjlaaGreat
open Go.RowKit
def rdEq(x y:Nat)(vs:Nat->Value)(cs:List Value):List Nat->Prop
 | []=>True
 | j::l=>(bif j==x||j==y then True else vs j=cs.getD j undef)/\rdEq x y vs cs l
theorem zqh{x y:Nat}{vs:Nat->Value}{cs:List Value}:∀ {l:List Nat},(∀ j∈l,bif j==x||j==y then True else vs j=cs.getD j undef)->rdEq x y vs cs l
 | [],_=>trivial
 | j::_,h=>⟨h j (by simp),zqh fun i hi=>h i (by simp[hi])⟩
def ziw(P:Program)(ops:Array Oper)(pr:List (List Nat))(cs:List Value)(so:List Nat)(x y:Nat)(Ph:Nat->Value->Value->World->Prop)(fr:(Nat->Value)->Act):Nat->List Oper->Prop
 | _,[]=>True
 | k,o::l=>(∀ vs p w,rdEq x y vs cs (pr.getD k [])->Ph p (vs x) (vs y) w->(∀ q,so[q]?=some k->p=q)->rgDo P ops o (fr vs) w fun v w'=>(bif k==x||k==y then True else v=cs.getD k undef)/\Ph (bif so.contains k then p+1 else p) (z1h vs k v x) (z1h vs k v y) w')/\ziw P ops pr cs so x y Ph fr (k+1) l
theorem ze0{P:Program}{ops:Array Oper}{pr:List (List Nat)}{cs:List Value}{so:List Nat}{x y:Nat}{Ph:Nat->Value->Value->World->Prop}{fr:(Nat->Value)->Act}:∀ {l:List Oper} {k:Nat},ziw P ops pr cs so x y Ph fr k l->∀ (i:Nat) (o:Oper),l[i]?=some o ->
  ∀ vs p w,rdEq x y vs cs (pr.getD (k+i) [])->Ph p (vs x) (vs y) w->(∀ q,so[q]?=some (k+i)->p=q)->rgDo P ops o (fr vs) w fun v w'=>(bif k+i==x||k+i==y then True else v=cs.getD (k+i) undef)/\Ph (bif so.contains (k+i)then p+1 else p) (z1h vs (k+i) v x) (z1h vs (k+i) v y) w'
 | [],_,_,i,o,h=>by simp at h
 | x::l,k,h,0,o,ho=>by
  simp only[List.getElem?_cons_zero,Option.some.injEq]at ho
  subst ho;exact h.1
 | x::l,k,h,i+1,o,ho=>by
  have:=ze0 h.2 i o (by simpa using ho)
  rwa [show k+1+i=k+(i+1)by omega]at this
theorem zfs{P:Program}{id:Nat}{Q:Exit->Act->World->Prop}{a:Act}{w:World}{l:List Oper}(pr:List (List Nat))(cs:List Value)(so:List Nat)(x y:Nat)(Ph:Nat->Value->Value->World->Prop)(fr:(Nat->Value)->Act){frc:Value->Value->Act}
  (hm:P.follows .mixedOrders=true) (hB:rgB l.toArray pr a.tmps.size=true) (hso:rcB so pr l.length=true) (hfr:∀ vs,z14 l a vs=fr vs) (hfc:∀ u v:Value,fr (fun j=>if j=x then u else if j=y then v else cs.getD j undef)=frc u v)
  (h0:Ph 0 undef undef w.drew)
  (hs:ziw P l.toArray pr cs so x y Ph fr 0 l)
  (hend:∀ u v w,Ph so.length u v w->Q .normal (frc u v) w):(Code.region id l.toArray true).wp P Q a w:=by
 refine wp_region_any hm ?_;have hok:=zi3 hB;have hsz:l.toArray.size=l.length:=by simp
 refine z6c hok (fun L vs w=>(∀ j,L j=true->bif j==x||j==y then True else vs j=cs.getD j undef)/\∃ p,Ph p (vs x) (vs y) w/\p<=so.length/\∀ q k,so[q]?=some k->(L k=true↔q<p)) ?_ ?_ l.toArray.size (Array.replicate l.toArray.size false) (fun _=>undef) a w.drew ?_ ?_ ?_
 ·intro i o ho L vs w hI hpre hLi hpost;obtain⟨hv,p,hP,hple,hp⟩:=hI;have hil:i<l.length:=by rw[<- hsz];exact(Array.getElem?_eq_some_iff.1 ho).1
  have hi:=ze0 hs i o (by simpa using ho);rw[Nat.zero_add]at hi;have hkey:∀ q,so[q]?=some i->p=q:=fun q hq=>by
   have h1:¬ q<p:=fun h=>by have:=(hp q i hq).2 h;rw[hLi]at this;cases this
   refine Nat.le_antisymm (Nat.le_of_not_lt h1) (Nat.le_of_not_lt fun h2 => ?_);have hql:q<so.length:=(List.getElem?_eq_some_iff.1 hq).1;have hk:so[p]?=some so[p]:=List.getElem?_eq_getElem (by omega);have h3:=((z8s hso hq).2 p _ h2 hk).1;exact Nat.lt_irrefl p ((hp p _ hk).1 (hpre _ h3))
  rw[show z14 l.toArray.toList a vs=z14 l a vs from rfl,hfr vs]
  refine z3t (fun v w' he=>⟨fun j hj => ?_,?_⟩) (hi vs p w (zqh fun j hj=>hv j (hpre j hj)) hP hkey)
  ·by_cases hji:j=i
   ·subst hji;have:=he.1
    simpa [z1h]using this
   ·have:(if j=i then true else L j)=true:=hj;rw[if_neg hji]at this;have h2:=hv j this
    simpa [z1h,hji]using h2
  ·have hw:=he.2;cases hc:so.contains i with
   | false =>
    rw[hc]at hw;refine⟨p,hw,hple,fun q k hq => ?_⟩;have hki:k≠i:=fun e=>by
     have:so.contains k=true:=by simpa using List.mem_of_getElem? hq
     rw[e,hc]at this;cases this
    show(if k=i then true else L k)=true↔_
    rw[if_neg hki];exact hp q k hq
   | true =>
    rw[hc]at hw;obtain⟨q,hq⟩:=List.mem_iff_getElem?.1 (by simpa using hc:i∈so);have hpq:=hkey q hq;have hql:q<so.length:=(List.getElem?_eq_some_iff.1 hq).1;refine⟨p+1,hw,by omega,fun q' k hq' => ?_⟩;show(if k=i then true else L k)=true↔_
    rcases Nat.lt_trichotomy q' q with h | h | h
    ·have h1:=(z8s hso hq).2 q' k h hq';rw[if_neg h1.2,hp q' k hq'];omega
    ·subst h;rw[hq]at hq';cases hq';rw[if_pos rfl];constructor
     ·intro _;omega
     ·intro _;rfl
    ·have h1:=(z8s hso hq').2 q i h hq;have hkl:=(z8s hso hq').1;have h2:=hpost k _ (by simp[hkl]:l.toArray[k]?=some l[k]) h1.1;rw[if_neg (Ne.symm h1.2),h2];constructor
     ·intro h;cases h
     ·intro h;omega
 ·intro L vs w hI hall;obtain⟨hv,p,hP,hple,hp⟩:=hI;have hpl:p=so.length:=by
   refine Nat.le_antisymm hple (Nat.le_of_not_lt fun h => ?_);have hk:so[p]?=some so[p]:=List.getElem?_eq_getElem h;have:=(hp p _ hk).1 (hall _ (by rw[hsz];exact(z8s hso hk).1));exact Nat.lt_irrefl _ this
  subst hpl;have e:z14 l.toArray.toList a vs=frc (vs x) (vs y):=by
   rw[<- hfc,<- hfr];show({ a with tmps:=_ }:Act) = { a with tmps:=_ }
   congr 1;refine zcy l 0 _ _ _ fun j hj => ?_
   rw[Nat.zero_add];have h1:=hv j (hall j (by rw[hsz];exact hj))
   by_cases hx:j=x
   ·rw[if_pos hx,hx]
   ·rw[if_neg hx]
    by_cases hy:j=y
    ·rw[if_pos hy,hy]
    ·rw[if_neg hy]
     simpa [hx,hy]using h1
  rw[e];exact hend _ _ w hP
 ·refine⟨rfl,rfl,fun t ht => ?_,by simp,fun j oj _ hl => ?_⟩
  ·refine(z5t _ _ _ _ _ fun j o hj hd => ?_).symm;have:=ht j o (by simpa using hj) hd;rw[getD_replicate_false]at this;cases this
  ·rw[getD_replicate_false]at hl;cases hl
 ·refine Nat.le_trans (List.length_filter_le _ _) (by simp)
 ·refine⟨fun j hj => ?_,0,h0,Nat.zero_le _,fun q k _ => ?_⟩
  ·have:(Array.replicate l.toArray.size false).getD j false=true:=hj;rw[getD_replicate_false]at this;cases this
  ·constructor
   ·intro h;have:(Array.replicate l.toArray.size false).getD k false=true:=h;rw[getD_replicate_false]at this;cases this
   ·intro h;omega
end Go.Proofs.YtnkilceibkkjlaaGreat
namespace Go.Proofs.YtnkilceibkkjlaaGreat
open Go.RowKit
abbrev actX(A:XAct):Obj:=.cells A.L 88
def XTwo(w:World)(q:Option Addr)(b k:Nat)(wr:World):Prop:=
 ∃ (K:List Nat) (s t:St),z7v q true b t wr K s/\(∀ j∈K,w.heap.size<=j)/\Below w.heap.size w wr/\s.Fit (16*k)/\t.Fit (16*k)/\s.ents=t.ents/\XG (2*k) s
theorem XTwo.below{w wr:World}{q:Option Addr}{b k:Nat}(h:XTwo w q b k wr):Below w.heap.size w wr:=by
 obtain⟨_,_,_,_,_,h,_⟩:=h;exact h
def XIn(w wr:World)(q:Option Addr)(b k:Nat)(s t:St)(rs:List (Nat × Obj))(W:World):Prop:=∃ K,(∀ j∈K,w.heap.size<=j)/\Below w.heap.size w wr/\PV ⟨q,true,[]⟩ b t wr K s rs W/\s.Fit (16*(k+1))/\t.Fit (16*(k+1))/\s.ents=t.ents/\XG (2*(k+1)) s
theorem XIn.row{w wr:World}{q:Option Addr}{b k:Nat}{s t:St}{rs:List (Nat × Obj)}{W:World}(h:XIn w wr q b k s t rs W){g:Nat}{o:Obj}(hm:(g,o)∈rs):W.heap[g]?=some (o):=by
 obtain⟨_,_,_,h,_⟩:=h;exact h.row hm
theorem XIn.below{w wr:World}{q:Option Addr}{b k:Nat}{s t:St}{rs:List (Nat × Obj)}{W W':World}(h:XIn w wr q b k s t rs W)(hb:Below W.heap.size W W'):XIn w wr q b k s t rs W':=by
 obtain⟨K,a,b,h,c⟩:=h;exact⟨K,a,b,h.below hb,c⟩
theorem XIn.alloc{w wr:World}{q:Option Addr}{b k:Nat}{s t:St}{rs:List (Nat × Obj)}{W:World}(h:XIn w wr q b k s t rs W)(o:Obj):XIn w wr q b k s t ((W.heap.size,o)::rs) (W.alloc o):=by
 obtain⟨K,a,b,h,c⟩:=h;exact⟨K,a,b,h.alloc o,c⟩
theorem XIn.drew{w wr:World}{q:Option Addr}{b k:Nat}{s t:St}{rs:List (Nat × Obj)}{W:World}(h:XIn w wr q b k s t rs W):XIn w wr q b k s t rs W.drew:=h.below (z0g (Below.refl _ W))
theorem XIn.two{w wr:World}{q:Option Addr}{b k:Nat}{s t:St}{rs:List (Nat × Obj)}{W:World}(h:XIn w wr q b k s t rs W):XTwo w q b (k+1) W:=by
 obtain⟨K,hK,hbw,hP,f1,g1,he,hg⟩:=h;obtain⟨K',hK',st⟩:=QV.done hP
 obtain⟨hb',hKK⟩:=zit hbw hK st;exact⟨K',s,t,hK',hKK,hb',f1,g1,he,hg⟩
theorem XIn.get{w wr:World}{q:Option Addr}{b k:Nat}{s t:St}{rs:List (Nat × Obj)}{W:World}(h:XIn w wr q b k s t rs W)(hk:k<1000){id:Int}(hid:I63 id) :
  Calls Tryz.prog 44 #[.pointer q,.int .i64 id] W (fun e W'=>e= .returned (.tuple #[.agg (s.ex id).L,.bool (s.exIs id)])/\XIn w wr q b k s t rs W') /\
  Calls Tryz.prog 53 #[.pointer (some ⟨b,0,none⟩),.int .i64 id] W (fun e W'=>e= .returned (.tuple #[.agg (s.ex id).L,.bool (s.exIs id)])/\XIn w wr q b k s t rs W'):=by
 obtain⟨K,hK,hbw,hP,f1,g1,he,hg⟩:=h;refine⟨(hP.zrq (args:=#[.pointer q,.int .i64 id]) fun L hq=>zru W ⟨q,true,L⟩ s _ id hid hq f1 (by omega)).mono fun e W' ⟨h1,h2⟩=>⟨h1,K,hK,hbw,h2,f1,g1,he,hg⟩,?_⟩;refine(hP.zpd (args:=#[.pointer (some ⟨b,0,none⟩),.int .i64 id]) fun M hq=>zj7 W b t M _ id hid hq g1 (by omega)).mono fun e W' ⟨h1,h2⟩=>⟨?_,K,hK,hbw,h2,f1,g1,he,hg⟩
 rw[h1,z7z he,zeg he]
theorem XIn.pays{w wr:World}{q:Option Addr}{b k:Nat}{s t:St}{rs:List (Nat × Obj)}{W:World}(h:XIn w wr q b k s t rs W){x:Ex}(hx:x.Ok){m:W4}(hm:m.Ok) :
  Calls Tryz.prog 13 #[.agg x.L,uV m] W (fun e W'=>e= .returned (uV (z5i x m))/\XIn w wr q b k s t rs W') /\
  Calls Tryz.prog 54 #[.agg x.L,uV m] W (fun e W'=>e= .returned (uV (z5i x m))/\XIn w wr q b k s t rs W'):=
 ⟨(zfl x m hx.wo hx.mx hm W).mono fun _ _ ⟨h1,h2⟩=>⟨h1,h.below h2⟩,(zed x m hx.wo hx.mx hm W).mono fun _ _ ⟨h1,h2⟩=>⟨h1,h.below h2⟩⟩
theorem zmz(A:XAct)(g:Nat):(∀ W:World,W.heap[g]?=some (actX A)->W.cell? ⟨g,0,none⟩=some (.int .i64 A.kd))/\(∀ W:World,W.heap[g]?=some (actX A)->W.cell? ⟨g,1,none⟩=some (.int .i64 A.id))/\(∀ W:World,W.heap[g]?=some (actX A)->W.cell? ⟨g,2,none⟩=some (.int .i64 A.dl))/\(∀ W:World,W.heap[g]?=some (actX A)->W.cell? ⟨g,3,none⟩=some (.int .i64 A.x.st))/\(∀ W:World,W.heap[g]?=some (actX A)->W.cell? ⟨g,4,none⟩=some (.int .i64 A.x.op))/\(∀ W:World,W.heap[g]?=some (actX A)->W.cell? ⟨g,5,none⟩=some (.int .i64 A.x.sg))/\(∀ W:World,W.heap[g]?=some (actX A)->W.cell? ⟨g,6,none⟩=some (.int .i64 A.x.bl))/\(∀ W:World,W.heap[g]?=some (actX A)->W.cell? ⟨g,7,none⟩=some (.int .u64 A.x.wo.1))/\(∀ W:World,W.heap[g]?=some (actX A)->W.cell? ⟨g,8,none⟩=some (.int .u64 A.x.wo.2.1))/\(∀ W:World,W.heap[g]?=some (actX A)->W.cell? ⟨g,9,none⟩=some (.int .u64 A.x.wo.2.2.1))/\(∀ W:World,W.heap[g]?=some (actX A)->W.cell? ⟨g,10,none⟩=some (.int .u64 A.x.wo.2.2.2))/\(∀ W:World,W.heap[g]?=some (actX A)->W.cell? ⟨g,11,none⟩=some (.int .u64 A.x.mx.1))/\(∀ W:World,W.heap[g]?=some (actX A)->W.cell? ⟨g,12,none⟩=some (.int .u64 A.x.mx.2.1))/\(∀ W:World,W.heap[g]?=some (actX A)->W.cell? ⟨g,13,none⟩=some (.int .u64 A.x.mx.2.2.1))/\(∀ W:World,W.heap[g]?=some (actX A)->W.cell? ⟨g,14,none⟩=some (.int .u64 A.x.mx.2.2.2))/\(∀ W:World,W.heap[g]?=some (actX A)->W.cell? ⟨g,15,none⟩=some (.int .u64 A.m.1))/\(∀ W:World,W.heap[g]?=some (actX A)->W.cell? ⟨g,16,none⟩=some (.int .u64 A.m.2.1))/\(∀ W:World,W.heap[g]?=some (actX A)->W.cell? ⟨g,17,none⟩=some (.int .u64 A.m.2.2.1))/\(∀ W:World,W.heap[g]?=some (actX A)->W.cell? ⟨g,18,none⟩=some (.int .u64 A.m.2.2.2))/\(∀ W:World,W.heap[g]?=some (actX A)->W.cell? ⟨g,19,none⟩=some (.int .u64 A.n.1))/\(∀ W:World,W.heap[g]?=some (actX A)->W.cell? ⟨g,20,none⟩=some (.int .u64 A.n.2.1))/\(∀ W:World,W.heap[g]?=some (actX A)->W.cell? ⟨g,21,none⟩=some (.int .u64 A.n.2.2.1))/\(∀ W:World,W.heap[g]?=some (actX A)->W.cell? ⟨g,22,none⟩=some (.int .u64 A.n.2.2.2)):=by
 refine⟨?_,?_,?_,?_,?_,?_,?_,?_,?_,?_,?_,?_,?_,?_,?_,?_,?_,?_,?_,?_,?_,?_,?_⟩<;>exact fun W h=>zb6 h _ _ rfl
theorem zo2{ops:Array Oper}{o:Oper}{a:Act}{w:World}{K:Value->World->Prop}{x:Operand}{g:Nat}(hg:Region.wanted o (yielded ops a.tmps)=true)(ho:o.op= .fieldAddr 88 x 2)(hx:a.eval x= .pointer (some ⟨g,0,none⟩))(hk:K (.pointer (some ⟨g,2,none⟩)) w):rgDo Tryz.prog ops o a w K:=by
 refine z0j hg ?_ hk;clear hg hk;generalize a.eval=ev at hx ⊢;unfold execOp;simp only[ho]
 go_simp
theorem z5z{ops:Array Oper}{o:Oper}{a:Act}{w:World}{K:Value->World->Prop}{x:Operand}{g:Nat}(hg:Region.wanted o (yielded ops a.tmps)=true)(ho:o.op= .fieldAddr 88 x 3)(hx:a.eval x= .pointer (some ⟨g,0,none⟩))(hk:K (.pointer (some ⟨g,3,none⟩)) w):rgDo Tryz.prog ops o a w K:=by
 refine z0j hg ?_ hk;clear hg hk;generalize a.eval=ev at hx ⊢;unfold execOp;simp only[ho]
 go_simp
theorem zq1{ops:Array Oper}{o:Oper}{a:Act}{w:World}{K:Value->World->Prop}{x:Operand}{g:Nat}(hg:Region.wanted o (yielded ops a.tmps)=true)(ho:o.op= .fieldAddr 26 x 0)(hx:a.eval x= .pointer (some ⟨g,3,none⟩))(hk:K (.pointer (some ⟨g,3,none⟩)) w):rgDo Tryz.prog ops o a w K:=by
 refine z0j hg ?_ hk;clear hg hk;generalize a.eval=ev at hx ⊢;unfold execOp;simp only[ho]
 go_simp
theorem zqa{ops:Array Oper}{o:Oper}{a:Act}{w:World}{K:Value->World->Prop}{x:Operand}{g:Nat}(hg:Region.wanted o (yielded ops a.tmps)=true)(ho:o.op= .fieldAddr 26 x 1)(hx:a.eval x= .pointer (some ⟨g,3,none⟩))(hk:K (.pointer (some ⟨g,4,none⟩)) w):rgDo Tryz.prog ops o a w K:=by
 refine z0j hg ?_ hk;clear hg hk;generalize a.eval=ev at hx ⊢;unfold execOp;simp only[ho]
 go_simp
theorem zf1{ops:Array Oper}{o:Oper}{a:Act}{w:World}{K:Value->World->Prop}{x:Operand}{g:Nat}(hg:Region.wanted o (yielded ops a.tmps)=true)(ho:o.op= .fieldAddr 26 x 2)(hx:a.eval x= .pointer (some ⟨g,3,none⟩))(hk:K (.pointer (some ⟨g,5,none⟩)) w):rgDo Tryz.prog ops o a w K:=by
 refine z0j hg ?_ hk;clear hg hk;generalize a.eval=ev at hx ⊢;unfold execOp;simp only[ho]
 go_simp
theorem zps{ops:Array Oper}{o:Oper}{a:Act}{w:World}{K:Value->World->Prop}{x:Operand}{g:Nat}(hg:Region.wanted o (yielded ops a.tmps)=true)(ho:o.op= .fieldAddr 26 x 3)(hx:a.eval x= .pointer (some ⟨g,3,none⟩))(hk:K (.pointer (some ⟨g,6,none⟩)) w):rgDo Tryz.prog ops o a w K:=by
 refine z0j hg ?_ hk;clear hg hk;generalize a.eval=ev at hx ⊢;unfold execOp;simp only[ho]
 go_simp
theorem z3f{ops:Array Oper}{o:Oper}{a:Act}{w:World}{K:Value->World->Prop}{x:Operand}{g k:Nat}{n:Int}(hg:Region.wanted o (yielded ops a.tmps)=true)(ho:o.op= .load 3 x)(hx:a.eval x= .pointer (some ⟨g,k,none⟩))(hc:w.cell? ⟨g,k,none⟩=some (.int .i64 n))(hk:K (.int .i64 n) w):rgDo Tryz.prog ops o a w K:=by
 refine z0j hg ?_ hk;clear hg hk;generalize a.eval=ev at hx ⊢;unfold execOp;simp only[ho,hx]
 go_simp
theorem zrg{ops:Array Oper}{o:Oper}{a:Act}{w:World}{K:Value->World->Prop}{x y:Operand}{u:W4}(hg:Region.wanted o (yielded ops a.tmps)=true)(ho:o.op= .binOp .neq 24 x y 24)(hx:a.eval x=uV u)(hy:a.eval y=uV u)(hk:K (.bool false) w):rgDo Tryz.prog ops o a w K:=by
 refine z0j hg ?_ hk;clear hg hk;generalize a.eval=ev at hx hy ⊢;unfold execOp;have:=eqU u u w;rw[decide_eq_true rfl]at this;have hq:Program.eqGuardType Tryz.prog Tryz.prog.depth 24=false:=by kernel_rfl
 simp only[ho,hx,hy]
 go_simp
theorem ztm{ops:Array Oper}{o:Oper}{a:Act}{w:World}{K:Value->World->Prop}{x:Operand}{g:Nat}{A:XAct}(hg:Region.wanted o (yielded ops a.tmps)=true)(ho:o.op= .load 88 x)(hx:a.eval x= .pointer (some ⟨g,0,none⟩))(hr:w.heap[g]?=some (actX A))(hk:K (.agg A.L) w):rgDo Tryz.prog ops o a w K:=
 zik _ hg ho hx hr Tryz.underlying88 rfl (by show _=some 23;kernel_rfl) hk
def XR8(w wr:World)(q:Option Addr)(b k bx:Nat)(A:XAct)(W:World):Prop:=∃ s t,XIn w wr q b k s t [(bx,actX A)] W
def XR7(w wr:World)(q:Option Addr)(b k bx:Nat)(A:XAct)(a6:Option Addr)(r c6:Nat)(a7:Option Addr)(c7:Nat)(W:World):Prop:=Calls Tryz.prog 51 #[.slice a6 r c6,.slice a7 r c7] W fun e W'=>e= .returned (.bool true)/\W'.heap[bx]?=some (actX A)/\XR8 w wr q b k bx A W'
def XR6(w wr:World)(q:Option Addr)(b k bx:Nat)(A:XAct)(a6:Option Addr)(r c6:Nat)(W:World):Prop:=Calls Tryz.prog 52 #[.pointer (some ⟨b,0,none⟩),.int .i64 A.x.st] W fun e W'=>∃ a7 c7,e= .returned (.slice a7 r c7)/\W'.heap[bx]?=some (actX A)/\XR7 w wr q b k bx A a6 r c6 a7 c7 W'
def XR5(w wr:World)(q:Option Addr)(b k bx:Nat)(A:XAct)(W:World):Prop:=Calls Tryz.prog 47 #[.pointer q,.int .i64 A.x.st] W fun e W'=>∃ a6 r c6,e= .returned (.slice a6 r c6)/\W'.heap[bx]?=some (actX A)/\XR6 w wr q b k bx A a6 r c6 W'
def XR4(w wr:World)(q:Option Addr)(b k bx:Nat)(A:XAct)(u2:W4)(W:World):Prop:=Calls Tryz.prog 50 #[.pointer (some ⟨b,0,none⟩),.int .i64 A.x.sg] W fun e W'=>e= .returned (uV u2)/\W'.heap[bx]?=some (actX A)/\XR5 w wr q b k bx A W'
def XR3(w wr:World)(q:Option Addr)(b k bx:Nat)(A:XAct)(u2:W4)(W:World):Prop:=Calls Tryz.prog 45 #[.pointer q,.int .i64 A.x.sg] W fun e W'=>e= .returned (uV u2)/\W'.heap[bx]?=some (actX A)/\XR4 w wr q b k bx A u2 W'
def XR2(w wr:World)(q:Option Addr)(b k bx:Nat)(A:XAct)(u1 u2:W4)(W:World):Prop:=Calls Tryz.prog 49 #[.pointer (some ⟨b,0,none⟩),.int .i64 A.x.op,.int .i64 A.x.sg,.int .i64 A.x.bl,.int .i64 A.dl] W fun e W'=>e= .returned (uV u1)/\W'.heap[bx]?=some (actX A)/\XR3 w wr q b k bx A u2 W'
def XR1(w wr:World)(q:Option Addr)(b k bx:Nat)(A:XAct)(u1 u2:W4)(W:World):Prop:=Calls Tryz.prog 46 #[.pointer q,.int .i64 A.x.op,.int .i64 A.x.sg,.int .i64 A.x.bl,.int .i64 A.dl] W fun e W'=>e= .returned (uV u1)/\W'.heap[bx]?=some (actX A)/\XR2 w wr q b k bx A u1 u2 W'
def zi1(w wr:World)(q:Option Addr)(b k bx:Nat)(A:XAct)(u1 u2:W4)(W:World):Prop:=Calls Tryz.prog 48 #[.pointer q,.pointer (some ⟨b,0,none⟩),.agg A.L] W fun e W'=>e= .returned (.bool true)/\W'.heap[bx]?=some (actX A)/\XR1 w wr q b k bx A u1 u2 W'
def RPh(w wr:World)(q:Option Addr)(b k bx:Nat)(A:XAct)(u1 u2:W4)(v0:World):Nat->Value->Value->World->Prop
 | 0,_,_,W=>W=v0
 | 1,_,_,W=>W.heap[bx]?=some (actX A)/\XR1 w wr q b k bx A u1 u2 W
 | 2,_,_,W=>W.heap[bx]?=some (actX A)/\XR2 w wr q b k bx A u1 u2 W
 | 3,_,_,W=>W.heap[bx]?=some (actX A)/\XR3 w wr q b k bx A u2 W
 | 4,_,_,W=>W.heap[bx]?=some (actX A)/\XR4 w wr q b k bx A u2 W
 | 5,_,_,W=>W.heap[bx]?=some (actX A)/\XR5 w wr q b k bx A W
 | 6,x,_,W=>W.heap[bx]?=some (actX A)/\∃ a6 r c6,x= .slice a6 r c6/\XR6 w wr q b k bx A a6 r c6 W
 | 7,x,y,W=>W.heap[bx]?=some (actX A)/\∃ a6 r c6 a7 c7,x= .slice a6 r c6/\y= .slice a7 r c7/\XR7 w wr q b k bx A a6 r c6 a7 c7 W
 | 8,_,_,W=>W.heap[bx]?=some (actX A)/\XR8 w wr q b k bx A W
 | _,_,_,_=>False
theorem RPh.row{w wr:World}{q:Option Addr}{b k bx:Nat}{A:XAct}{u1 u2:W4}{v0:World}(h0:v0.heap[bx]?=some (actX A)){p:Nat}{x y:Value}{W:World}(h:RPh w wr q b k bx A u1 u2 v0 p x y W):W.heap[bx]?=some (actX A):=by
 match p,h with
 | 0,h=>rw[show W=v0 from h];exact h0
 | 1,h=>exact h.1
 | 2,h=>exact h.1
 | 3,h=>exact h.1
 | 4,h=>exact h.1
 | 5,h=>exact h.1
 | 6,h=>exact h.1
 | 7,h=>exact h.1
 | 8,h=>exact h.1
 | _+9,h=>exact h.elim
theorem RPh.c0{w wr:World}{q:Option Addr}{b k bx:Nat}{A:XAct}{u1 u2:W4}{v0:World}{x y:Value}{W:World}(h0:zi1 w wr q b k bx A u1 u2 v0)(h:RPh w wr q b k bx A u1 u2 v0 0 x y W):zi1 w wr q b k bx A u1 u2 W:=by
 rw[show W=v0 from h];exact h0
theorem zw2{w wr w1:World}{q:Option Addr}{b k bx:Nat}{s t:St}{A:XAct}(h1:XIn w wr q b k s t [(bx,actX A)] w1)(hk:k<1000)(hA:A.Ok):XR1 w wr q b k bx A (s.slash A.x.op A.x.sg A.x.bl A.dl) (s.left A.x.sg) w1:=by
 have c:∀ {W},XIn w wr q b k s t [(bx,actX A)] W->W.heap[bx]?=some (actX A):=fun h=>h.row (by simp)
 obtain⟨K,hK,hbw,hP,f1,g1,he,hg⟩:=h1;have hz:∀ {W},PV ⟨q,true,[]⟩ b t wr K s [(bx,actX A)] W->XIn w wr q b k s t [(bx,actX A)] W:=fun h=>⟨K,hK,hbw,h,f1,g1,he,hg⟩
 have hgm:=hg.congr he;have hn62:s.hlen 16 [A.x.op,A.x.sg]<4611686018427387904:=by have:=hg.hlen' hA.x.op hA.x.sg;omega
 have hn62m:t.hlen 16 [A.x.op,A.x.sg]<4611686018427387904:=by have:=hgm.hlen' hA.x.op hA.x.sg;omega
 have hkeys:∀ x∈s.ents,x.1.size<1000000000000:=fun x hx=>Nat.lt_of_le_of_lt (hg.b.keys x hx) (by decide)
 have hkeysm:∀ x∈t.ents,x.1.size<1000000000000:=fun x hx=>Nat.lt_of_le_of_lt (hgm.b.keys x hx) (by decide)
 refine(hP.zrq (args:=#[.pointer q,.int .i64 A.x.op,.int .i64 A.x.sg,.int .i64 A.x.bl,.int .i64 A.dl]) fun L hq=>zk8 w1 ⟨q,true,L⟩ s _ _ _ _ _ hA.x.op hA.x.sg hA.x.bl hq f1 (by omega) hn62).mono fun e w2 ⟨e2,h2⟩=>⟨e2,c (hz h2),?_⟩
 refine(h2.zpd (args:=#[.pointer (some ⟨b,0,none⟩),.int .i64 A.x.op,.int .i64 A.x.sg,.int .i64 A.x.bl,.int .i64 A.dl]) fun M hq=>zl8 w2 b t M _ _ _ _ _ hA.x.op hA.x.sg hA.x.bl hq g1 (by omega) hn62m).mono fun e w3 ⟨e3,h3⟩=>⟨by rw[e3,zg1 hg he hA.x.op hA.x.sg],c (hz h3),?_⟩
 refine(h3.zrq (args:=#[.pointer q,.int .i64 A.x.sg]) fun L hq=>zih w3 ⟨q,true,L⟩ s _ _ hA.x.sg hq f1 (by omega)).mono fun e w4 ⟨e4,h4⟩=>⟨e4,c (hz h4),?_⟩
 refine(h4.zpd (args:=#[.pointer (some ⟨b,0,none⟩),.int .i64 A.x.sg]) fun M hq=>zke w4 b t M _ _ hA.x.sg hq g1 (by omega)).mono fun e w5 ⟨e5,h5⟩=>⟨by rw[e5,ze1 he],c (hz h5),?_⟩
 obtain⟨L5,_,hq5,_⟩:=PV.two h5;refine(zwt w5 ⟨q,true,L5⟩ s _ A.x.st hq5 f1 (by omega) hkeys).mono fun e w6 ⟨v,e6,ho6,hb6⟩ => ?_
 obtain⟨a6,c6,rfl,hn6⟩:=(zqc ho6).nums;have h6:=h5.below hb6;refine⟨a6,_,c6,e6,c (hz h6),?_⟩;obtain⟨_,M6,_,hr6⟩:=PV.two h6;refine(ztl w6 b M6 t _ A.x.st hr6 g1 (by omega) hkeysm).mono fun e w7 ⟨v,e7,ho7,hb7⟩ => ?_
 rw[<- ziz he,<- zx6 hg]at ho7;obtain⟨a7,c7,rfl,hn7⟩:=ho7.nums;have h7:=h6.below hb7;refine⟨a7,c7,e7,c (hz h7),?_⟩;have hl:(s.ids (z3x A.x.st)).length<1000000000000:=by
  have h1:(s.ids (z3x A.x.st)).length<=s.ents.length:=Nat.le_trans (List.length_filterMap_le _ _) (z3i _ _);have h2:=f1.size;unfold St.size at h2;omega
 refine(zhu w7 a6 a7 c6 c7 _ (hn6.below hb7) hn7 hl).mono fun e w8 ⟨e8,hb8⟩=>⟨e8,c (hz (h7.below hb8)),s,t,hz (h7.below hb8)⟩
theorem zzc{w wr:World}{q:Option Addr}{b k:Nat}(h:XTwo w q b k wr)(hk:k<1000)(A:XAct)(hA:A.Ok){w0:World}(hw0:Below (wr.alloc (actX A)).heap.size (wr.alloc (actX A)) w0):∃ u1 u2,zi1 w wr q b k wr.heap.size A u1 u2 w0:=by
 obtain⟨K,s,t,hPR,hK,hbw,hfs,hft,hee,hg⟩:=h;have hB:PV ⟨q,true,[]⟩ b t wr K s [(wr.heap.size,actX A)] w0:=((QV.start (z5d _ _ _ _) hPR).alloc (actX A)).below hw0;refine⟨((⟨q,true,[]⟩:Hand).z7b s A).slash A.x.op A.x.sg A.x.bl A.dl,((⟨q,true,[]⟩:Hand).z7b s A).left A.x.sg,?_⟩;unfold zi1;have hC:Calls Tryz.prog 48 #[.pointer q,.pointer (some ⟨b,0,none⟩),.agg A.L] w0 fun e W'=>e= .returned (.bool true)/\PV ⟨q,true,[]⟩ b (z7t t A) wr K ((⟨q,true,[]⟩:Hand).z7b s A) [(wr.heap.size,actX A)] W':=
  QV.zzg hB (z5d _ _ _ _) fun K' hK'=>zsc w0 ⟨q,true,[]⟩ b K' s t (16*k) (2*k) A rfl hA hK' hfs hft (by omega) hg hee (by omega)
 refine hC.mono fun e w1 ⟨he,h1⟩ => ?_
 have hX:XIn w wr q b k ((⟨q,true,[]⟩:Hand).z7b s A) (z7t t A) [(wr.heap.size,actX A)] w1:=
  ⟨K,hK,hbw,h1,(Hand.zmr hfs A).mono (by omega),(zjv hft A).mono (by omega),zxo rfl hg hee A hA,(hg.act (by omega) A hA).more (by omega)⟩
 exact⟨he,hX.row (by simp),zw2 hX hk hA⟩
def XEnd(w:World)(q:Option Addr)(b:Nat)(a2:Option Addr)(n c2:Nat)(w0:World):Prop:=
 Calls Tryz.prog 43 #[.pointer q] w0 fun e w1=>∃ a6 r c6,e= .returned (.slice a6 r c6)/\LRow b a2 n c2 w1 /\
 Calls Tryz.prog 55 #[.pointer (some ⟨b,0,none⟩)] w1 fun e w2=>∃ a7 c7,e= .returned (.slice a7 r c7)/\LRow b a2 n c2 w2 /\
 Calls Tryz.prog 51 #[.slice a6 r c6,.slice a7 r c7] w2 fun e w3=>e= .returned (.bool true)/\LRow b a2 n c2 w3 /\
 Calls Tryz.prog 36 #[.pointer q] w3 fun e w4=>∃ a4 c4,e= .returned (.slice a4 n c4)/\LRow b a2 n c2 w4 /\
 Calls Tryz.prog 35 #[.slice a4 n c4,.slice a2 n c2] w4 fun e w5=>e= .returned (.bool true)/\LRow b a2 n c2 w5 /\
 Calls Tryz.prog 12 #[] w5 fun e w6=>e= .returned (.bool true)/\LRow b a2 n c2 w6/\Below w.heap.size w w6
theorem xend{w wr:World}{q:Option Addr}{b k:Nat}(h:XTwo w q b k wr)(hk:k<1000):∃ a2 n c2,LRow b a2 n c2 wr/\XEnd w q b a2 n c2 wr.drew:=by
 obtain⟨K,s,t,⟨L,M,_,_,hQ,hR⟩,hK,hbw,hfs,hft,hee,hg⟩:=h;have hgm:=hg.congr hee;have hkeys:∀ x∈s.ents,x.1.size<1000000000000:=fun x hx=>Nat.lt_of_le_of_lt (hg.b.keys x hx) (by decide)
 have hkeysm:∀ x∈t.ents,x.1.size<1000000000000:=fun x hx=>Nat.lt_of_le_of_lt (hgm.b.keys x hx) (by decide)
 have hQ0:=hQ;have hR0:=hR;rcases hQ with⟨_,b',hq,hS⟩ | ⟨h0,_⟩
 ·obtain⟨lv,pv,hA,_⟩:=hR;obtain⟨a2,c2,rfl,hE⟩:=hA.ents;have hq':q=some ⟨b',0,none⟩:=hq;subst hq';refine⟨a2,_,c2,hE.hd,?_⟩;have hd:Below wr.heap.size wr wr.drew:=⟨rfl,rfl,rfl,Nat.le_refl _,fun _ _=>rfl⟩;have hz:s.size<1000000000000:=by have:=hfs.size;omega
  have hl:s.ents.length<1000000000000:=by unfold St.size at hz;omega
  have cm:∀ {w1 w2:World},LRow b a2 t.ents.length c2 w1->Below w1.heap.size w1 w2->LRow b a2 t.ents.length c2 w2:=fun {w1 w2} h hb=>by
   show w2.cell? _=_
   rw[hb.cell (p:=⟨b,0,none⟩) (World.block_lt_of_cell? w1 _ h)];exact h
  have m0:LRow b a2 t.ents.length c2 wr.drew:=hE.hd;have hp0:z5n wr.drew a2 t.ents:=⟨hE.at0⟩;refine(zys wr.drew ⟨some ⟨b',0,none⟩,true,L⟩ s _ (hQ0.below hd) hfs (by omega) hkeys).mono fun e w1 ⟨v,e1,ho1,hb1⟩ => ?_
  obtain⟨a6,c6,rfl,hn6⟩:=(zqc ho1).nums;have m1:=cm m0 hb1;refine⟨a6,_,c6,e1,m1,?_⟩;refine(zoz w1 b M t _ ((hR0.below hd).below hb1) hft (by omega) hkeysm).mono fun e w2 ⟨v,e2,ho2,hb2⟩ => ?_
  rw[<- zi0 hee]at ho2;obtain⟨a7,c7,rfl,hn7⟩:=ho2.nums;have m2:=cm m1 hb2;refine⟨a7,c7,e2,m2,?_⟩;have hli:(s.ids pAll).length<1000000000000:=Nat.lt_of_le_of_lt (Nat.le_trans (List.length_filterMap_le _ _) (z3i _ _)) hl;refine(zhu w2 a6 a7 c6 c7 _ (hn6.below hb2) hn7 hli).mono fun e w3 ⟨e3,hb3⟩ => ?_
  have m3:=cm m2 hb3;refine⟨e3,m3,?_⟩;have hb03:Below wr.drew.heap.size wr.drew w3:=z0a (z0a hb1 hb2) hb3;refine(zwj w3 b' s L ((hS.below hd).below hb03) hz).mono fun e w4 ⟨v,he,hO⟩ => ?_
  obtain⟨a4,c4,rfl,hp1⟩:=hO.1.pairs;have hb4:Below w3.heap.size w3 w4:=hO.2.2;have hb04:=z0a hb03 hb4
  have hp2:z5n w4 a2 t.ents:=⟨fun k x hk=>by
   obtain⟨g,h3,h4,h5⟩:=hp0.at0 k x hk
   exact⟨g,h3,by rw[hb04.cell (p:=⟨g,k*2,none⟩) (World.block_lt_of_cell? _ _ h4)];exact h4,by rw[hb04.cell (p:=⟨g,k*2+1,none⟩) (World.block_lt_of_cell? _ _ h5)];exact h5⟩⟩
  have m4:=cm m3 hb4;refine⟨a4,c4,by rw[he,hee],m4,?_⟩;rw[<- hee]at hp2;have hs:=zu5 w4 a4 a2 c4 c2 s.ents s.ents hp1 hp2 hl;rw[hee]at hs;refine hs.mono fun e w5 ⟨he,n,hw⟩ => ?_
  subst hw;refine⟨by rw[he];simp,m4,?_⟩;have h5:Below wr.heap.size wr (w4.drewN n):=below_drewN (hd.trans (hb04.mono (Nat.le_refl _))) n;refine(zrl (w4.drewN n)).mono fun e w6 ⟨he,hb6⟩=>⟨he,cm (w1:=w4.drewN n) m4 hb6,z0a (z0a hbw h5) hb6⟩
 ·cases h0
theorem zsp(w:World):Calls Tryz.prog 15 #[] w fun e w2=>∃ q,e= .returned (.pointer q)/\∀ m,m=w2.heap.size->XTwo w q m 0 (w2.alloc (.cells #[.slice none 0 0,.slice none 0 0] 45)):=by
 refine(newB w).mono fun e w2 ⟨b,L,he,hS,hb,hL⟩=>⟨_,he,fun m hm => ?_⟩
 subst hm;have hbA:=z04 (Below.refl w2.heap.size w2) (.cells #[.slice none 0 0,.slice none 0 0] 45);refine⟨L ++ [w2.heap.size],z2p,z2p,⟨L,[w2.heap.size],rfl,fun k hk hm => ?_,.inl ⟨rfl,b,rfl,hS.below hbA⟩,zrh w2⟩,fun j hj => ?_,z0a hb hbA,St.Fit.empty,St.Fit.empty,rfl,XG.empty⟩
 ·rw[List.mem_singleton]at hm;subst hm;exact Nat.lt_irrefl _ (hS.lt _ hk)
 ·rcases List.mem_append.1 hj with h | h
  ·exact hL j h
  ·rw[List.mem_singleton]at h;subst h;exact hb.size
end Go.Proofs.YtnkilceibkkjlaaGreat
namespace Go.Proofs.YtnkilceibkkjlaaGreat
open Go.RowKit Go.ChangeShapes Go.WideShapes Go.ChangeAt
section
variable {H:Type} {enc:TypeId × Value->H} {w:World} {base:Nat} {spare:Nat->Bool} {held:Bool}
theorem zmk{n:Int}(h:(Lit.int .i64 n).wf=true) : -9223372036854775808<=n/\n<9223372036854775808:=by
 have e1:IntKind.i64.min = -9223372036854775808:=rfl;have e2:IntKind.i64.max=9223372036854775807:=rfl;simp only[Lit.wf,Bool.and_eq_true,decide_eq_true_eq,e1,e2]at h;omega
end
end Go.Proofs.YtnkilceibkkjlaaGreat
namespace Go.Proofs.YtnkilceibkkjlaaGreat
open Go.RowKit Go.ChangeShapes Go.WideShapes Go.ChangeAt
section
variable {H:Type} {enc:TypeId × Value->H} {w:World} {base:Nat} {spare:Nat->Bool} {held:Bool}
end
end Go.Proofs.YtnkilceibkkjlaaGreat
namespace Go.Proofs.YtnkilceibkkjlaaGreat
open Go.RowKit Go.ChangeShapes Go.WideShapes Go.ChangeAt
section
variable {H:Type} {enc:TypeId × Value->H} {w:World} {base:Nat} {spare:Nat->Bool} {held:Bool}
theorem zg9{n:Int}(h:(Lit.int .u64 n).wf=true):∃ m:Nat,n=m/\m<18446744073709551616:=by
 have e1:IntKind.u64.min=0:=rfl;have e2:IntKind.u64.max=18446744073709551615:=rfl;simp only[Lit.wf,Bool.and_eq_true,decide_eq_true_eq,e1,e2]at h;exact⟨n.toNat,by omega,by omega⟩
theorem zbh{fuel:Nat}{cs:List Value}{x:DataW H × List MemPlace}(h:DataW.trod enc Tryz.prog w base spare held fuel 24 cs=some x):∃ y:W4,cs=(uL y).toList/\y.Ok:=by
 have hc1:Tryz.prog.cellsOf 22=1:=by kernel_rfl
 have hc4:Tryz.prog.cellsOf 24=4:=by kernel_rfl
 obtain⟨xs,m,_,_,hlen,hxl,hf⟩:=DataW.trod_array Tryz.underlying24 h;rw[hc4]at hlen
 match cs,hlen,xs,hxl with
 | [c0,c1,c2,c3],_,[y0,y1,y2,y3],_ =>
  have h0:=hf 0 (by omega);have h1:=hf 1 (by omega);have h2:=hf 2 (by omega);have h3:=hf 3 (by omega);simp[hc1]at h0 h1 h2 h3;obtain⟨n0,e0,_,s0⟩:=DataW.trod_int Tryz.underlying22 h0;obtain⟨n1,e1,_,s1⟩:=DataW.trod_int Tryz.underlying22 h1;obtain⟨n2,e2,_,s2⟩:=DataW.trod_int Tryz.underlying22 h2;obtain⟨n3,e3,_,s3⟩:=DataW.trod_int Tryz.underlying22 h3;obtain⟨m0,rfl,b0⟩:=zg9 s0;obtain⟨m1,rfl,b1⟩:=zg9 s1;obtain⟨m2,rfl,b2⟩:=zg9 s2;obtain⟨m3,rfl,b3⟩:=zg9 s3;simp only[List.cons.injEq,and_true]at e0 e1 e2 e3;subst e0 e1 e2 e3;exact⟨(m0,m1,m2,m3),rfl,b0,b1,b2,b3⟩
theorem zt4{fuel:Nat}{cs:List Value}{x:DataW H × List MemPlace}(h:DataW.trod enc Tryz.prog w base spare held fuel 26 cs=some x):∃ A:Ex,cs=A.L.toList/\A.Ok:=by
 have hc1:Tryz.prog.cellsOf 3=1:=by kernel_rfl
 have hc4:Tryz.prog.cellsOf 24=4:=by kernel_rfl
 have hc12:Tryz.prog.cellsOf 26=12:=by kernel_rfl
 obtain⟨xs,m,_,_,hlen,hxl,hf⟩:=DataW.trod_struct Tryz.underlying26 h;rw[hc12]at hlen
 match cs,hlen,xs,hxl with
 | [c0,c1,c2,c3,c4,c5,c6,c7,c8,c9,c10,c11],_,[y0,y1,y2,y3,y4,y5],_ =>
  have h0:=hf 0 _ rfl;have h1:=hf 1 _ rfl;have h2:=hf 2 _ rfl;have h3:=hf 3 _ rfl;have h4:=hf 4 _ rfl;have h5:=hf 5 _ rfl;simp[hc1,hc4]at h0 h1 h2 h3 h4 h5;obtain⟨n0,e0,_,s0⟩:=DataW.trod_int Tryz.underlying3 h0;obtain⟨n1,e1,_,s1⟩:=DataW.trod_int Tryz.underlying3 h1;obtain⟨n2,e2,_,s2⟩:=DataW.trod_int Tryz.underlying3 h2;obtain⟨n3,e3,_,s3⟩:=DataW.trod_int Tryz.underlying3 h3;obtain⟨am,e4,k4⟩:=zbh h4;obtain⟨ax,e5,k5⟩:=zbh h5;simp only[List.cons.injEq,and_true]at e0 e1 e2 e3 e4 e5;obtain⟨rfl,rfl,rfl,rfl⟩:=e4;obtain⟨rfl,rfl,rfl,rfl⟩:=e5;subst e0 e1 e2 e3;exact⟨⟨n0,n1,n2,n3,am,ax⟩,rfl,⟨(zmk s0).2,(zmk s1).2,(zmk s2).2,(zmk s3).2,k4,k5⟩⟩
end
end Go.Proofs.YtnkilceibkkjlaaGreat
namespace Go.Proofs.YtnkilceibkkjlaaGreat
open Go.RowKit Go.ChangeShapes Go.WideShapes Go.ChangeAt
section
variable {H:Type} {enc:TypeId × Value->H} {w:World} {base:Nat} {spare:Nat->Bool} {held:Bool}
theorem zpq{fuel:Nat}{cs:List Value}{x:DataW H × List MemPlace}(h:DataW.trod enc Tryz.prog w base spare held fuel 88 cs=some x):∃ A:XAct,cs=A.L.toList/\A.Ok:=by
 have hc1:Tryz.prog.cellsOf 3=1:=by kernel_rfl
 have hc4:Tryz.prog.cellsOf 24=4:=by kernel_rfl
 have hc12:Tryz.prog.cellsOf 26=12:=by kernel_rfl
 have hc23:Tryz.prog.cellsOf 88=23:=by kernel_rfl
 obtain⟨xs,m,_,_,hlen,hxl,hf⟩:=DataW.trod_struct Tryz.underlying88 h;rw[hc23]at hlen
 match cs,hlen,xs,hxl with
 | [c0,c1,c2,c3,c4,c5,c6,c7,c8,c9,c10,c11,c12,c13,c14,c15,c16,c17,c18,c19,c20,c21,c22],_,[y0,y1,y2,y3,y4,y5],_ =>
  have h0:=hf 0 _ rfl;have h1:=hf 1 _ rfl;have h2:=hf 2 _ rfl;have h3:=hf 3 _ rfl;have h4:=hf 4 _ rfl;have h5:=hf 5 _ rfl;simp[hc1,hc4,hc12]at h0 h1 h2 h3 h4 h5;obtain⟨n0,e0,_,s0⟩:=DataW.trod_int Tryz.underlying3 h0;obtain⟨n1,e1,_,s1⟩:=DataW.trod_int Tryz.underlying3 h1;obtain⟨n2,e2,_,s2⟩:=DataW.trod_int Tryz.underlying3 h2;obtain⟨X,e3,k3⟩:=zt4 h3;obtain⟨am,e4,k4⟩:=zbh h4;obtain⟨ax,e5,k5⟩:=zbh h5;obtain⟨xs,xo,xt,xb,W,M⟩:=X;simp only[Ex.L,List.cons.injEq,and_true]at e0 e1 e2 e3 e4 e5;obtain⟨rfl,rfl,rfl,rfl,rfl,rfl,rfl,rfl,rfl,rfl,rfl,rfl⟩:=e3;obtain⟨rfl,rfl,rfl,rfl⟩:=e4;obtain⟨rfl,rfl,rfl,rfl⟩:=e5;subst e0 e1 e2;exact⟨⟨n0,n1,n2,⟨xs,xo,xt,xb,W,M⟩,am,ax⟩,rfl,⟨(zmk s1).2,(zmk s2).2,k3,k4,k5⟩⟩
end
end Go.Proofs.YtnkilceibkkjlaaGreat
namespace Go.Proofs.YtnkilceibkkjlaaGreat
open Go.RowKit Go.ChangeShapes Go.WideShapes Go.ChangeAt
structure zjz (w:World) (a:Option Addr) (l:List XAct):Prop where
 at0:∀ k A,l[k]?=some A->∃ ad,a=some ad/\∀ j v,A.L[j]?=some v->w.cell? ((ad.add (k*23)).add j)=some v
 ok:∀ A∈l,A.Ok
theorem zhz{α:Type}{P:Nat->α->Prop}:∀ n,(∀ i,i<n->∃ y,P i y)->∃ l:List α,l.length=n/\∀ (i:Nat) y,l[i]?=some y->P i y
 | 0,_=>⟨[],rfl,fun i y h=>by simp at h⟩
 | n+1,h=>by
  obtain⟨l,hl,hp⟩:=zhz n fun i hi=>h i (by omega)
  obtain⟨z,hz⟩:=h n (by omega)
  refine⟨l ++ [z],by simp[hl],fun i y hy => ?_⟩
  rw[List.getElem?_append]at hy
  split at hy
  ·exact hp i y hy
  ·rename_i hi
   have:i=n:=by
    have:=(List.getElem?_eq_some_iff.1 hy).1;simp at this;omega
   subst this;rw[hl,Nat.sub_self]at hy;cases hy;exact hz
section
variable {H:Type} {enc:TypeId × Value->H} {w:World} {base:Nat} {spare:Nat->Bool} {held:Bool}
theorem zjg{r:Reach}{b0:Nat}{v:Value}{d:DataW H}{p:List MemPlace}(hv:Value.okWide Tryz.prog w r b0 101 v)(h:DataW.Trod enc Tryz.prog w base spare held 101 v d p) :
  ∃ (l:List XAct) (a:Option Addr) (c:Nat),v= .slice a l.length c/\zjz w a l:=by
 obtain⟨a,len,cap,rfl⟩:=okWide_slice Tryz.underlying101 hv;obtain⟨fuel,hf⟩:=h;have hc23:Tryz.prog.cellsOf 88=23:=by kernel_rfl
 rcases DataW.trod_slice Tryz.underlying101 hf with⟨h1,_⟩ | ⟨a',len',cap',elems,rest,n,_,h1,h2,_,_,_,hlen,hel,_⟩
 ·have h2:[Value.slice a len cap] = [.slice none 0 0]:=h1;cases h2;exact⟨[],none,0,rfl,fun k x hx=>(by simp at hx),fun x hx=>(by cases hx)⟩
 ·have h3:[Value.slice a len cap] = [.slice (some a') len' cap']:=h1;cases h3;rw[hc23]at hel;have each:∀ i,i<len->∃ A:XAct,w.cells? base (a'.add (i*23)) 23=some A.L.toList/\A.Ok:=fun i hi=>by
   have:=hel i hi;rw[List.getElem?_eq_getElem (by omega:i<elems.length),Option.bind_eq_some_iff]at this;obtain⟨cs,hcs,ht⟩:=this;obtain⟨A,rfl,hA⟩:=zpq ht;exact⟨A,hcs,hA⟩
  obtain⟨l,hl,hp⟩:=zhz len each;subst hl;refine⟨l,some a',cap,rfl,fun k A hk=>⟨a',rfl,fun j v hj => ?_⟩,fun A hA => ?_⟩
  ·obtain⟨hcs,_⟩:=hp k A hk;obtain⟨_,_,hc⟩:=World.cells?_some hcs;have hj23:j<23:=(Array.getElem?_eq_some_iff.1 hj).1;rw[hc j hj23]
   simpa using hj
  ·obtain⟨i,hi⟩:=List.mem_iff_getElem?.1 hA;exact(hp i A hi).2
end
end Go.Proofs.YtnkilceibkkjlaaGreat
