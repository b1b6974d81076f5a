/- What is proved here: a region that draws its order, by wh -/
import Derived.StillTail
import Derived.Below
import Derived.Tactics2
import Derived.KernelRfl
import Derived.Test.YtnkilceibkkjlaaGreatKMulU
set_option maxRecDepth 100000
set_option maxHeartbeats 16000000
namespace Go.Proofs.YtnkilceibkkjlaaGreat
open Go.RowKit
def zpi(P:Program)(K:Value->World->Prop):Result Next->Prop
 | .ok (.value u) w'=>K u w'
 | .ok .skip w'=>K undef w'
 | .ok (.enter f args) w'=>Calls P f args w' (fun e w''=>∃ v,e= .returned v/\K v w'')
 | _=>False
def rgDo(P:Program)(ops:Array Oper)(o:Oper)(a:Act)(w:World)(K:Value->World->Prop):Prop:=
 if Region.wanted o (yielded ops a.tmps)then zpi P K ((execOp a.eval o).run P w)else K undef w
theorem zeb{P:Program}{K K':Value->World->Prop}(h:∀ v w,K v w->K' v w){r:Result Next}(hr:zpi P K r):zpi P K' r:=by
 cases r with
 | ok n w' =>
  cases n<;>simp only[zpi]at hr ⊢
  case value u=>exact h _ _ hr
  case skip=>exact h _ _ hr
  case enter f args=>exact hr.mono fun e w'' ⟨v,he,hk⟩=>⟨v,he,h _ _ hk⟩
 | halt x w'=>exact hr.elim
theorem zdi{P:Program}{ops:Array Oper}{o:Oper}{a:Act}{w:World}{K K':Value->World->Prop}(h:∀ v w,K v w->K' v w)(hr:rgDo P ops o a w K):rgDo P ops o a w K':=by
 unfold rgDo at *
 split
 ·rename_i hw;rw[if_pos hw]at hr;exact zeb h hr
 ·rename_i hw;rw[if_neg hw]at hr;exact h _ _ hr
theorem zlk{P:Program}{ops:Array Oper}{Q:Exit->Act->World->Prop}{i:Nat}{o:Oper}{a:Act}{w:World}{K:Act->World->Prop}(hi:ops[i]?=some o)
  (h:rgDo P ops o a w (fun v w'=>K (a.put o.dst v) w')):wpOp P ops Q i K a w:=by
 unfold wpOp;simp only[hi];unfold rgDo at h
 by_cases hw:Region.wanted o (yielded ops a.tmps)=true
 ·rw[if_pos hw]at h ⊢;refine .inl ?_;unfold Oper.wp;generalize (execOp a.eval o).run P w=r at *
  cases r with
  | ok n w' =>
   cases n<;>simp only[zpi]at h<;>simp only[Oper.upon]
   case value u=>exact h
   case skip=>exact h
   case enter f args =>
    refine zm h fun e w'' ⟨v,he,hk⟩ => ?_
    subst he;exact hk
  | halt x w'=>exact h.elim
 ·rw[if_neg hw]at h ⊢;exact h
def z1a:List Oper->Nat->(Nat->Value)->Array Value->Array Value
 | [],_,_,t=>t
 | o::l,k,vs,t=>z1a l (k+1) vs (match o.dst with | some d=>t.setIfInBounds d (vs k) | none=>t)
def z14(l:List Oper)(a:Act)(vs:Nat->Value):Act:={ a with tmps:=z1a l 0 vs a.tmps }
theorem zee(l:List Oper):∀ (k:Nat) (vs:Nat->Value) (t:Array Value),(z1a l k vs t).size=t.size:=by
 induction l with
 | nil=>intro k vs t;rfl
 | cons o l ih=>intro k vs t;simp only[z1a];rw[ih];cases o.dst<;>simp
theorem z6t(l:List Oper)(d:Tmp):∀ (k:Nat) (vs:Nat->Value) (t:Array Value),(∀ (j:Nat) (o:Oper),l[j]?=some o->o.dst≠some d)->(z1a l k vs t)[d]?=t[d]?:=by
 induction l with
 | nil=>intro k vs t _;rfl
 | cons o l ih =>
  intro k vs t h;simp only[z1a];rw[ih _ _ _ (fun j o' hj=>h (j+1) o' (by simpa using hj))];have h0:=h 0 o (by simp);cases hd:o.dst with
  | none=>rfl
  | some e=>exact Array.getElem?_setIfInBounds_ne (fun he=>h0 (by rw[hd,he]))
theorem zf8(l:List Oper)(d:Tmp):∀ (k:Nat) (vs:Nat->Value) (t:Array Value) (j:Nat) (o:Oper),l[j]?=some o->o.dst=some d->(∀ (j':Nat) (o':Oper),l[j']?=some o'->j'≠j->o'.dst≠some d)->d<t.size->(z1a l k vs t)[d]?=some (vs (k+j)):=by
 induction l with
 | nil=>intro k vs t j o h;simp at h
 | cons o1 l ih =>
  intro k vs t j o hj hd hne ht;simp only[z1a];cases j with
  | zero =>
   simp only[List.getElem?_cons_zero,Option.some.injEq]at hj;subst hj;rw[z6t _ _ _ _ _ (fun j o' ho'=>hne (j+1) o' (by simpa using ho') (by omega)),hd];simp[ht]
  | succ j =>
   have:=ih (k+1) vs (match o1.dst with | some d=>t.setIfInBounds d (vs k) | none=>t) j o (by simpa using hj) hd (fun j' o' ho' hn=>hne (j'+1) o' (by simpa using ho') (by omega)) (by cases o1.dst<;>simpa using ht);rw[this];congr 2;omega
def rgB(ops:Array Oper)(pre:List (List Nat))(n:Nat):Bool:=
 Region.noSelect ops &&
 (List.range ops.size).all fun i =>
  match ops[i]? with
  | none=>false
  | some o =>
   (o.after.all fun e => !Region.binds .any e||decide (e.on<i)) &&
   ((pre.getD i []).all fun j=>o.after.any fun e=>Region.binds .any e&&decide (e.on<i)&&(e.on==j||(pre.getD e.on []).contains j)) &&
   (match o.dst with | none=>true | some d=>decide (d<n)) &&
   (List.range ops.size).all fun j =>
    match ops[j]? with
    | none=>false
    | some oj =>
     match oj.dst with
     | none=>true
     | some d=>(i==j||o.dst != some d)&&(!(o.looksAt ops).contains d||(pre.getD i []).contains j)
structure RgOk (ops:Array Oper) (pr:List (List Nat)) (n:Nat):Prop where
 sel:Region.noSelect ops=true
 low:∀ (i:Nat) (o:Oper),ops[i]?=some o->∀ e∈o.after,Region.binds .any e=true->e.on<i
 pre:∀ (i:Nat) (o:Oper),ops[i]?=some o->∀ j,j∈pr.getD i []->∃ e∈o.after,Region.binds .any e=true/\e.on<i/\(e.on=j\/j∈pr.getD e.on [])
 room:∀ (i:Nat) (o:Oper),ops[i]?=some o->∀ d,o.dst=some d->d<n
 apart:∀ (i:Nat) (o:Oper) (j:Nat) (oj:Oper),ops[i]?=some o->ops[j]?=some oj->i≠j->∀ d,oj.dst=some d->o.dst≠some d
 looks:∀ (i:Nat) (o:Oper) (j:Nat) (oj:Oper),ops[i]?=some o->ops[j]?=some oj->∀ d,oj.dst=some d->d∈o.looksAt ops->j∈pr.getD i []
theorem zl2{ops:Array Oper}{pre:List (List Nat)}{n:Nat}(h:rgB ops pre n=true):RgOk ops pre n:=by
 unfold rgB at h;rw[Bool.and_eq_true]at h;obtain⟨hs,h⟩:=h;have key:∀ i o,ops[i]?=some o->i<ops.size:=fun i o ho=>(Array.getElem?_eq_some_iff.1 ho).1
 have h1:∀ i o,ops[i]?=some o->_:=fun i o ho=>by
  have:=List.all_eq_true.1 h i (List.mem_range.2 (key i o ho));simp only[ho,Bool.and_eq_true]at this;exact this
 refine⟨hs,fun i o ho e he hb => ?_,fun i o ho j hj => ?_,fun i o ho d hd => ?_,fun i o j oj ho hoj hij d hd => ?_,fun i o j oj ho hoj d hd hl => ?_⟩
 ·have:=Array.all_eq_true_iff_forall_mem.1 (h1 i o ho).1.1.1 e he
  simpa [hb]using this
 ·have:=List.all_eq_true.1 (h1 i o ho).1.1.2 j hj;obtain⟨e,he,h2⟩:=Array.any_eq_true'.1 this;simp only[Bool.and_eq_true,Bool.or_eq_true,beq_iff_eq,decide_eq_true_eq,List.contains_iff_mem]at h2;exact⟨e,he,h2.1.1,h2.1.2,h2.2⟩
 ·have:=(h1 i o ho).1.2
  simpa [hd]using this
 ·have:=List.all_eq_true.1 (h1 i o ho).2 j (List.mem_range.2 (key j oj hoj));simp only[hoj,hd,Bool.and_eq_true,Bool.or_eq_true,beq_iff_eq,bne_iff_ne]at this;exact this.1.resolve_left hij
 ·have:=List.all_eq_true.1 (h1 i o ho).2 j (List.mem_range.2 (key j oj hoj));simp only[hoj,hd,Bool.and_eq_true,Bool.or_eq_true,Bool.not_eq_true',List.contains_iff_mem]at this;rcases this.2 with h3 | h3
  ·have:(o.looksAt ops).contains d=true:=by simpa using hl
   rw[this]at h3;cases h3
  ·exact h3
def z5j(vs:Nat->Value)(i:Nat)(v:Value):Nat->Value:=fun j=>if j=i then v else vs j
structure RgFr (ops:Array Oper) (a0:Act) (listed:Array Bool) (vs:Nat->Value) (a:Act):Prop where
 rest:a = { a0 with tmps:=a.tmps }
 size:a.tmps.size=a0.tmps.size
 get:∀ (t:Tmp),(∀ (j:Nat) (o:Oper),ops[j]?=some o->o.dst=some t->listed.getD j false=true)->a.tmps[t]? = (z1a ops.toList 0 vs a0.tmps)[t]?
 ls:listed.size=ops.size
 closed:∀ (j:Nat) (oj:Oper),ops[j]?=some oj->listed.getD j false=true->∀ e∈oj.after,Region.binds .any e=true->listed.getD e.on false=true
theorem zu8{ops:Array Oper}{pre:List (List Nat)}{n:Nat}(hB:RgOk ops pre n){a0 a:Act}{listed:Array Bool}{vs:Nat->Value}(hf:RgFr ops a0 listed vs a) :
  ∀ i,(∀ (o:Oper),ops[i]?=some o->∀ e∈o.after,Region.binds .any e=true->listed.getD e.on false=true)->i<ops.size->∀ j,j∈pre.getD i []->listed.getD j false=true:=by
 intro i
 induction i using Nat.strongRecOn with
 | _ i ih =>
  intro hr hi j hj;obtain⟨o,ho⟩:∃ o,ops[i]?=some o:=⟨_,Array.getElem?_eq_getElem hi⟩;obtain⟨e,he,hb,hlt,h1⟩:=hB.pre i o ho j hj;have hl:=hr o ho e he hb;rcases h1 with rfl | h1
  ·exact hl
  ·exact ih e.on hlt (fun o' ho' e' he' hb'=>hf.closed e.on o' ho' hl e' he' hb') (by omega) j h1
theorem ztu{ops:Array Oper}{pre:List (List Nat)}{n:Nat}(hB:RgOk ops pre n){a0 a:Act}{listed:Array Bool}{vs:Nat->Value}(hf:RgFr ops a0 listed vs a){i:Nat}{o:Oper}
  (ho:ops[i]?=some o) (hp:∀ j,j∈pre.getD i []->listed.getD j false=true) :
  execOp a.eval o=execOp (z14 ops.toList a0 vs).eval o/\Region.wanted o (yielded ops a.tmps)=Region.wanted o (yielded ops (z14 ops.toList a0 vs).tmps):=by
 have hg:∀ t,t∈o.looksAt ops->a.tmps[t]? = (z14 ops.toList a0 vs).tmps[t]?:=fun t ht =>
  hf.get t fun j oj hoj hd=>hp j (hB.looks i o j oj ho hoj t hd ht)
 refine⟨execOp_congr o (fun cs b=>Region.noSelect_spec hB.sel i o cs b ho) fun x hx => ?_,?_⟩
 ·cases x with
  | tmp t =>
   have:=hg t (List.mem_append_left _ (List.mem_filterMap.2 ⟨.tmp t,by simpa using hx,rfl⟩));simp only[Act.eval,Array.getD_eq_getD_getElem?,this]
  | _=>rfl
 ·unfold Region.wanted;cases hgd:o.guard with
  | none=>rfl
  | some gw =>
   obtain⟨g,want⟩:=gw;have hy:yielded ops a.tmps g=yielded ops (z14 ops.toList a0 vs).tmps g:=by
    unfold yielded;cases ht:(ops[g]?).bind (·.dst)with
    | none=>rfl
    | some t =>
     have:=hg t (List.mem_append_right _ (by simp[hgd,ht]));simp only[Option.bind_some,this]
   simp only[hy]
theorem RgFr.put{ops:Array Oper}{pre:List (List Nat)}{a0 a:Act}(hB:RgOk ops pre a0.tmps.size){listed:Array Bool}{vs:Nat->Value}(hf:RgFr ops a0 listed vs a){i:Nat}{o:Oper}
  (ho:ops[i]?=some o) (hr:∀ e∈o.after,Region.binds .any e=true->listed.getD e.on false=true) (hi:listed.getD i false=false) (v:Value):RgFr ops a0 (listed.setIfInBounds i true) (z5j vs i v) (a.put o.dst v):=by
 have hlt:i<ops.size:=(Array.getElem?_eq_some_iff.1 ho).1;refine⟨?_,?_,fun t ht => ?_,by simp[hf.ls],fun j oj hoj hl e he hb => ?_⟩
 ·have:=hf.rest;cases hd:o.dst with
  | none=>simpa [Act.put]using this
  | some d=>rw[this];rfl
 ·cases hd:o.dst with
  | none=>simpa [Act.put]using hf.size
  | some d=>simpa [Act.put]using hf.size
 ·by_cases hd:o.dst=some t
  ·have hsz:t<a0.tmps.size:=hB.room i o ho t hd;rw[zf8 ops.toList t 0 (z5j vs i v) a0.tmps i o (by simpa using ho) hd (fun j' o' hj' hn=>hB.apart j' o' i o (by simpa using hj') ho hn t hd) hsz];simp[Act.put,hd,z5j,hf.size,hsz]
  ·have h1:(a.put o.dst v).tmps[t]?=a.tmps[t]?:=by
    cases hd':o.dst with
    | none=>rfl
    | some d=>exact Array.getElem?_setIfInBounds_ne (fun he=>hd (by rw[hd',he]))
   rw[h1]
   by_cases hex:∃ (j:Nat) (oj:Oper),ops[j]?=some oj/\oj.dst=some t
   ·obtain⟨j,oj,hoj,hdj⟩:=hex;have hji:j≠i:=fun he=>by subst he;rw[ho]at hoj;cases hoj;exact hd hdj
    have hall:∀ (j':Nat) (o':Oper),ops[j']?=some o'->o'.dst=some t->listed.getD j' false=true:=fun j' o' ho' hd'=>by
     have:=ht j' o' ho' hd';have hne:i≠j':=fun he=>by subst he;rw[ho]at ho';cases ho';exact hd hd'
     rwa [getD_set_ne false hne]at this
    rw[hf.get t hall]
    by_cases hsz:t<a0.tmps.size
    ·rw[zf8 ops.toList t 0 vs a0.tmps j oj (by simpa using hoj) hdj (fun j' o' hj' hn=>hB.apart j' o' j oj (by simpa using hj') hoj hn t hdj) hsz,
      zf8 ops.toList t 0 (z5j vs i v) a0.tmps j oj (by simpa using hoj) hdj (fun j' o' hj' hn=>hB.apart j' o' j oj (by simpa using hj') hoj hn t hdj) hsz]
     simp[z5j,hji]
    ·exact(Array.getElem?_eq_none (by rw[zee];exact Nat.not_lt.1 hsz)).trans (Array.getElem?_eq_none (by rw[zee];exact Nat.not_lt.1 hsz)).symm
   ·have hno:∀ (j:Nat) (o':Oper),ops.toList[j]?=some o'->o'.dst≠some t:=fun j o' hj hd'=>hex ⟨j,o',by simpa using hj,hd'⟩
    rw[hf.get t (fun j o' hj hd'=>(hex ⟨j,o',hj,hd'⟩).elim),z6t _ _ _ _ _ hno,z6t _ _ _ _ _ hno]
 ·by_cases hij:i=j
  ·subst hij;rw[ho]at hoj;cases hoj;exact getD_set_true (hr e he hb)
  ·rw[getD_set_ne false hij]at hl;exact getD_set_true (hf.closed j oj hoj hl e he hb)
theorem z7w{P:Program}{ops:Array Oper}{Q:Exit->Act->World->Prop}{a0:Act}{pre:List (List Nat)}(hB:RgOk ops pre a0.tmps.size)(I:(Nat->Bool)->(Nat->Value)->World->Prop)
  (hstep:∀ (i:Nat) (o:Oper),ops[i]?=some o->∀ L vs w,I L vs w->(∀ j,j∈pre.getD i []->L j=true)->L i=false->(∀ (j:Nat) (o':Oper),ops[j]?=some o'->i∈pre.getD j []->L j=false) ->
   rgDo P ops o (z14 ops.toList a0 vs) w (fun v w'=>I (fun j=>if j=i then true else L j) (z5j vs i v) w'))
  (hend:∀ L vs w,I L vs w->(∀ j,j<ops.size->L j=true)->Q .normal (z14 ops.toList a0 vs) w) :
  ∀ (fuel:Nat) (listed:Array Bool) (vs:Nat->Value) (a:Act) (w:World),RgFr ops a0 listed vs a->((List.range ops.size).filter fun j => !listed.getD j false).length<=fuel ->
   I (fun j=>listed.getD j false) vs w->wpAny P .any ops Q fuel listed a w:=by
 have hfull:∀ (listed:Array Bool),listed.size=ops.size->Region.ready .any ops listed = []->∀ j,j<ops.size->listed.getD j false=true:=by
  intro listed hls hr j
  induction j using Nat.strongRecOn with
  | _ j ih =>
   intro hj;cases hl:listed.getD j false with
   | true=>rfl
   | false =>
    exfalso;obtain⟨o,ho⟩:∃ o,ops[j]?=some o:=⟨_,Array.getElem?_eq_getElem hj⟩
    have:j∈Region.ready .any ops listed:=mem_ready.2 ⟨getD_in (by omega) hl,o,ho,fun e he hb=>by
     have:=hB.low j o ho e he hb
     exact ih e.on this (by omega)⟩
    rw[hr]at this;cases this
 have hdone:∀ listed vs a w,RgFr ops a0 listed vs a->Region.ready .any ops listed = []->I (fun j=>listed.getD j false) vs w->Q .normal a w:=by
  intro listed vs a w hf hr hI;have hall:=hfull listed hf.ls hr;have ha:a=z14 ops.toList a0 vs:=by
   rw[hf.rest];unfold z14;congr 1;apply Array.ext_getElem?;intro t;exact hf.get t fun j o ho _=>hall j (Array.getElem?_eq_some_iff.1 ho).1
  rw[ha];exact hend _ vs w hI hall
 intro fuel
 induction fuel with
 | zero =>
  intro listed vs a w hf hn hI;have hr:Region.ready .any ops listed = []:=by
   rw[List.eq_nil_iff_forall_not_mem];intro j hj;obtain⟨h0,o,ho,_⟩:=mem_ready.1 hj;have hnil:=List.eq_nil_of_length_eq_zero (Nat.le_zero.1 hn);have:j∈(List.range ops.size).filter fun j => !listed.getD j false:=List.mem_filter.2 ⟨List.mem_range.2 (Array.getElem?_eq_some_iff.1 ho).1,by rw[getD_both h0];rfl⟩
   rw[hnil]at this;cases this
  exact⟨hr,hdone listed vs a w hf hr hI⟩
 | succ fuel ih =>
  intro listed vs a w hf hn hI;refine⟨fun hr=>hdone listed vs a w hf hr hI,fun i hi => ?_⟩;obtain⟨h0,o,ho,hall⟩:=mem_ready.1 hi;have hlt:i<ops.size:=(Array.getElem?_eq_some_iff.1 ho).1;have hpre:=zu8 hB hf i (fun o' ho' e he hb=>by rw[ho]at ho';cases ho';exact hall e he hb) hlt;obtain⟨he1,he2⟩:=ztu hB hf ho hpre;have hpost:∀ (j:Nat) (o':Oper),ops[j]?=some o'->i∈pre.getD j []->listed.getD j false=false:=fun j o' ho' hij=>by
   cases hl:listed.getD j false with
   | false=>rfl
   | true =>
    have:=zu8 hB hf j (fun o'' ho'' e he hb=>hf.closed j o'' ho'' hl e he hb) (Array.getElem?_eq_some_iff.1 ho').1 i hij;rw[getD_both h0]at this;cases this
  have hs:=hstep i o ho (fun j=>listed.getD j false) vs w hI hpre (getD_both h0) hpost;refine zlk ho ?_;unfold rgDo at hs ⊢;rw[he1,he2];have hgo:∀ v w',I (fun j=>if j=i then true else listed.getD j false) (z5j vs i v) w'->wpAny P .any ops Q fuel (listed.setIfInBounds i true) (a.put o.dst v) w':=fun v w' hI'=>by
   refine ih _ (z5j vs i v) _ w' (hf.put hB ho hall (getD_both h0) v) ?_ ?_
   ·have hlen:((List.range ops.size).filter fun j => !(listed.setIfInBounds i true).getD j false).length<((List.range ops.size).filter fun j => !listed.getD j false).length:=by
     have hsub:((List.range ops.size).filter fun j => !(listed.setIfInBounds i true).getD j false)=((List.range ops.size).filter fun j => !listed.getD j false).filter fun j=>j != i:=by
      rw[List.filter_filter];apply List.filter_congr;intro j hj
      by_cases hij:i=j
      ·subst hij;have:i<listed.size:=by rw[hf.ls];exact hlt
       simp[this]
      ·rw[getD_set_ne false hij];have:(j != i)=true:=by simp[Ne.symm hij]
       rw[this];simp
     rw[hsub];apply List.length_filter_lt_length_iff_exists.2;exact⟨i,List.mem_filter.2 ⟨List.mem_range.2 hlt,by rw[getD_both h0];rfl⟩,by simp⟩
    omega
   ·have hfun:(fun j=>(listed.setIfInBounds i true).getD j false)=fun j=>if j=i then true else listed.getD j false:=by
     funext j
     by_cases hij:i=j
     ·subst hij;have:i<listed.size:=by rw[hf.ls];exact hlt
      simp[this]
     ·rw[getD_set_ne false hij];simp[Ne.symm hij]
    rw[hfun];exact hI'
  split
  ·rename_i hw;rw[if_pos hw]at hs;exact zeb hgo hs
  ·rename_i hw;rw[if_neg hw]at hs;exact hgo _ _ hs
abbrev z0z:=List Nat × (List Value->World->Prop)
def rgIn(j:Nat):List Nat->Bool
 | []=>false
 | x::l=>j==x||rgIn j l
def ze2:List Nat->List Nat->Bool
 | [],_=>true
 | x::l,m=>rgIn x m&&ze2 l m
theorem zb9{j:Nat}{l:List Nat}:rgIn j l=true↔j∈l:=by
 induction l with
 | nil=>simp[rgIn]
 | cons x l ih=>simp[rgIn,ih]
theorem zp3{l m:List Nat}:ze2 l m=true↔∀ j∈l,j∈m:=by
 induction l with
 | nil=>simp[ze2]
 | cons x l ih=>simp[ze2,ih,zb9]
def z3t(m:List Nat)(vs:Nat->Value)(w:World):List z0z->Prop
 | []=>True
 | p::G=>cond (ze2 p.1 m) (p.2 (p.1.map vs) w/\z3t m vs w G) (z3t m vs w G)
theorem z4y{m:List Nat}{vs:Nat->Value}{w:World}:∀ {G:List z0z},(∀ p,p∈G->(∀ j∈p.1,j∈m)->p.2 (p.1.map vs) w)->z3t m vs w G
 | [],_=>trivial
 | p::G,h=>by
  have hr:=z4y (G:=G) (fun q hq hm=>h q (List.mem_cons_of_mem _ hq) hm)
  cases hs:ze2 p.1 m
  ·simp only[z3t,hs,cond_false];exact hr
  ·simp only[z3t,hs,cond_true];exact⟨h p (by simp) (zp3.1 hs),hr⟩
def z3y(pr:List (List Nat))(i:Nat):List Nat->Bool
 | []=>false
 | j::g=>rgIn i (pr.getD j [])||z3y pr i g
theorem zel{pr:List (List Nat)}{i:Nat}{g:List Nat}:z3y pr i g=true↔∃ j∈g,i∈pr.getD j []:=by
 induction g with
 | nil=>simp[z3y]
 | cons j g ih=>simp only[z3y,Bool.or_eq_true,zb9,ih,List.mem_cons,exists_eq_or_imp]
def z8h(G0:List z0z)(pr:List (List Nat))(i:Nat)(vs:Nat->Value)(v:Value)(w w':World):List z0z->Prop
 | []=>True
 | q::G=>cond (rgIn i q.1 && !z3y pr i q.1) ((z3t (pr.getD i []++q.1.filter (fun j => !(j==i))) vs w G0->q.2 (q.1.map (z5j vs i v)) w')/\z8h G0 pr i vs v w w' G) (z8h G0 pr i vs v w w' G)
def z6m(G0:List z0z)(pr:List (List Nat))(i:Nat)(vs:Nat->Value)(w w':World):List z0z->Prop
 | []=>True
 | q::G=>cond (rgIn i q.1||z3y pr i q.1) (z6m G0 pr i vs w w' G) ((q.2 (q.1.map vs) w->z3t (pr.getD i []++q.1) vs w G0->q.2 (q.1.map vs) w')/\z6m G0 pr i vs w w' G)
theorem zgd{G0:List z0z}{pr:List (List Nat)}{i:Nat}{vs:Nat->Value}{v:Value}{w w':World}:∀ {G:List z0z},z8h G0 pr i vs v w w' G->∀ q,q∈G->i∈q.1->(∀ j∈q.1,i∉pr.getD j [])->z3t (pr.getD i []++q.1.filter (fun j => !(j==i))) vs w G0->q.2 (q.1.map (z5j vs i v)) w'
 | [],_,_,hq,_,_,_=>by cases hq
 | p::G,h,q,hq,hi,hl,hA=>by
  have hrest:z8h G0 pr i vs v w w' G:=by
   unfold z8h at h;cases hc:(rgIn i p.1 && !z3y pr i p.1)
   ·simpa only[hc,cond_false]using h
   ·simp only[hc,cond_true]at h;exact h.2
  rcases List.mem_cons.1 hq with rfl | hq
  ·have hc:(rgIn i q.1 && !z3y pr i q.1)=true:=by
    rw[Bool.and_eq_true,Bool.not_eq_true'];refine⟨zb9.2 hi,?_⟩;cases hl':z3y pr i q.1
    ·rfl
    ·obtain⟨j,hj,hj2⟩:=zel.1 hl';exact absurd hj2 (hl j hj)
   unfold z8h at h;simp only[hc,cond_true]at h;exact h.1 hA
  ·exact zgd hrest q hq hi hl hA
theorem zd7{G0:List z0z}{pr:List (List Nat)}{i:Nat}{vs:Nat->Value}{w w':World}:∀ {G:List z0z},z6m G0 pr i vs w w' G->∀ q,q∈G->i∉q.1->(∀ j∈q.1,i∉pr.getD j [])->q.2 (q.1.map vs) w->z3t (pr.getD i []++q.1) vs w G0->q.2 (q.1.map vs) w'
 | [],_,_,hq,_,_,_,_=>by cases hq
 | p::G,h,q,hq,hi,hl,hQ,hA=>by
  have hrest:z6m G0 pr i vs w w' G:=by
   unfold z6m at h;cases hc:(rgIn i p.1||z3y pr i p.1)
   ·simp only[hc,cond_false]at h;exact h.2
   ·simpa only[hc,cond_true]using h
  rcases List.mem_cons.1 hq with rfl | hq
  ·have hc:(rgIn i q.1||z3y pr i q.1)=false:=by
    rw[Bool.or_eq_false_iff];constructor
    ·cases hl':rgIn i q.1
     ·rfl
     ·exact absurd (zb9.1 hl') hi
    ·cases hl':z3y pr i q.1
     ·rfl
     ·obtain⟨j,hj,hj2⟩:=zel.1 hl';exact absurd hj2 (hl j hj)
   unfold z6m at h;simp only[hc,cond_false]at h;exact h.1 hQ hA
  ·exact zd7 hrest q hq hi hl hQ hA
theorem z0v{G0 G:List z0z}{pr:List (List Nat)}{i:Nat}{vs:Nat->Value}{v:Value}{w w':World}{q:z0z}(h:(rgIn i q.1 && !z3y pr i q.1)=false)(h2:z8h G0 pr i vs v w w' G):z8h G0 pr i vs v w w' (q::G):=by
 simp only[z8h,h,cond_false];exact h2
theorem z18{G0 G:List z0z}{pr:List (List Nat)}{i:Nat}{vs:Nat->Value}{v:Value}{w w':World}{q:z0z}(h:(rgIn i q.1 && !z3y pr i q.1)=true) (h1:z3t (pr.getD i []++q.1.filter (fun j => !(j==i))) vs w G0->q.2 (q.1.map (z5j vs i v)) w') (h2:z8h G0 pr i vs v w w' G):z8h G0 pr i vs v w w' (q::G):=by
 simp only[z8h,h,cond_true];exact⟨h1,h2⟩
def zjz(pr:List (List Nat))(i:Nat):List z0z->Bool
 | []=>true
 | q::G => !(rgIn i q.1 && !z3y pr i q.1)&&zjz pr i G
def zl0(pr:List (List Nat))(i:Nat):List z0z->Nat->Bool
 | [],_=>true
 | _::G,0=>zjz pr i G
 | q::G,k+1 => !(rgIn i q.1 && !z3y pr i q.1)&&zl0 pr i G k
def zjb(G0:List z0z)(pr:List (List Nat))(i:Nat)(vs:Nat->Value)(v:Value)(w w':World):List z0z->Nat->Prop
 | [],_=>True
 | q::_,0=>z3t (pr.getD i []++q.1.filter (fun j => !(j==i))) vs w G0->q.2 (q.1.map (z5j vs i v)) w'
 | _::G,k+1=>zjb G0 pr i vs v w w' G k
theorem zac{G0:List z0z}{pr:List (List Nat)}{i:Nat}{vs:Nat->Value}{v:Value}{w w':World}:∀ {G:List z0z},zjz pr i G=true->z8h G0 pr i vs v w w' G
 | [],_=>trivial
 | q::G,h=>by
  simp only[zjz,Bool.and_eq_true,Bool.not_eq_true']at h
  exact z0v h.1 (zac h.2)
theorem zhu{G0:List z0z}{pr:List (List Nat)}{i:Nat}{vs:Nat->Value}{v:Value}{w w':World}:∀ {G:List z0z} (k:Nat),zl0 pr i G k=true->zjb G0 pr i vs v w w' G k->z8h G0 pr i vs v w w' G
 | [],_,_,_=>trivial
 | q::G,0,h,h1=>by
  cases hc:(rgIn i q.1 && !z3y pr i q.1)with
  | false=>exact z0v hc (zac h)
  | true=>exact z18 hc h1 (zac h)
 | q::G,k+1,h,h1=>by
  simp only[zl0,Bool.and_eq_true,Bool.not_eq_true']at h
  exact z0v h.1 (zhu k h.2 h1)
theorem z07{G0:List z0z}{pr:List (List Nat)}{i:Nat}{vs:Nat->Value}{v:Value}{w w':World}{G:List z0z}(k:Nat)(h:zl0 pr i G k=true:=by exact rfl)(h1:zjb G0 pr i vs v w w' G k:=by exact fun _=>rfl):z8h G0 pr i vs v w w' G:=zhu k h h1
theorem z2y{G0 G:List z0z}{pr:List (List Nat)}{i:Nat}{vs:Nat->Value}{w w':World}{q:z0z}(h:(rgIn i q.1||z3y pr i q.1)=true)(h2:z6m G0 pr i vs w w' G):z6m G0 pr i vs w w' (q::G):=by
 simp only[z6m,h,cond_true];exact h2
theorem z0k{G0 G:List z0z}{pr:List (List Nat)}{i:Nat}{vs:Nat->Value}{w w':World}{q:z0z}(h:(rgIn i q.1||z3y pr i q.1)=false)(h1:q.2 (q.1.map vs) w->z3t (pr.getD i []++q.1) vs w G0->q.2 (q.1.map vs) w')(h2:z6m G0 pr i vs w w' G):z6m G0 pr i vs w w' (q::G):=by
 simp only[z6m,h,cond_false];exact⟨h1,h2⟩
theorem z3k{m:List Nat}{vs:Nat->Value}{w:World}{q:z0z}{G:List z0z}(h:ze2 q.1 m=true)(h1:q.2 (q.1.map vs) w)(h2:z3t m vs w G):z3t m vs w (q::G):=by
 simp only[z3t,h,cond_true];exact⟨h1,h2⟩
theorem z4l{m:List Nat}{vs:Nat->Value}{w:World}{q:z0z}{G:List z0z}(h:ze2 q.1 m=false)(h2:z3t m vs w G):z3t m vs w (q::G):=by
 simp only[z3t,h,cond_false];exact h2
theorem rg1{a b:Value}(h:[a] = [b]):a=b:=(List.cons.inj h).1
theorem rg2{a b c d:Value}(h:[a,b] = [c,d]):a=c/\b=d:=by cases h;exact⟨rfl,rfl⟩
def zu6(P:Program)(ops:Array Oper)(pr:List (List Nat))(G:List z0z)(fr:(Nat->Value)->Act)(i:Nat)(o:Oper):Prop:=
 ∀ vs w,z3t (pr.getD i []) vs w G->∀ K:Value->World->Prop,(∀ v w',(Below w.heap.size w w'\/z6m G pr i vs w w' G)->z8h G pr i vs v w w' G->K v w')->rgDo P ops o (fr vs) w K
def zge(P:Program)(ops:Array Oper)(pr:List (List Nat))(G:List z0z)(fr:(Nat->Value)->Act):Nat->List Oper->Prop
 | _,[]=>True
 | i,o::r=>zu6 P ops pr G fr i o/\zge P ops pr G fr (i+1) r
theorem zas{P:Program}{ops:Array Oper}{pr:List (List Nat)}{G:List z0z}{fr:(Nat->Value)->Act}:∀ {l:List Oper} {k:Nat},zge P ops pr G fr k l->∀ j o,l[j]?=some o->zu6 P ops pr G fr (k+j) o
 | [],_,_,_,_,h=>by simp at h
 | o1::l,k,hs,0,o,h=>by simp only[List.getElem?_cons_zero,Option.some.injEq]at h;subst h;exact hs.1
 | o1::l,k,hs,j+1,o,h=>by
  have:=zas hs.2 j o (by simpa using h)
  rwa [Nat.add_assoc,Nat.add_comm 1 j]at this
theorem zh0{vs:Nat->Value}{i:Nat}{v:Value}{g:List Nat}(h:i∉g):g.map (z5j vs i v)=g.map vs:=
 List.map_congr_left fun j hj=>by unfold z5j;rw[if_neg (fun he=>h (by subst he;exact hj))]
def z9p(n:Nat):List z0z->Bool
 | []=>true
 | p::G=>p.1.all (fun j=>decide (j<n))&&z9p n G
theorem z8v{n:Nat}:∀ {G:List z0z},z9p n G=true->∀ p,p∈G->∀ j∈p.1,j<n
 | [],_,_,hp=>by cases hp
 | q::G,h,p,hp=>by
  simp only[z9p,Bool.and_eq_true,List.all_eq_true,decide_eq_true_eq]at h
  rcases List.mem_cons.1 hp with rfl | hp
  ·exact h.1
  ·exact z8v h.2 p hp
def zbb:List z0z->Prop
 | []=>True
 | p::G=>(∀ x w w',Below w.heap.size w w'->p.2 x w->p.2 x w')/\zbb G
theorem z8w:∀ {G:List z0z},zbb G->∀ q∈G,∀ x w w',Below w.heap.size w w'->q.2 x w->q.2 x w'
 | [],_,q,hq=>by cases hq
 | p::G,h,q,hq=>by
  rcases List.mem_cons.1 hq with rfl | hq
  ·exact h.1
  ·exact z8w h.2 q hq
abbrev rgC(S:World->Prop):z0z:=([],fun _ w'=>S w')
abbrev rgV(i:Nat)(v:Value):z0z:=([i],fun l _=>l = [v])
theorem z1g{P:Program}{id:Nat}{Q:Exit->Act->World->Prop}{a:Act}{w:World}{l:List Oper}(pr:List (List Nat))(G:List z0z)(fr:(Nat->Value)->Act)
  (hm:P.follows .mixedOrders=true) (hB:rgB l.toArray pr a.tmps.size=true) (hG:z9p l.length G=true) (hfr:∀ vs,z14 l a vs=fr vs)
  (hst0:zbb G)
  (h0:z3t [] (fun _=>undef) w.drew G)
  (hs:zge P l.toArray pr G fr 0 l)
  (hend:∀ vs w,z3t (List.range l.length) vs w G->Q .normal (fr vs) w):(Code.region id l.toArray true).wp P Q a w:=by
 refine wp_region_any hm ?_;have hst:=z8w hst0;have hok:=zl2 hB;have hgs:=z8v hG;refine z7w hok (fun L vs w=>∀ p∈G,(∀ j∈p.1,L j=true)->p.2 (p.1.map vs) w) ?_ ?_ l.toArray.size (Array.replicate l.toArray.size false) (fun _=>undef) a w.drew ?_ ?_ ?_
 ·intro i o ho L vs w hI hpre hLi hpost;have hi:=zas hs i o (by simpa using ho);rw[Nat.zero_add]at hi;have hq:∀ q∈G,i∈q.1->(∀ j∈q.1,L j=true\/j=i)->∀ j∈q.1,i∉pr.getD j []:=by
   intro q hq hiq hall j hj hij;have hjl:=hgs q hq j hj;obtain⟨oj,hoj⟩:∃ oj,l.toArray[j]?=some oj:=⟨l[j],by simp[hjl]⟩;rcases hall j hj with h1 | h1
   ·rw[hpost j oj hoj hij]at h1;cases h1
   ·subst h1;have hself:∀ (n:Nat),∀ j,j=n->∀ oj,l.toArray[j]?=some oj->∀ k,k∈pr.getD j []->k<j:=by
     intro n
     induction n using Nat.strongRecOn with
     | _ n ih =>
      intro j hjn oj hoj k hk;obtain⟨e,he,hb,hlt,h1⟩:=hok.pre j oj hoj k hk;rcases h1 with rfl | h1
      ·exact hlt
      ·obtain⟨oe,hoe⟩:∃ oe,l.toArray[e.on]?=some oe:=⟨_,Array.getElem?_eq_getElem (by have:=(Array.getElem?_eq_some_iff.1 hoj).1;omega)⟩;have:=ih e.on (by omega) e.on rfl oe hoe k h1;omega
    have:=hself j j rfl oj hoj j hij;omega
  rw[show z14 l.toArray.toList a vs=z14 l a vs from rfl,hfr vs]
  refine hi vs w (z4y fun p hp hm=>hI p hp fun j hj=>hpre j (hm j hj)) _ fun v w' hk hn => ?_
  intro q hqG hall
  by_cases hiq:i∈q.1
  ·refine zgd hn q hqG hiq (hq q hqG hiq fun j hj => ?_) (z4y fun p hp hm=>hI p hp fun j hj => ?_)
   ·have:(if j=i then true else L j)=true:=hall j hj
    by_cases hji:j=i
    ·exact .inr hji
    ·rw[if_neg hji]at this;exact .inl this
   ·rcases List.mem_append.1 (hm j hj)with h1 | h1
    ·exact hpre j h1
    ·obtain⟨h2,h3⟩:=List.mem_filter.1 h1;have hji:j≠i:=by simpa using h3
     have:(if j=i then true else L j)=true:=hall j h2
     rwa [if_neg hji]at this
  ·rw[zh0 hiq];have hall':∀ j∈q.1,L j=true:=fun j hj=>by
    have:(if j=i then true else L j)=true:=hall j hj
    rwa [if_neg (fun he=>hiq (by subst he;exact hj))]at this
   rcases hk with hk | hk
   ·exact hst q hqG _ _ _ hk (hI q hqG hall')
   ·refine zd7 hk q hqG hiq (fun j hj hij => ?_) (hI q hqG hall') (z4y fun p hp hm=>hI p hp fun j hj => ?_)
    ·obtain⟨oj,hoj⟩:∃ oj,l.toArray[j]?=some oj:=⟨l[j]'(hgs q hqG j hj),by simp[hgs q hqG j hj]⟩;have h1:=hall' j hj;rw[hpost j oj hoj hij]at h1;cases h1
    ·rcases List.mem_append.1 (hm j hj)with h1 | h1
     ·exact hpre j h1
     ·exact hall' j h1
 ·intro L vs w hI hall;rw[show z14 l.toArray.toList a vs=z14 l a vs from rfl,hfr vs]
  exact hend vs w (z4y fun p hp _=>hI p hp fun j hj=>hall j (by simpa using hgs p hp j hj))
 ·refine⟨rfl,rfl,fun t ht => ?_,by simp,fun j oj _ hl => ?_⟩
  ·refine(z6t _ _ _ _ _ fun j o hj hd => ?_).symm;have:=ht j o (by simpa using hj) hd;rw[getD_replicate_false]at this;cases this
  ·rw[getD_replicate_false]at hl;cases hl
 ·refine Nat.le_trans (List.length_filter_le _ _) (by simp)
 ·intro p hp hall;have hnil:p.1 = []:=by
   cases hp1:p.1 with
   | nil=>rfl
   | cons j g =>
    have:(Array.replicate l.toArray.size false).getD j false=true:=hall j (by rw[hp1];simp);rw[getD_replicate_false]at this;cases this
  have key:∀ (G:List z0z),z3t [] (fun _=>undef) w.drew G->∀ p,p∈G->p.1 = []->p.2 (p.1.map (fun _=>undef)) w.drew:=by
   intro G
   induction G with
   | nil=>intro _ p hp;cases hp
   | cons q G ih =>
    intro h p hp hn;cases hs:ze2 q.1 []
    ·simp only[z3t,hs,cond_false]at h;rcases List.mem_cons.1 hp with rfl | hp
     ·rw[hn]at hs;cases hs
     ·exact ih h p hp hn
    ·simp only[z3t,hs,cond_true]at h;rcases List.mem_cons.1 hp with rfl | hp
     ·exact h.1
     ·exact ih h.2 p hp hn
  exact key G h0 p hp hnil
def zd4(P:Program)(ops:Array Oper)(fr:(Nat->Value)->Act)(Q:Exit->Act->World->Prop):Nat->List Oper->(Nat->Value)->World->Prop
 | _,[],vs,w=>Q .normal (fr vs) w
 | m,o::r,vs,w=>rgDo P ops o (fr vs) w fun v w'=>zd4 P ops fr Q (m+1) r (z5j vs m v) w'
theorem z8u{P:Program}{ops:Array Oper}{fr:(Nat->Value)->Act}{Q:Exit->Act->World->Prop}{m:Nat}{o:Oper}{r:List Oper}{vs:Nat->Value}{w:World}(h:rgDo P ops o (fr vs) w fun v w'=>zd4 P ops fr Q (m+1) r (z5j vs m v) w'):zd4 P ops fr Q m (o::r) vs w:=h
theorem zmo{P:Program}{ops:Array Oper}{fr:(Nat->Value)->Act}{Q:Exit->Act->World->Prop}{m:Nat}{vs:Nat->Value}{w:World}(h:Q .normal (fr vs) w):zd4 P ops fr Q m [] vs w:=h
def zqs(pr:List (List Nat))(n size:Nat):Bool:=(List.range size).all fun t=>decide (t<n)||(List.range t).all fun j=>(pr.getD t []).contains j
theorem zdc{pr:List (List Nat)}{n size:Nat}(h:zqs pr n size=true){t j:Nat}(ht:t<size)(hn:n<=t)(hj:j<t):j∈pr.getD t []:=by
 have h1:=List.all_eq_true.1 h t (List.mem_range.2 ht);rw[Bool.or_eq_true,decide_eq_true_eq]at h1;rcases h1 with h1 | h1
 ·omega
 ·simpa using List.all_eq_true.1 h1 j (List.mem_range.2 hj)
theorem z94{P:Program}{id:Nat}{Q:Exit->Act->World->Prop}{a:Act}{w:World}{l:List Oper}(n:Nat)(pr:List (List Nat))(G:List z0z)(fr:(Nat->Value)->Act)
  (hm:P.follows .mixedOrders=true) (hB:rgB l.toArray pr a.tmps.size=true) (hn:n<l.length) (hfull:zqs pr n l.length=true) (hG:z9p n G=true) (hfr:∀ vs,z14 l a vs=fr vs)
  (hst0:zbb G)
  (h0:z3t [] (fun _=>undef) w.drew G)
  (hs:zge P l.toArray pr G fr 0 (l.take n))
  (hend:∀ vs w,z3t (List.range n) vs w G->zd4 P l.toArray fr Q n (l.drop n) vs w):(Code.region id l.toArray true).wp P Q a w:=by
 refine wp_region_any hm ?_;have hst:=z8w hst0;have hok:=zl2 hB;have hgs:=z8v hG;have hsz:l.toArray.size=l.length:=by simp
 refine z7w hok (fun L vs w=>(L n=false->∀ p∈G,(∀ j∈p.1,L j=true)->p.2 (p.1.map vs) w)/\(L n=true->∃ m,n<m/\(∀ j,j<l.length->(L j=true↔j<m))/\zd4 P l.toArray fr Q m (l.drop m) vs w)) ?_ ?_ l.toArray.size (Array.replicate l.toArray.size false) (fun _=>undef) a w.drew ?_ ?_ ?_
 ·intro i o ho L vs w hI hpre hLi hpost;have hil:i<l.length:=by rw[<- hsz];exact(Array.getElem?_eq_some_iff.1 ho).1
  have hol:l[i]?=some o:=by simpa using ho
  rw[show z14 l.toArray.toList a vs=z14 l a vs from rfl,hfr vs]
  have ex:∀ j,j<l.length->∃ oj,l.toArray[j]?=some oj:=fun j hj=>⟨l[j],by simp[hj]⟩
  by_cases hin:i<n
  ·have hLn:L n=false:=by
    obtain⟨on,hon⟩:=ex n hn;exact hpost n on hon (zdc hfull hn (Nat.le_refl _) hin)
   have hIh:=hI.1 hLn;have hi:=zas hs i o (by rw[List.getElem?_take];simp[hin,hol]);rw[Nat.zero_add]at hi;have hq:∀ q∈G,i∈q.1->(∀ j∈q.1,L j=true\/j=i)->∀ j∈q.1,i∉pr.getD j []:=by
    intro q hq hiq hall j hj hij;obtain⟨oj,hoj⟩:=ex j (Nat.lt_trans (hgs q hq j hj) hn);rcases hall j hj with h1 | h1
    ·rw[hpost j oj hoj hij]at h1;cases h1
    ·subst h1;have hself:∀ (n:Nat),∀ j,j=n->∀ oj,l.toArray[j]?=some oj->∀ k,k∈pr.getD j []->k<j:=by
      intro n
      induction n using Nat.strongRecOn with
      | _ n ih =>
       intro j hjn oj hoj k hk;obtain⟨e,he,hb,hlt,h1⟩:=hok.pre j oj hoj k hk;rcases h1 with rfl | h1
       ·exact hlt
       ·obtain⟨oe,hoe⟩:∃ oe,l.toArray[e.on]?=some oe:=⟨_,Array.getElem?_eq_getElem (by have:=(Array.getElem?_eq_some_iff.1 hoj).1;omega)⟩;have:=ih e.on (by omega) e.on rfl oe hoe k h1;omega
     have:=hself j j rfl oj hoj j hij;omega
   refine hi vs w (z4y fun p hp hm=>hIh p hp fun j hj=>hpre j (hm j hj)) _ fun v w' hk hnw=>⟨fun _ => ?_,fun h => ?_⟩
   ·intro q hqG hall
    by_cases hiq:i∈q.1
    ·refine zgd hnw q hqG hiq (hq q hqG hiq fun j hj => ?_) (z4y fun p hp hm=>hIh p hp fun j hj => ?_)
     ·have:(if j=i then true else L j)=true:=hall j hj
      by_cases hji:j=i
      ·exact .inr hji
      ·rw[if_neg hji]at this;exact .inl this
     ·rcases List.mem_append.1 (hm j hj)with h1 | h1
      ·exact hpre j h1
      ·obtain⟨h2,h3⟩:=List.mem_filter.1 h1;have hji:j≠i:=by simpa using h3
       have:(if j=i then true else L j)=true:=hall j h2
       rwa [if_neg hji]at this
    ·rw[zh0 hiq];have hall':∀ j∈q.1,L j=true:=fun j hj=>by
      have:(if j=i then true else L j)=true:=hall j hj
      rwa [if_neg (fun he=>hiq (by subst he;exact hj))]at this
     rcases hk with hk | hk
     ·exact hst q hqG _ _ _ hk (hIh q hqG hall')
     ·refine zd7 hk q hqG hiq (fun j hj hij => ?_) (hIh q hqG hall') (z4y fun p hp hm=>hIh p hp fun j hj => ?_)
      ·obtain⟨oj,hoj⟩:=ex j (Nat.lt_trans (hgs q hqG j hj) hn);have h1:=hall' j hj;rw[hpost j oj hoj hij]at h1;cases h1
      ·rcases List.mem_append.1 (hm j hj)with h1 | h1
       ·exact hpre j h1
       ·exact hall' j h1
   ·exfalso;have:(if n=i then true else L n)=true:=h;rw[if_neg (by omega),hLn]at this;cases this
  ·have hni:n<=i:=Nat.le_of_not_lt hin;have hpr:∀ j,j<i->L j=true:=fun j hj=>hpre j (zdc hfull hil hni hj)
   have hpo:∀ j,i<=j->j<l.length->L j=false:=fun j hj hjl=>by
    by_cases hji:j=i
    ·subst hji;exact hLi
    ·obtain⟨oj,hoj⟩:=ex j hjl;exact hpost j oj hoj (zdc hfull hjl (by omega) (by omega))
   have hT:zd4 P l.toArray fr Q i (l.drop i) vs w:=by
    by_cases hin':i=n
    ·subst hin';exact hend vs w (z4y fun p hp hm=>hI.1 hLi p hp fun j hj=>hpr j (hgs p hp j hj))
    ·obtain⟨m,_,hm2,hm3⟩:=hI.2 (hpr n (by omega));have h1:¬ i<m:=fun h=>by
      have:=(hm2 i hil).2 h;rw[hLi]at this;cases this
     have h2:m=i:=by
      refine Nat.le_antisymm (Nat.le_of_not_lt h1) ?_;refine Nat.le_of_not_lt fun h => ?_
      have:=(hm2 m (by omega)).1 (hpr m h);omega
     subst h2;exact hm3
   have hd:l.drop i=o::l.drop (i+1):=by
    have h3:l[i]=o:=by
     have:=List.getElem?_eq_getElem hil;rw[this]at hol;exact Option.some.inj hol
    rw[<- h3];exact List.drop_eq_getElem_cons hil
   rw[hd]at hT;refine zdi (fun v w' hv=>⟨fun h => ?_,fun _=>⟨i+1,by omega,fun j hj => ?_,hv⟩⟩) hT
   ·exfalso;have:(if n=i then true else L n)=false:=h
    by_cases hin':n=i
    ·rw[if_pos hin']at this;cases this
    ·rw[if_neg hin',hpr n (by omega)]at this;cases this
   ·show(if j=i then true else L j)=true↔_
    by_cases hji:j=i
    ·rw[if_pos hji];constructor
     ·intro _;omega
     ·intro _;rfl
    ·rw[if_neg hji];constructor
     ·intro h;refine Nat.lt_of_not_le fun h2 => ?_
      rw[hpo j (by omega) hj]at h;cases h
     ·intro h;exact hpr j (by omega)
 ·intro L vs w hI hall;obtain⟨m,_,hm2,hm3⟩:=hI.2 (hall n (by rw[hsz];exact hn));have hge:l.length<=m:=by
   refine Nat.le_of_not_lt fun h => ?_
   have:=(hm2 m h).1 (hall m (by rw[hsz];exact h));omega
  rw[List.drop_eq_nil_of_le hge]at hm3;rw[show z14 l.toArray.toList a vs=z14 l a vs from rfl,hfr vs]
  exact hm3
 ·refine⟨rfl,rfl,fun t ht => ?_,by simp,fun j oj _ hl => ?_⟩
  ·refine(z6t _ _ _ _ _ fun j o hj hd => ?_).symm;have:=ht j o (by simpa using hj) hd;rw[getD_replicate_false]at this;cases this
  ·rw[getD_replicate_false]at hl;cases hl
 ·refine Nat.le_trans (List.length_filter_le _ _) (by simp)
 ·refine⟨fun _ p hp hall => ?_,fun h => ?_⟩
  ·have hnil:p.1 = []:=by
    cases hp1:p.1 with
    | nil=>rfl
    | cons j g =>
     have:(Array.replicate l.toArray.size false).getD j false=true:=hall j (by rw[hp1];simp);rw[getD_replicate_false]at this;cases this
   have key:∀ (G:List z0z),z3t [] (fun _=>undef) w.drew G->∀ p,p∈G->p.1 = []->p.2 (p.1.map (fun _=>undef)) w.drew:=by
    intro G
    induction G with
    | nil=>intro _ p hp;cases hp
    | cons q G ih =>
     intro h p hp hn;cases hs:ze2 q.1 []
     ·simp only[z3t,hs,cond_false]at h;rcases List.mem_cons.1 hp with rfl | hp
      ·rw[hn]at hs;cases hs
      ·exact ih h p hp hn
     ·simp only[z3t,hs,cond_true]at h;rcases List.mem_cons.1 hp with rfl | hp
      ·exact h.1
      ·exact ih h.2 p hp hn
   exact key G h0 p hp hnil
  ·exfalso;have:(Array.replicate l.toArray.size false).getD n false=true:=h;rw[getD_replicate_false]at this;cases this
theorem z0n{P:Program}{ops:Array Oper}{o:Oper}{a:Act}{w:World}{K:Value->World->Prop}{u:Value}(hg:Region.wanted o (yielded ops a.tmps)=true)(h:(execOp a.eval o).run P w= .ok (.value u) w)(hk:K u w):rgDo P ops o a w K:=by
 unfold rgDo;rw[if_pos hg,h];exact hk
theorem zpt{P:Program}{ops:Array Oper}{o:Oper}{a:Act}{w w':World}{K:Value->World->Prop}(hg:Region.wanted o (yielded ops a.tmps)=true)(h:(execOp a.eval o).run P w= .ok .skip w')(hk:K undef w'):rgDo P ops o a w K:=by
 unfold rgDo;rw[if_pos hg,h];exact hk
theorem z7s{P:Program}{ops:Array Oper}{o:Oper}{a:Act}{w w':World}{K:Value->World->Prop}{u:Value}(hg:Region.wanted o (yielded ops a.tmps)=true)(h:(execOp a.eval o).run P w= .ok (.value u) w')(hk:K u w'):rgDo P ops o a w K:=by
 unfold rgDo;rw[if_pos hg,h];exact hk
theorem zwi{P:Program}{ops:Array Oper}{o:Oper}{a:Act}{w:World}{K:Value->World->Prop}{f:FuncId}{args:Array Value}(hg:Region.wanted o (yielded ops a.tmps)=true)(h:(execOp a.eval o).run P w= .ok (.enter f args) w)(hk:Calls P f args w fun e w'=>∃ v,e= .returned v/\K v w'):rgDo P ops o a w K:=by
 unfold rgDo;rw[if_pos hg,h];exact hk
theorem zgj{P:Program}{ops:Array Oper}{o:Oper}{a:Act}{w:World}{K:Value->World->Prop}{ty:TypeId}{x:Operand}{g:Nat}{cs:Array Value}{t:TypeId}{fr:Nat × Nat}(d:TypeDesc)(hg:Region.wanted o (yielded ops a.tmps)=true)(ho:o.op= .load ty x)
  (hx:a.eval x= .pointer (some ⟨g,0,none⟩)) (hr:w.heap[g]?=some (.cells cs t fr))
  (hu:P.underlying ty=some d) (hd:(match d with | .struct _ | .array _ _=>true | _=>false)=true) (hi:(P.info? ty).map (·.size)=some cs.size) (hk:K (.agg cs) w):rgDo P ops o a w K:=by
 refine z0n hg ?_ hk;unfold execOp;simp[ho,hx,Instr.loadAt,Instr.sureAddr,Result.andThen,run_loadVar_row w g t ty cs fr d hr hu hd hi]
theorem zkk{P:Program}{ops:Array Oper}{o:Oper}{a:Act}{w:World}{K:Value->World->Prop}{ty:TypeId}{x y:Operand}{g:Nat}{cs old:Array Value}{t:TypeId}(hgd:Region.wanted o (yielded ops a.tmps)=true)(ho:o.op= .store ty x y)
  (hx:a.eval x= .pointer (some ⟨g,0,none⟩)) (hy:a.eval y= .agg cs) (hg:w.heap[g]?=some (.cells old t (0,0))) (hi:(P.info? ty).map (·.size)=some cs.size)
  (hold:old.size=cs.size) (h1:cs.all (·.oneCell')=true) (hk:K undef (w.setRow g cs)):rgDo P ops o a w K:=by
 refine zpt hgd ?_ hk;unfold execOp;simp only[ho,hx,hy,Instr.storeAt,Instr.sureAddr,Sem.run_bind,Sem.run_pure,Result.andThen_ok,run_storeVar_row w g t ty old cs hg hi hold h1]
abbrev rgP(i N:Nat):z0z:=([i],fun l w'=>∃ p r,l = [.pointer (some ⟨p,0,none⟩)]/\N<=p/\w'.heap[p]?=some (.cells (uL r) 24 (0,0)))
abbrev rgNe(i j:Nat):z0z:=([i,j],fun l _=>∃ p q,l = [.pointer (some ⟨p,0,none⟩),.pointer (some ⟨q,0,none⟩)]/\p≠q)
abbrev rgS(i j:Nat)(q:W4):z0z:=([i,j],fun l w'=>∃ p u,l = [.pointer (some ⟨p,0,none⟩),u]/\w'.heap[p]?=some (.cells (uL q) 24 (0,0)))
theorem zay{i N:Nat}:∀ x w w',Below w.heap.size w w'->(rgP i N).2 x w->(rgP i N).2 x w':=fun _ _ _ hb ⟨p,r,h1,h2,h3⟩=>⟨p,r,h1,h2,(hb.block _ (z02 h3)).trans h3⟩
theorem zb4{i j:Nat}{q:W4}:∀ x w w',Below w.heap.size w w'->(rgS i j q).2 x w->(rgS i j q).2 x w':=fun _ _ _ hb ⟨p,u,h1,h3⟩=>⟨p,u,h1,(hb.block _ (z02 h3)).trans h3⟩
theorem z0e{i:Nat}{v:Value}:∀ x w w',Below w.heap.size w w'->(rgV i v).2 x w->(rgV i v).2 x w':=fun _ _ _ _ h=>h
theorem zwj{i j:Nat}:∀ x w w',Below w.heap.size w w'->(rgNe i j).2 x w->(rgNe i j).2 x w':=fun _ _ _ _ h=>h
theorem zyz(x:W4):(uL x).all (·.oneCell')=true:=by simp[Value.oneCell']
theorem z5y{i N g:Nat}{q:W4}{x:List Value}{w:World}(h:(rgP i N).2 x w):(rgP i N).2 x (w.setRow g (uL q)):=by
 obtain⟨p,r,h1,h2,h3⟩:=h
 by_cases hp:p=g
 ·subst hp;exact⟨p,q,h1,h2,setRow_heap w p _ _ _ _ h3⟩
 ·exact⟨p,r,h1,h2,(setRow_other w g p _ hp).trans h3⟩
theorem zvy{i j g:Nat}{q q':W4}{x:List Value}{w:World}(h:(rgS i j q).2 x w)(hne:∀ p u,x = [.pointer (some ⟨p,0,none⟩),u]->p≠g):(rgS i j q).2 x (w.setRow g (uL q')):=by
 obtain⟨p,u,h1,h3⟩:=h;exact⟨p,u,h1,(setRow_other w g p _ (hne p u h1)).trans h3⟩
theorem zvi{i j a b:Nat}{x:List Value}{w:World}(h:(rgNe i j).2 x w)(he:x = [.pointer (some ⟨a,0,none⟩),.pointer (some ⟨b,0,none⟩)]):a≠b:=by
 obtain⟨p,q,h1,h2⟩:=h;rw[he]at h1;cases h1;exact h2
theorem zr5{i j N:Nat}{u:Value}{w w':World}(h:(rgP j N).2 [u] w):(rgNe i j).2 [.pointer (some ⟨w.heap.size,0,none⟩),u] w':=by
 obtain⟨p,r,h1,h2,h3⟩:=h;exact⟨_,p,by rw[rg1 h1],Ne.symm (Nat.ne_of_lt (z02 h3))⟩
theorem zrr{i j N:Nat}{u:Value}{w w':World}(h:(rgP i N).2 [u] w):(rgNe i j).2 [u,.pointer (some ⟨w.heap.size,0,none⟩)] w':=by
 obtain⟨p,r,h1,h2,h3⟩:=h;exact⟨p,_,by rw[rg1 h1],Nat.ne_of_lt (z02 h3)⟩
theorem zb6{i j p:Nat}{q:W4}{a b:Value}{w:World}(h:(rgS i j q).2 [a,b] w)(ha:a= .pointer (some ⟨p,0,none⟩)):w.heap[p]?=some (.cells (uL q) 24 (0,0)):=by
 obtain⟨p',u,h1,h3⟩:=h;rw[ha]at h1;cases h1;exact h3
abbrev rgR(i g:Nat)(q:W4):z0z:=([i],fun _ w'=>w'.heap[g]?=some (.cells (uL q) 24 (0,0)))
theorem zxh{i g:Nat}{q:W4}:∀ x w w',Below w.heap.size w w'->(rgR i g q).2 x w->(rgR i g q).2 x w':=fun _ _ _ hb h3=>(hb.block _ (z02 h3)).trans h3
theorem z0p{ops:Array Oper}{o:Oper}{a:Act}{w:World}{K:Value->World->Prop}{x:Operand}{g:Nat}{r:W4}(hg:Region.wanted o (yielded ops a.tmps)=true)(ho:o.op= .load 24 x)
  (hx:a.eval x= .pointer (some ⟨g,0,none⟩)) (hr:w.heap[g]?=some (.cells (uL r) 24 (0,0))) (hk:K (uV r) w):rgDo Tryz.prog ops o a w K:=
 zgj _ hg ho hx hr Tryz.underlying24 rfl (by kernel_rfl) hk
theorem z2v{ops:Array Oper}{o:Oper}{a:Act}{w:World}{K:Value->World->Prop}{x y:Operand}{g:Nat}{q r:W4}(hgd:Region.wanted o (yielded ops a.tmps)=true)(ho:o.op= .store 24 x y)
  (hx:a.eval x= .pointer (some ⟨g,0,none⟩)) (hy:a.eval y=uV q) (hg:w.heap[g]?=some (.cells (uL r) 24 (0,0))) (hk:K undef (w.setRow g (uL q))):rgDo Tryz.prog ops o a w K:=
 zkk hgd ho hx hy hg (by kernel_rfl) rfl (zyz q) hk
theorem zmq(w:World):(Instr.alloc 24 true (.tuple #[])).run Tryz.prog w= .ok (.pointer (some ⟨w.heap.size,0,none⟩)) (w.alloc (.cells (uL (0,0,0,0)) 24)):=by
 go_simp
 rfl
theorem z4n{ops:Array Oper}{o:Oper}{a:Act}{w:World}{K:Value->World->Prop}(hgd:Region.wanted o (yielded ops a.tmps)=true)(ho:o.op= .alloc 24) (hk:K (.pointer (some ⟨w.heap.size,0,none⟩)) (w.alloc (.cells (uL (0,0,0,0)) 24))):rgDo Tryz.prog ops o a w K:=by
 refine z7s hgd ?_ hk;unfold execOp;simp[ho,zmq,Result.andThen]
theorem z0a{P:Program}{ops:Array Oper}{o:Oper}{a:Act}{w:World}{K:Value->World->Prop}{x:Operand}{v:Value}(hg:Region.wanted o (yielded ops a.tmps)=true)(ho:o.op= .move x\/o.op= .assign x)(hx:a.eval x=v)(hk:K v w):rgDo P ops o a w K:=by
 refine z0n hg ?_ hk;unfold execOp;rcases ho with ho | ho<;>simp[ho,hx]
theorem z0x{P:Program}{ops:Array Oper}{o:Oper}{a:Act}{w:World}{K:Value->World->Prop}{x:Operand}{n:Nat}{vs:Array Value}{v:Value}(hg:Region.wanted o (yielded ops a.tmps)=true)(ho:o.op= .extract x n)(hx:a.eval x= .tuple vs)(hn:vs[n]?=some v)(hk:K v w):rgDo P ops o a w K:=by
 refine z0n hg ?_ hk;unfold execOp;simp[ho,hx,Instr.extract,hn]
def rgFn(P:Program)(f:FuncId):Bool:=match P.funcs[f]? with
 | some fn => !(fn.name == "runtime.NumGoroutine") && !fn.body.isNone
 | none=>false
theorem zur{P:Program}{f:FuncId}(h:rgFn P f=true)(args:Array Value)(w:World):(callFunc f args).run P w= .ok (.enter f args) w:=by
 unfold rgFn at h;split at h
 ·rename_i fn hf;simp only[Bool.and_eq_true,Bool.not_eq_true']at h;have h1 : fn.name ≠ "runtime.NumGoroutine" := by simpa using h.1
  have h2:fn.body≠none:=by intro e;rw[e]at h;exact absurd h.2 (by decide)
  simp[callFunc,hf,h1,h2]
 ·cases h
theorem z4w{P:Program}{ops:Array Oper}{o:Oper}{a:Act}{w:World}{K:Value->World->Prop}{c:Call}{f:FuncId}{args:List Value}(hg:Region.wanted o (yielded ops a.tmps)=true)(ho:o.op= .call c)(hc:c.callee= .value (.func f))(hf:rgFn P f=true)(ha:c.args.toList.map a.eval=args)
  (hk:Calls P f args.toArray w fun e w'=>∃ v,e= .returned v/\K v w'):rgDo P ops o a w K:=by
 refine zwi hg ?_ hk;have ha':c.args.map a.eval=args.toArray:=by rw[<- ha,<- Array.toList_map]
 unfold execOp;simp[ho,resolve,hc,ha',Act.eval,Deferred.ofValue,invoke,zur hf]
structure VAt (w:World) (l:List W4) (wr:World):Prop where
 b:Below w.heap.size w wr
 r:∀ (i:Nat) (x:W4),l[i]?=some x->wr.heap[w.heap.size+i]?=some (.cells (uL x) 24 (0,0))
def zkd(w:World):List W4->World
 | []=>w
 | x::l=>zkd (w.alloc (.cells (uL x) 24)) l
theorem zbq:∀ (l:List W4) (w:World),Below w.heap.size w (zkd w l)/\∀ (i:Nat) (x:W4),l[i]?=some x->(zkd w l).heap[w.heap.size+i]?=some (.cells (uL x) 24 (0,0))
 | [],w=>⟨Below.refl _ _,fun i x h=>by simp at h⟩
 | y::l,w=>by
  obtain⟨h1,h2⟩:=zbq l (w.alloc (.cells (uL y) 24))
  rw[World.size_alloc]at h1 h2
  refine⟨(z00 zb _).trans (h1.mono (Nat.le_succ _)),fun i x h => ?_⟩
  match i,h with
  | 0,h =>
   simp only[List.getElem?_cons_zero,Option.some.injEq]at h
   subst h
   exact(h1.block _ (Nat.lt_succ_self _)).trans (heap_alloc_new w _)
  | i+1,h =>
   have:=h2 i x (by simpa using h)
   rwa [show w.heap.size+1+i=w.heap.size+(i+1)by omega]at this
theorem VAt.start(w:World)(l:List W4):VAt w l (zkd w l):=⟨(zbq l w).1,(zbq l w).2⟩
theorem VAt.below{w wr w':World}{l:List W4}(h:VAt w l wr)(hb:Below wr.heap.size wr w'):VAt w l w':=
 ⟨z0b h.b hb,fun i x hx=>(hb.block _ (z02 (h.r i x hx))).trans (h.r i x hx)⟩
theorem VAt.drew{w wr:World}{l:List W4}(h:VAt w l wr):VAt w l wr.drew:=⟨z0h h.b,h.r⟩
theorem VAt.less{w wr:World}{l:List W4}(h:VAt w l wr){l':List W4}(hl:∀ (i:Nat) (x:W4),l'[i]?=some x->l[i]?=some x):VAt w l' wr:=⟨h.b,fun i x hx=>h.r i x (hl i x hx)⟩
structure VR (w:World) (l:List W4) (n:Nat) (wr:World):Prop where
 at':VAt w l wr
 z:∃ z,wr.heap[w.heap.size+n]?=some (.cells (uL z) 24 (0,0))
 n:l.length<=n
theorem VAt.vr{w wr:World}{l:List W4}{z:W4}(h:VAt w (l ++ [z]) wr):VR w l l.length wr:=
 ⟨h.less fun i x hx=>by rw[List.getElem?_append_left (List.getElem?_eq_some_iff.1 hx).1];exact hx,⟨z,h.r l.length z (by simp)⟩,Nat.le_refl _⟩
theorem VR.b{w wr:World}{l:List W4}{n:Nat}(h:VR w l n wr):Below w.heap.size w wr:=h.at'.b
theorem VR.below{w wr w':World}{l:List W4}{n:Nat}(h:VR w l n wr)(hb:Below wr.heap.size wr w'):VR w l n w':=
 ⟨h.at'.below hb,⟨h.z.choose,(hb.block _ (z02 h.z.choose_spec)).trans h.z.choose_spec⟩,h.n⟩
theorem VR.res{w wr:World}{l:List W4}{n:Nat}(h:VR w l n wr)(q:W4):Below w.heap.size w ((((wr.setCell ⟨w.heap.size+n,0,none⟩ (.int .u64 q.1)).setCell ⟨w.heap.size+n,1,none⟩ (.int .u64 q.2.1)).setCell ⟨w.heap.size+n,2,none⟩ (.int .u64 q.2.2.1)).setCell ⟨w.heap.size+n,3,none⟩ (.int .u64 q.2.2.2)) /\
  ((((wr.setCell ⟨w.heap.size+n,0,none⟩ (.int .u64 q.1)).setCell ⟨w.heap.size+n,1,none⟩ (.int .u64 q.2.1)).setCell ⟨w.heap.size+n,2,none⟩ (.int .u64 q.2.2.1)).setCell ⟨w.heap.size+n,3,none⟩ (.int .u64 q.2.2.2)).heap[w.heap.size+n]?=some (.cells (uL q) 24 (0,0)):=
 ⟨z0f h.b (by omega) _ _ _ _,Proofs.YtnkilceibkkjlaaGreat.put4 h.z.choose_spec q⟩
theorem VR.zc{w wr:World}{l:List W4}{n:Nat}(h:VR w l n wr):∃ z:W4,wr.cell? ⟨w.heap.size+n,0,none⟩=some (.int .u64 z.1)/\wr.cell? ⟨w.heap.size+n,1,none⟩=some (.int .u64 z.2.1)/\wr.cell? ⟨w.heap.size+n,2,none⟩=some (.int .u64 z.2.2.1)/\wr.cell? ⟨w.heap.size+n,3,none⟩=some (.int .u64 z.2.2.2) /\
  wr.frozen? ⟨w.heap.size+n,0,none⟩=false/\wr.frozen? ⟨w.heap.size+n,1,none⟩=false/\wr.frozen? ⟨w.heap.size+n,2,none⟩=false/\wr.frozen? ⟨w.heap.size+n,3,none⟩=false:=⟨h.z.choose,row4 h.z.choose_spec⟩
structure VP (w:World) (l:List W4) (n:Nat) (ps:List (Nat × W4)) (wr:World):Prop where
 vr:VR w l n wr
 p:∀ (g:Nat) (x:W4),(g,x)∈ps->w.heap.size+n<g/\wr.heap[g]?=some (.cells (uL x) 24 (0,0))
theorem VR.vp{w wr:World}{l:List W4}{n:Nat}(h:VR w l n wr):VP w l n [] wr:=⟨h,fun g x hx=>by cases hx⟩
theorem VP.b{w wr:World}{l:List W4}{n:Nat}{ps:List (Nat × W4)}(h:VP w l n ps wr):Below w.heap.size w wr:=h.vr.b
theorem VP.below{w wr w':World}{l:List W4}{n:Nat}{ps:List (Nat × W4)}(h:VP w l n ps wr)(hb:Below wr.heap.size wr w'):VP w l n ps w':=
 ⟨h.vr.below hb,fun g x hx=>⟨(h.p g x hx).1,(hb.block _ (z02 (h.p g x hx).2)).trans (h.p g x hx).2⟩⟩
theorem z0l{ops:Array Oper}{o:Oper}{a:Act}{j:Nat}{want:Bool}{d:Tmp}{v:Value}(hg:o.guard=some (j,want))(hd:(ops[j]?).bind (·.dst)=some d)(hv:a.tmps[d]?=some v)(hb:v= .bool want):Region.wanted o (yielded ops a.tmps)=true:=by
 subst hb;unfold Region.wanted yielded;simp[hg,hd,hv]
theorem z7r{P:Program}{ops:Array Oper}{o:Oper}{a:Act}{w:World}{K:Value->World->Prop}{c x y:Operand}{b:Bool}{v:Value}(hg:Region.wanted o (yielded ops a.tmps)=true)(ho:o.op= .pick c x y)(hc:a.eval c= .bool b)(hv:(if b then a.eval x else a.eval y)=v)(hk:K v w):rgDo P ops o a w K:=by
 refine z0n hg ?_ hk;unfold execOp;cases b<;>simp[ho,hc,asBool]at hv ⊢ <;> rw[hv]
theorem zuj{P:Program}{ops:Array Oper}{o:Oper}{a:Act}{w:World}{K:Value->World->Prop}{t:TypeId}{x:Operand}{b:Bool}(hg:Region.wanted o (yielded ops a.tmps)=true)(ho:o.op= .unOp .not t x)(hx:a.eval x= .bool b)(hk:K (.bool (!b)) w):rgDo P ops o a w K:=by
 refine z0n hg ?_ hk;unfold execOp;cases b<;>simp[ho,hx,Op.unary]
theorem zuy{ops:Array Oper}{o:Oper}{a:Act}{w:World}{K:Value->World->Prop}{x:Operand}{n:Int}{c:Bool}(hg:Region.wanted o (yielded ops a.tmps)=true)(ho:o.op= .binOp .leq 3 x (.const (.int .i64 0)) 3)(hx:a.eval x= .int .i64 n)(hc:decide (n<=0)=c)(hk:K (.bool c) w):rgDo Tryz.prog ops o a w K:=by
 refine z0n hg ?_ hk;unfold execOp;simp only[ho,hx];subst hc
 go_simp
theorem zs9{ops:Array Oper}{o:Oper}{a:Act}{w:World}{K:Value->World->Prop}{x y:Operand}{m n:Int}(hg:Region.wanted o (yielded ops a.tmps)=true)(ho:o.op= .buildSlice 75 2 #[(0,x),(1,y)])(hx:a.eval x= .int .i64 m)(hy:a.eval y= .int .i64 n)
  (hk:K (.slice (some ⟨w.heap.size,0,none⟩) 2 2) (w.alloc (.cells #[.int .i64 m,.int .i64 n] 3))):rgDo Tryz.prog ops o a w K:=by
 refine z7s hg ?_ hk;unfold execOp;simp only[ho,hx,hy,List.map_toArray,List.map_cons,List.map_nil]
 go_simp
end Go.Proofs.YtnkilceibkkjlaaGreat
