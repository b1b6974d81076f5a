/- What is proved here: alloc.Sum where no store was made. I -/
import Derived.OrdersHeld
import Derived.OrdersIn
import Derived.Test.YtnkilceibkkjlaaGreatJFqD
set_option maxRecDepth 100000
set_option maxHeartbeats 16000000
namespace Go.Proofs.YtnkilceibkkjlaaGreat
open Go.RowKit Go.Shelf
attribute [local go_sem] Oper.semAt_some
theorem zi9(q:Option Addr)(t a b:Int)(w:World):Calls Tryz.prog 89 #[.pointer q,.int .i64 t,.int .i64 a,.int .i64 b] w fun e w' =>
  e= .returned (.func (.func 158) #[] #[.pointer (some ⟨w.heap.size,0,none⟩),.pointer (some ⟨w.heap.size+1,0,none⟩),.pointer (some ⟨w.heap.size+1+1,0,none⟩),.pointer (some ⟨w.heap.size+1+1+1,0,none⟩)])/\w'=(((w.alloc (.cells #[.pointer q] 39)).alloc (.cells #[.int .i64 t] 3)).alloc (.cells #[.int .i64 a] 3)).alloc (.cells #[.int .i64 b] 3):=by
 go_enter Tryz.func89,Tryz.ntmps89;go_wp2_with fail;go_ret;exact⟨rfl,rfl⟩
structure q0t (w:World) (q:Option Addr) (W:World):Prop where
 b:Below w.heap.size w W
 no:z4m W q
 box:Boxed W w.heap.size 39 (.pointer q)
 r6:W.heap[w.heap.size+1]?=some (.cells (uL (0,0,0,0)) 24 (0,0))
 r7:W.heap[w.heap.size+1+1]?=some (.cells (uL (0,0,0,0)) 24 (0,0))
open Go
section
variable {F:Fence} {n:Nat} {P:Program} {ops:Array Oper} {Q:Exit->Act->World->Prop} {md:Region.Mode} {S:World->Prop}
def z5y(P:Program)(ops:Array Oper)(S:World->Prop)(o:Oper)(v:Value)(a:Act):Prop:=YieldsIf P ops S o v a/\∀ w,o.about P w a.eval=none
theorem z5y.go{i:Nat}{o:Oper}{v:Value}{a:Act}(hro:F.round=none)(hi:ops[i]?=some o)(hy:z5y P ops S o v a){K:Act->World->Prop}{w:World}(hS:S w)(h:K (a.put o.dst v) w):wpOpIn F n P ops Q i K a w:=by
 have hab:∀ f,o.about P w a.eval=some f->F.fn f:=fun f hf=>by rw[hy.2 w]at hf;cases hf
 unfold wpOpIn;simp only[hi];rcases hy.1 with⟨hw,hv⟩ | ⟨hw,rfl⟩
 ·simp only[hw,if_true,Oper.wpIn,hro,Oper.semAt_none,hv w hS,Oper.uponIn];exact⟨hab,h⟩
 ·simp only[hw,Bool.false_eq_true,if_false];exact⟨hab,h⟩
theorem z5y.same{o:Oper}{v:Value}{a a':Act}(hy:z5y P ops S o v a)(he:execOp a'.eval o=execOp a.eval o)(hw:Region.wanted o (yielded ops a'.tmps)=Region.wanted o (yielded ops a.tmps))(hb:∀ w,o.about P w a'.eval=o.about P w a.eval):z5y P ops S o v a':=
 ⟨hy.1.of_same he hw,fun w=>by rw[hb w];exact hy.2 w⟩
theorem putS{j:Nat}{oi oj:Oper}{v:Value}(hro:F.round=none)(hj:ops[j]?=some oj)(hap:oi.apart ops oj=true)(hsi:∀ cs b,oi.op ≠ .select cs b)(hsj:∀ cs b,oj.op ≠ .select cs b)
  (hQ:∀ c a w,Q (.panic c) (a.put oi.dst v) w->Q (.panic c) a w) {K:Act->World->Prop} {a:Act} {w:World} (hy:z5y P ops S oi v a) (h:wpOpIn F n P ops Q j K (a.put oi.dst v) w) :
  wpOpIn F n P ops Q j (fun a' w'=>z5y P ops S oi v a'/\K (a'.put oi.dst v) w') a w:=by
 obtain⟨h1,h2,h3⟩:=Oper.apart_spec hap;have keep:∀ (a:Act),z5y P ops S oi v a->∀ u,z5y P ops S oi v (a.put oj.dst u):=fun a hy u =>
  hy.same (execOp_put oi hsi a oj.dst u h3) (wanted_put oi a oj.dst u h3) (fun w=>about_put oi w a oj.dst u h3)
 unfold wpOpIn at *
 simp only[hj]at *
 rw[wanted_put oj a oi.dst v h1,about_put oj w a oi.dst v h1]at h;split
 ·rename_i hw;simp only[hw,if_true]at h;unfold Oper.wpIn at *
  rw[about_put oj w a oi.dst v h1,hro,Oper.semAt_none,execOp_put oj hsj a oi.dst v h1]at h;obtain⟨hA,h⟩:=h;refine⟨hA,?_⟩;rw[hro,Oper.semAt_none];generalize (execOp a.eval oj).run P w=r at *
  cases r with
  | halt x w' =>
   cases x<;>simp only[Oper.uponIn]at h ⊢
   case panic u=>exact hQ _ _ _ h
  | ok x w' =>
   cases x<;>simp only[Oper.uponIn]at h ⊢
   case value u=>exact⟨keep a hy u,by rw[<- Act.put_comm a v u h2];exact h⟩
   case skip=>exact⟨keep a hy _,by rw[<- Act.put_comm a v undef h2];exact h⟩
   case defer d =>
    refine⟨keep _ (hy.same (a':={ a with defers:=d::a.defers }) rfl rfl (fun _=>rfl)) _,?_⟩;rw[<- Act.put_comm _ v undef h2,<- Act.put_defers];exact h
   case enter f args =>
    refine⟨h.1,CallsIn.mono h.2 fun e w'' he => ?_⟩;cases e with
    | returned u=>exact⟨keep a hy u,by rw[<- Act.put_comm a v u h2];exact he⟩
    | panicked c=>exact hQ _ _ _ he
    | outgrown=>exact he
   case row row args=>exact⟨h.1,RowsIn.mono h.2 fun u w'' he=>⟨keep a hy u,by rw[<- Act.put_comm a v u h2];exact he⟩⟩
   case round l f tmps assign body =>
    refine⟨h.1,RoundIn.mono h.2 fun e w'' he => ?_⟩;cases e with
    | returned u=>exact⟨keep a hy u,by rw[<- Act.put_comm a v u h2];exact he⟩
    | panicked c=>exact hQ _ _ _ he
    | outgrown=>exact he
 ·rename_i hw;simp only[hw]at h;exact⟨h.1,keep a hy _,by rw[<- Act.put_comm a v undef h2];exact h.2⟩
def AnyS(F:Fence)(n:Nat)(P:Program)(md:Region.Mode)(ops:Array Oper)(Q:Exit->Act->World->Prop)(keep:Nat->Bool)(S:World->Prop):Nat->Array Bool->Act->World->Prop
 | 0,listed,a,w=>Region.ready md ops listed = []/\Q .normal a w
 | fuel+1,listed,a,w =>
  (Region.ready md ops listed = []->Q .normal a w) /\
  ∀ i∈Region.ready md ops listed,wpOpIn F n P ops Q i (fun a' w'=>(keep i=true->S w')/\AnyS F n P md ops Q keep S fuel (listed.setIfInBounds i true) a' w') a w
variable {keep:Nat->Bool}
theorem zq6:∀ (fuel:Nat) (listed:Array Bool) (a:Act) (w:World),AnyS F n P md ops Q keep S fuel listed a w->wpAnyIn F n P md ops Q fuel listed a w
 | 0,_,_,_,h=>h
 | fuel+1,_,_,_,h=>⟨h.1,fun i hi=>wpOpIn_mono (fun a' w' h'=>zq6 fuel _ a' w' h'.2) (h.2 i hi)⟩
inductive ze6 (md:Region.Mode) (ops:Array Oper) (listed:Array Bool) (i:Nat):Oper->Prop
 | here {oj:Oper} {e:Edge} (he:e∈oj.after) (hb:Region.binds md e=true) (h:e.on=i):ze6 md ops listed i oj
 | there {oj o2:Oper} {e:Edge} (he:e∈oj.after) (hb:Region.binds md e=true) (h:listed.getD e.on true=false) (ho:ops[e.on]?=some o2) (hw:ze6 md ops listed i o2):ze6 md ops listed i oj
def zl5(md:Region.Mode)(ops:Array Oper)(listed:Array Bool)(i:Nat):Nat->Oper->Bool
 | 0,_=>false
 | fuel+1,oj=>oj.after.toList.any fun e=>Region.binds md e&&(e.on==i||(!listed.getD e.on true&&match ops[e.on]? with
  | some o2=>zl5 md ops listed i fuel o2
  | none=>false))
theorem zc5{listed:Array Bool}{i:Nat}:∀ (fuel:Nat) (oj:Oper),zl5 md ops listed i fuel oj=true->ze6 md ops listed i oj
 | 0,_,h=>by cases h
 | fuel+1,oj,h=>by
  unfold zl5 at h
  simp only[List.any_eq_true,Bool.and_eq_true,Bool.or_eq_true,beq_iff_eq,Bool.not_eq_true']at h
  obtain⟨e,he,hb,h2⟩:=h
  rcases h2 with h2 | ⟨h2,h3⟩
  ·exact .here (Array.mem_toList_iff.1 he) hb h2
  ·cases ho:ops[e.on]? with
   | none=>rw[ho]at h3;cases h3
   | some o2 =>
    rw[ho]at h3
    exact .there (Array.mem_toList_iff.1 he) hb h2 ho (zc5 fuel o2 h3)
def zz4(md:Region.Mode)(ops:Array Oper)(keep:Nat->Bool)(listed:Array Bool)(i:Nat):Bool:=(List.range ops.size).all fun j=>j==i||listed.getD j true||keep j||match ops[j]? with
 | some oj=>zl5 md ops listed i ops.size oj
 | none=>true
theorem zmo{listed:Array Bool}{i:Nat}(h:zz4 md ops keep listed i=true)(j:Nat)(oj:Oper)(hj:ops[j]?=some oj)(hji:j≠i)(hl:listed.getD j true=false):keep j=true\/ze6 md ops listed i oj:=by
 have hlt:j<ops.size:=(Array.getElem?_eq_some_iff.1 hj).1;have:=List.all_eq_true.1 h j (List.mem_range.2 hlt);simp only[Bool.or_eq_true,beq_iff_eq,hl,Bool.false_eq_true,or_false,hj]at this;rcases this with(h1 | h1) | h1
 ·exact absurd h1 hji
 ·exact .inl h1
 ·exact .inr (zc5 _ _ h1)
theorem z7l{listed:Array Bool}{k:Nat}(h1:listed.getD k false=true)(h0:listed.getD k true=false):False:=by
 rcases Nat.lt_or_ge k listed.size with h' | h'
 ·simp[h']at h0 h1;rw[h0]at h1;cases h1
 ·simp[Array.getElem?_eq_none h']at h1
theorem zex{listed:Array Bool}{i j:Nat}{oj:Oper}(hoj:ops[j]?=some oj)(hi:i∈Region.ready md ops listed)(hj:j∈Region.ready md ops listed)(h:ze6 md ops listed i oj):False:=by
 obtain⟨_,oj',hoj',hall⟩:=mem_ready.1 hj;rw[hoj]at hoj';cases hoj';have h0:=(mem_ready.1 hi).1;cases h with
 | here he hb h1=>exact z7l (hall _ he hb) (h1▸h0)
 | there he hb h1 _ _=>exact z7l (hall _ he hb) h1
theorem ze6.later{listed:Array Bool}{i j:Nat}{ok:Oper}(hi:i∈Region.ready md ops listed)(hj:j∈Region.ready md ops listed)(h:ze6 md ops listed i ok):ze6 md ops (listed.setIfInBounds j true) i ok:=by
 induction h with
 | here he hb h1=>exact .here he hb h1
 | there he hb h1 ho hw ih =>
  refine .there he hb ?_ ho ih;rw[getD_set_ne true fun e => ?_]
  ·exact h1
  ·subst e;exact zex ho hi hj hw
theorem zmv{i:Nat}{oi:Oper}{v:Value}(hro:F.round=none)(hi:ops[i]?=some oi)(hsel:∀ (j:Nat) (o:Oper) cs b,ops[j]?=some o->o.op ≠ .select cs b)(hQ:∀ c a w,Q (.panic c) (a.put oi.dst v) w->Q (.panic c) a w) :
  ∀ (fuel:Nat) (listed:Array Bool) (a:Act) (w:World),(∀ j oj,ops[j]?=some oj->j≠i->listed.getD j true=false->(∀ e∈oj.after,Region.binds md e=true->e.on≠i)->oi.apart ops oj=true) ->
   (∀ j oj,ops[j]?=some oj->j≠i->listed.getD j true=false->keep j=true\/ze6 md ops listed i oj) ->
   i∈Region.ready md ops listed->z5y P ops S oi v a->S w->AnyS F n P md ops Q keep S fuel (listed.setIfInBounds i true) (a.put oi.dst v) w->AnyS F n P md ops Q keep S (fuel+1) listed a w:=by
 intro fuel
 induction fuel with
 | zero =>
  intro listed a w _ _ hr hy hS H;refine⟨fun h=>(by rw[h]at hr;cases hr),fun j hj => ?_⟩
  by_cases hji:j=i
  ·subst hji;exact hy.go hro hi hS ⟨fun _=>hS,H⟩
  ·have:=ready_mono hj hji;rw[H.1]at this;cases this
 | succ fuel ih =>
  intro listed a w hfree hkept hr hy hS H;refine⟨fun h=>(by rw[h]at hr;cases hr),fun j hj => ?_⟩
  by_cases hji:j=i
  ·subst hji;exact hy.go hro hi hS ⟨fun _=>hS,H⟩
  obtain⟨hjun,oj,hoj,hall⟩:=mem_ready.1 hj;have hnot:∀ e∈oj.after,Region.binds md e=true->e.on≠i:=fun e he hb heq=>z7l (hall e he hb) (heq▸(mem_ready.1 hr).1)
  have hkj:keep j=true:=(hkept j oj hoj hji hjun).resolve_right fun h=>zex hoj hr hj h
  refine wpOpIn_mono (fun a' w' h3=>⟨h3.2.1,ih (listed.setIfInBounds j true) a' w' (fun k ok hk hki hun hno => ?_) (fun k ok hk hki hun => ?_) (ready_mono hr (Ne.symm hji)) h3.1 (h3.2.1 hkj) ?_⟩)
   (putS hro hoj (hfree j oj hoj hji hjun hnot) (fun cs b=>hsel i oi cs b hi) (fun cs b=>hsel j oj cs b hoj) hQ hy (H.2 j (ready_mono hj hji)))
  ·refine hfree k ok hk hki ?_ hno
   by_cases hjk:j=k
   ·subst hjk;exact hjun
   ·rw[getD_set_ne true hjk]at hun;exact hun
  ·have hun':listed.getD k true=false:=by
    by_cases hjk:j=k
    ·subst hjk;exact hjun
    ·rw[getD_set_ne true hjk]at hun;exact hun
   exact(hkept k ok hk hki hun').imp id fun h1=>h1.later hr hj
  ·rw[Array.setIfInBounds_comm _ _ hji];exact h3.2.2
theorem z15{i:Nat}{oi:Oper}{v:Value}{fuel:Nat}{listed:Array Bool}{a:Act}{w:World}(hro:F.round=none)(hi:ops[i]?=some oi)
  (hs:Region.noSelect ops=true) (hf:Region.free md ops listed i=true) (hk:zz4 md ops keep listed i=true) (hr:(Region.ready md ops listed).contains i=true) (hQ:∀ c a w,Q (.panic c) (a.put oi.dst v) w->Q (.panic c) a w)
  (hw:Region.wanted oi (yielded ops a.tmps)=true) (hab:∀ w,oi.about P w a.eval=none) (hy:∀ w,S w->(execOp a.eval oi).run P w= .ok (.value v) w) (hS:S w)
  (h:AnyS F n P md ops Q keep S fuel (listed.setIfInBounds i true) (a.put oi.dst v) w):AnyS F n P md ops Q keep S (fuel+1) listed a w:=
 zmv hro hi (Region.noSelect_spec hs) hQ fuel listed a w (Region.free_spec hi hf) (zmo hk) (by simpa using hr) ⟨.inl ⟨hw,hy⟩,hab⟩ hS h
theorem zg7{i:Nat}{o:Oper}{fuel:Nat}{listed:Array Bool}{a:Act}{w:World}(ho:ops[i]?=some o)(hr:Region.ready md ops listed = [i])(hw:Region.wanted o (yielded ops a.tmps)=true)
  (h:∀ K:Act->World->Prop,(∀ a w,(keep i=true->S w)->AnyS F n P md ops Q keep S fuel (listed.setIfInBounds i true) a w->K a w)->Oper.wpIn F n P o a w K Q):AnyS F n P md ops Q keep S (fuel+1) listed a w:=by
 refine⟨fun h0=>(by rw[hr]at h0;cases h0),fun j hj => ?_⟩;rw[hr]at hj;obtain rfl:=List.mem_singleton.1 hj;refine wpOpIn_step ho fun K hK => ?_
 rw[if_pos hw];exact h K fun a w h1 h2=>hK a w ⟨h1,h2⟩
theorem zrb{listed:Array Bool}{a:Act}{w:World}(hr:Region.ready md ops listed = [])(h:Q .normal a w):∀ fuel,AnyS F n P md ops Q keep S fuel listed a w
 | 0=>⟨hr,h⟩
 | _+1=>⟨fun _=>h,by rw[hr];simp⟩
theorem zk0{id:Nat}{a:Act}{w:World}(keep:Nat->Bool)(S:World->Prop)(hm:P.follows .mixedOrders=true)(h:AnyS F n P .any ops Q keep S ops.size (Array.replicate ops.size false) a w.drew):(Code.region id ops true).wpIn F n P Q a w:=
 wpIn_region_any hm (zq6 _ _ _ _ h)
end
attribute [local go_sem] Oper.semAt_some
def KpP(n₀:Nat)(A B:World):Prop:=Below n₀ A B/\∀ (k:Nat) (cs:Array Value) f,A.heap[k]?=some (Obj.cells cs 156 f)->B.heap[k]?=A.heap[k]?
theorem KpP.refl(n₀:Nat)(A:World):KpP n₀ A A:=⟨Below.refl _ _,fun _ _ _ _=>rfl⟩
theorem KpP.trans{n₀:Nat}{A B C:World}(h:KpP n₀ A B)(k:KpP n₀ B C):KpP n₀ A C:=
 ⟨h.1.trans k.1,fun j cs f hj=>(k.2 j cs f (by rw[h.2 j cs f hj];exact hj)).trans (h.2 j cs f hj)⟩
theorem KpP.turn{n₀:Nat}{w:World}(hn:n₀<=w.heap.size)(W:World)(l:Nat)(o o':Obj)(hl:w.heap.size<=l)(h:W.heap[l]?=some o)(hc:o.isCells=false)(hw:o.isWalk=false):KpP n₀ W (W.putObj l o'):=
 ⟨belowK_b hn W l o o' hl h hc hw,fun k cs f hk=>by
  refine World.putObj_heap_other fun e => ?_
  subst e
  rw[h]at hk
  cases hk
  cases hc⟩
theorem KpP.of_below{n₀:Nat}{A B:World}(h:Below A.heap.size A B)(hn:n₀<=A.heap.size):KpP n₀ A B:=
 ⟨h.mono hn,fun k _ _ hk=>h.block k (Array.getElem?_eq_some_iff.1 hk).1⟩
theorem KpP.own{n₀:Nat}{A B:World}(h:KpP n₀ A B){size:Nat}{v:Value}{n:Nat}{xs:List Value}(ho:Own A 156 size v n xs):Own B 156 size v n xs:=by
 refine⟨ho.1,?_⟩;rcases ho.2 with h0 | ⟨g,cap,cur,hv,hg,hr⟩
 ·exact .inl h0
 ·exact .inr ⟨g,cap,cur,hv,by rw[h.2 g _ _ hg];exact hg,hr⟩
theorem zkz{w:World}{v:Value}{x y z u:Int}{e:Nat}(h:Own w e 1 v 4 [.int .i64 x,.int .i64 y,.int .i64 z,.int .i64 u]):∃ g c,v= .slice (some ⟨g,0,none⟩) 4 c/\∀ w',Below w.heap.size w w'->IdC g (x,y,z,u) w':=by
 rcases h.2 with⟨_,h0⟩ | ⟨g,cap,cur,rfl,hg,_,_,_,hx⟩
 ·cases h0
 ·refine⟨g,cap,rfl,fun w' hb => ?_⟩;have hlt:g<w.heap.size:=(Array.getElem?_eq_some_iff.1 hg).1;have hl:cur.toList.take 4 = [Value.int .i64 x,Value.int .i64 y,Value.int .i64 z,Value.int .i64 u]:=hx;have e0:=congrArg (fun l=>l[0]?) hl;have e1:=congrArg (fun l=>l[1]?) hl;have e2:=congrArg (fun l=>l[2]?) hl;have e3:=congrArg (fun l=>l[3]?) hl;simp only[List.getElem?_take]at e0 e1 e2 e3;refine⟨?_,?_,?_,?_⟩
  ·rw[hb.cell (p:=⟨g,0,none⟩) hlt,cell_of_row _ _ _ _ _ _ hg];simpa using e0
  ·rw[hb.cell (p:=⟨g,1,none⟩) hlt,cell_of_row _ _ _ _ _ _ hg];simpa using e1
  ·rw[hb.cell (p:=⟨g,2,none⟩) hlt,cell_of_row _ _ _ _ _ _ hg];simpa using e2
  ·rw[hb.cell (p:=⟨g,3,none⟩) hlt,cell_of_row _ _ _ _ _ _ hg];simpa using e3
abbrev IdR:={x:I4 // x.Ok}
instance (x:I4):Decidable x.Ok:=by unfold I4.Ok;infer_instance
theorem zrj{a b c d:Int}(h0:a<9223372036854775808)(h1:b<9223372036854775808)(h2:c<9223372036854775808)(h3:d<9223372036854775808):I4.Ok (a,b,c,d):=fun n hn=>by
 simp only[I4.l,List.mem_cons,List.not_mem_nil,or_false]at hn
 rcases hn with rfl | rfl | rfl | rfl<;>assumption
def z5f(x:Ent):Option IdR:=match z1r x.1 with
 | some (_,[a,b,c,d])=>if h:I4.Ok ((a:Int),(b:Int),(c:Int),(d:Int))then some ⟨_,h⟩else none
 | _=>none
def idE(t:Nat)(a b:Int)(s:St):List IdR:=(z0j (keyL t [a,b]) s.ents).filterMap z5f
def IdAt(n₀:Nat)(us:List Ent)(J:List IdR->World->Prop)(wc:World)(i:Nat)(wr:World):Prop:=J ((us.take i).filterMap z5f) wr/\KpP n₀ wc wr
theorem IdAt.skip{n₀:Nat}{us:List Ent}{J:List IdR->World->Prop}{wc:World}{i:Nat}{wr w':World}{B:Nat}(hJ:AbidesFrom B J)(h:IdAt n₀ us J wc i wr){x:Ent}(hx:us[i]?=some x)(hn:z5f x=none)(hb:Below wr.heap.size wr w')(hs:n₀<=wr.heap.size):IdAt n₀ us J wc (i+1) w':=by
 refine⟨?_,h.2.trans (KpP.of_below hb hs)⟩;rw[z1f _ _ _ _ hx,hn];simp only[Option.toList_none,List.append_nil];exact hJ _ _ _ none h.1 (grown_below hb) (fun r e=>by cases e)
def IdB(n₀:Nat)(us:List Ent)(J Jx:List IdR->World->Prop)(wc:World)(l i:Nat)(x:I4)(e:Ending)(w3:World):Prop:=
 ∃ t' g c,e= .returned (.tuple #[.int .i64 t',.slice (some ⟨g,0,none⟩) 4 c,.bool true])/\IdC g x w3 /\
  YieldAt Fence.wide 3 Tryz.prog l #[idV x] w3.drew fun e W'=>∃ r:Bool,e= .returned (.bool r)/\(r=true->IdAt n₀ us J wc (i+1) W')/\(r=false->∃ pre,Jx pre W')
theorem zqw(l Bs Bt Ba Bb n₀:Nat)(q:Option Addr)(t:Nat)(ht1:1<=t)(ht2:t<=255)(a b:Int)(ha:a<9223372036854775808)(hbb:b<9223372036854775808)(s:St)(J Jx:List IdR->World->Prop)(W:World)(hJ:AbidesFrom W.heap.size J)
  (hlen:s.ents.length<1000000000000) (hkey:∀ x∈s.ents,x.1.size<1000000000000)
  (hY:∀ pre x W1,J pre W1->pre.length<1000000000000->YieldAt Fence.wide 3 Tryz.prog l #[idV x.1] W1 fun e W' =>
   (e= .returned (.bool true)/\J (pre ++ [x]) W'/\KpP n₀ W1 W')\/(e= .returned (.bool false)/\Jx (pre ++ [x]) W'))
  (hS:z1a n₀ W q s) (hn:n₀<=W.heap.size) (hBs:Boxed W Bs 39 (.pointer q)) (hBt:Boxed W Bt 3 (.int .i64 t)) (hBa:Boxed W Ba 3 (.int .i64 a)) (hBb:Boxed W Bb 3 (.int .i64 b)) (h0:J [] W) :
  CallsIn Fence.wide 4 Tryz.prog 158 (#[.func (.yield l) #[] #[]] ++ #[.pointer (some ⟨Bs,0,none⟩),.pointer (some ⟨Bt,0,none⟩),.pointer (some ⟨Ba,0,none⟩),.pointer (some ⟨Bb,0,none⟩)]) W fun e W'=>(∃ v,e= .returned v) /\
   ((∃ ys,ys=idE t a b s/\J ys W')\/(∃ pre,True/\Jx pre W')):=by
 have hcB:∀ w1,Below W.heap.size W w1->w1.cell? ⟨Bs,0,none⟩=some (.pointer q):=fun w1 h1=>(h1.cell (p:=⟨Bs,0,none⟩) hBs.lt).trans hBs.cell
 have HT:Hid (∀ w1,Below W.heap.size W w1->Calls Tryz.prog 90 #[.int .i64 t,.slice (some ⟨w1.heap.size,0,none⟩) 2 2] (w1.alloc (.cells #[.int .i64 a,.int .i64 b] 3)).drew fun e w2=>e= .returned (.string (keyL t [a,b]))/\Below W.heap.size W w2/\w2.cell? ⟨Bs,0,none⟩=some (.pointer q)):=fun w1 h1=>by
  refine(z5a t ht1 ht2 _ [a,b] (w1.alloc (.cells #[.int .i64 a,.int .i64 b] 3)).drew ?_ (by simp) (fun m hm=>by
   simp only[List.mem_cons,List.not_mem_nil,or_false]at hm
   rcases hm with rfl | rfl<;>assumption)).mono fun e w2 ⟨he,hb⟩=>⟨he,?_⟩
  ·exact z2g _ _ _ _ (heap_alloc_new w1 (.cells #[.int .i64 a,.int .i64 b] 3))
  ·have hb':=z09 (z0i (z00 h1 (.cells #[.int .i64 a,.int .i64 b] 3))) hb;exact⟨hb',hcB _ hb'⟩
 have HU:Hid (∀ w1,Below W.heap.size W w1->Calls Tryz.prog 101 #[.pointer q,.string (keyL t [a,b])] w1 fun e w2=>∃ a' c,e= .returned (.slice a' (z0j (keyL t [a,b]) s.ents).length c)/\Own w2 156 2 (.slice a' (z0j (keyL t [a,b]) s.ents).length c) (z0j (keyL t [a,b]) s.ents).length (z1w (z0j (keyL t [a,b]) s.ents))/\Below W.heap.size W w2):=fun w1 h1 =>
  ((hS.below (h1.mono hn)).under (keyL t [a,b])).mono fun e w2 ⟨v,he,hO⟩=>by
   obtain⟨a',c,rfl,_⟩:=hO.1.pairs;exact⟨a',c,he,hO.1,h1.trans (hO.2.2.mono h1.size)⟩
 have hc1:=hBs.cell;have hc2:=hBt.cell;have hc3:=hBa.cell;have hc4:=hBb.cell;have hbW:=Below.refl W.heap.size W;have hc5:(W.alloc (.cells #[.int .i64 a,.int .i64 b] 3)).cell? ⟨Bs,0,none⟩=some (.pointer q):=hcB _ (z00 hbW _);have hc6:(W.alloc (.cells #[.int .i64 a,.int .i64 b] 3)).cell? ⟨Bt,0,none⟩=some (.int .i64 t):=((z00 hbW (.cells #[.int .i64 a,.int .i64 b] 3)).cell (p:=⟨Bt,0,none⟩) hBt.lt).trans hBt.cell;refine callsIn_of_wp Tryz.func158 rfl trivial ?_ rfl;simp only[Tryz.ntmps158,List.size_toArray,List.length_cons,List.length_nil,Nat.reduceAdd,Nat.reduceSub,Array.replicate_succ,Array.replicate_zero,List.push_toArray,List.append_toArray,List.nil_append,List.cons_append];have hmo:Tryz.prog.follows .mixedOrders=true:=by kernel_rfl
 have HL:Hid ((z0j (keyL t [a,b]) s.ents).length<1000000000000):=Nat.lt_of_le_of_lt (z4l _ _) hlen;have HK:Hid (∀ (i:Nat) (x:Ent),(z0j (keyL t [a,b]) s.ents)[i]?=some x->x.1.size<1000000000000):=fun i x hx=>hkey x (by have h:=List.mem_of_getElem? hx;unfold z0j at h;exact(List.mem_filter.1 h).1)
 have HE:Hid (idE t a b s=(z0j (keyL t [a,b]) s.ents).filterMap z5f):=rfl;generalize idE t a b s=ES at *
 generalize z0j (keyL t [a,b]) s.ents=us at *
 generalize keyL t [a,b]=kt at *
 gi_wp2
 gi_cut [17,18,19]from 20 (fun s12 s13 s14 wc=>∃ a' c,s12= .slice a' us.length c/\s13= .int .i64 us.length/\s14= .int .i64 0/\Own wc 156 2 (.slice a' us.length c) us.length (z1w us)/\Below W.heap.size W wc)
 case first =>
  gi_region_with_o (first
   | (refine⟨trivial,?_⟩;gi_at_call 90;refine(callsIn_wide.2 (HT.out _ hbW)).mono ?_;rintro e w1 ⟨rfl,hb1,hcw1⟩)
   | (refine⟨trivial,?_⟩;gi_at_call 101;refine(callsIn_wide.2 (HU.out _ hb1)).mono ?_;rintro e w2 ⟨a',c,rfl,hO,hb2⟩))
  all_goals
   gi_wp2
   gi_meet
   case rel=>exact⟨a',c,rfl,rfl,rfl,hO,hb2⟩
 case rest =>
  obtain⟨a',c,rfl,rfl,rfl,hO,hb2⟩:=hcut;have hJc:J [] wc:=hJ _ _ _ none h0 (grown_below hb2) (fun r e=>by cases e);have HO:=zh hO;have hsz:=hb2.size;clear hO HU HT hcB hBa hBb hBt hBs hS hc1 hc2 hc3 hc4 hc5 hc6 h0 hbW ha hbb;have hA0:Hid (IdAt n₀ us J wc 0 wc):=⟨by simpa using hJc,KpP.refl _ _⟩
  gi_wp2
  gi_loopw [19] (fun iv wr=>∃ i:Nat,iv= .int .i64 i/\i<=us.length/\IdAt n₀ us J wc i wr) (fun iv _=>us.length-(intOf iv).toNat)
  case atStart=>exact⟨0,rfl,by omega,hA0.out⟩
  case round =>
   obtain⟨i,rfl,hi,hAt⟩:=hrel;have HAt:=zh hAt;clear hAt hA0;have hnr:n₀<=wr.heap.size:=Nat.le_trans (Nat.le_trans hn hsz) HAt.out.2.1.size
   by_cases hlt:i<us.length
   ·obtain⟨x,hx⟩:∃ x,us[i]?=some x:=⟨_,List.getElem?_eq_getElem hlt⟩;obtain⟨a2,c',e,hp⟩:=(HAt.out.2.own HO.out).pairs;cases e;obtain⟨g,rfl,hp1,hp2⟩:=hp.at0 i x hx;clear hp;have hxk:=HK.out i x hx;have hL:=HL.out;have hba:Below wr.heap.size wr (wr.alloc (.cells #[.string x.1,.string x.2] 156)):=(Below.refl _ wr).alloc (Nat.le_refl _) _;have HPA:=parse_any x.1 hxk (wr.alloc (.cells #[.string x.1,.string x.2] 156));cases hpk:z1r x.1 with
    | none =>
     have HP:Hid (Calls Tryz.prog 159 #[.string x.1] (wr.alloc (.cells #[.string x.1,.string x.2] 156)) fun e w3=>e= .returned (.tuple #[.int .i64 0,.slice none 0 0,.bool false])/\∀ nq,IdAt n₀ us J wc (i+1) (w3.drewN nq)):=by
      refine HPA.mono fun e w3 ⟨hb,hr⟩ => ?_
      rw[hpk]at hr;exact⟨hr,fun nq=>HAt.out.skip hJ hx (by unfold z5f;rw[hpk]) (below_drewN (hba.trans (hb.mono (by simp))) nq) hnr⟩
     clear HPA HAt
     gi_wp2_with (refine⟨trivial,?_⟩;gi_at_call 159;refine(callsIn_wide.2 HP.out).mono ?_;rintro e w3 ⟨rfl,hA3⟩)
     refine wpIn_region_quiet_lit rfl (by assumption) (by kernel_rfl) ?_
     repeat (gi_big_quiet_step (fail))
     refine BigFrame.wpQuietIn_skip (fun _ _ _ _=>trivial) (by kernel_rfl) ?_;simp only[Act.put,List.setIfInBounds_toArray,List.set_cons_zero,List.set_cons_succ]
     repeat (gi_big_quiet_step (fail))
     refine wpQuietIn_nil ?_;intro _ hw';obtain⟨nq,rfl⟩:=hw'
     gi_wp2
     refine⟨⟨i+1,by go_num,by omega,hA3 nq⟩,by simp[intOf];omega⟩
    | some y =>
     obtain⟨t',ns⟩:=y
     by_cases h1:ns.length=4
     ·obtain⟨x0,x1,x2,x3,rfl⟩:∃ x0 x1 x2 x3,ns = [x0,x1,x2,x3]:=by
       match ns,h1 with
       | [x0,x1,x2,x3],_=>exact⟨x0,x1,x2,x3,rfl⟩
      have hbd:=(zc1 hpk).2;have hx0:(x0:Int)<9223372036854775808:=by have:=hbd x0 (by simp);omega
      have hx1:(x1:Int)<9223372036854775808:=by have:=hbd x1 (by simp);omega
      have hx2:(x2:Int)<9223372036854775808:=by have:=hbd x2 (by simp);omega
      have hx3:(x3:Int)<9223372036854775808:=by have:=hbd x3 (by simp);omega
      have hone:z5f x=some ⟨((x0:Int),(x1:Int),(x2:Int),(x3:Int)),zrj hx0 hx1 hx2 hx3⟩:=by
       unfold z5f;rw[hpk];exact dif_pos (zrj hx0 hx1 hx2 hx3)
      have hpl:((us.take i).filterMap z5f).length<1000000000000:=by
       have h2:=z5i z5f (us.take i);have h3:(us.take i).length<=us.length:=by rw[List.length_take];omega
       omega
      have HP:Hid (Calls Tryz.prog 159 #[.string x.1] (wr.alloc (.cells #[.string x.1,.string x.2] 156)) (IdB n₀ us J Jx wc l i ((x0:Int),(x1:Int),(x2:Int),(x3:Int)))):=by
       refine HPA.mono fun e w3 ⟨hb,hr⟩ => ?_
       rw[hpk]at hr;obtain⟨v,he,ho,_⟩:=hr;obtain⟨g2,c2,rfl,hcell⟩:=zkz (x:=x0) (y:=x1) (z:=x2) (u:=x3) ho;have hb3:Below wr.heap.size wr w3:=hba.trans (hb.mono (by simp));refine⟨t',g2,c2,he,hcell _ zb,?_⟩;have hb4:Below wr.heap.size wr w3.drew:=below_drewN hb3 1;refine(hY _ ⟨((x0:Int),(x1:Int),(x2:Int),(x3:Int)),zrj hx0 hx1 hx2 hx3⟩ w3.drew (hJ _ _ _ none HAt.out.1 (grown_below hb4) (fun r e=>by cases e)) hpl).mono fun e W' h => ?_
       rcases h with⟨rfl,hJ',hK'⟩ | ⟨rfl,hJx'⟩
       ·refine⟨true,rfl,fun _=>⟨?_,(HAt.out.2.trans (KpP.of_below hb4 hnr)).trans hK'⟩,fun h=>(by cases h)⟩;rw[z1f _ _ _ _ hx,hone];exact hJ'
       ·exact⟨false,rfl,fun h=>(by cases h),fun _=>⟨_,hJx'⟩⟩
      clear HPA HAt hpl hone hY hbd hx0 hx1 hx2 hx3;unfold IdB at HP
      gi_wp2_with (refine⟨trivial,?_⟩;gi_at_call 159;refine(callsIn_wide.2 HP.out).mono ?_;rintro e w3 ⟨tt,g2,c2,rfl,⟨k0,k1,k2,k3⟩,hI⟩)
      obtain⟨fn,tmps,assign,body,hy,hR⟩:=hI;clear HP;have hp1':((4:Nat):Int)=4:=rfl;refine zk0 (fun i=>decide (i<21)) (fun w'=>IdC g2 ((x0:Int),(x1:Int),(x2:Int),(x3:Int)) w') (by assumption) ?_;have hS0:IdC g2 ((x0:Int),(x1:Int),(x2:Int),(x3:Int)) w3.drew:=⟨k0,k1,k2,k3⟩;refine z15 (i:=0) (v:=?v0) rfl rfl (by kernel_rfl) (by kernel_rfl) (by kernel_rfl) (by kernel_rfl) (fun _ _ _ h=>h) (by rfl) (fun _=>rfl) ?hy0 hS0 ?_
      case hy0=>(intro w hw;obtain⟨h0,h1,h2,h3⟩:=hw;go_simp<;>with_reducible rfl)
      simp only[Act.put,List.getElem_toArray,List.getElem_cons_zero,List.setIfInBounds_toArray,List.set_cons_zero,List.set_cons_succ];refine z15 (i:=1) (v:=?v1) rfl rfl (by kernel_rfl) (by kernel_rfl) (by kernel_rfl) (by kernel_rfl) (fun _ _ _ h=>h) (by rfl) (fun _=>rfl) ?hy1 hS0 ?_
      case hy1=>(intro w hw;obtain⟨h0,h1,h2,h3⟩:=hw;go_simp<;>with_reducible rfl)
      simp only[Act.put,List.getElem_toArray,List.getElem_cons_zero,List.getElem_cons_succ,List.setIfInBounds_toArray,List.set_cons_zero,List.set_cons_succ];refine z15 (i:=2) (v:=?v2) rfl rfl (by kernel_rfl) (by kernel_rfl) (by kernel_rfl) (by kernel_rfl) (fun _ _ _ h=>h) (by rfl) (fun _=>rfl) ?hy2 hS0 ?_
      case hy2=>(intro w hw;obtain⟨h0,h1,h2,h3⟩:=hw;go_simp<;>with_reducible rfl)
      simp only[Act.put,List.getElem_toArray,List.getElem_cons_zero,List.getElem_cons_succ,List.setIfInBounds_toArray,List.set_cons_zero,List.set_cons_succ];refine z15 (i:=3) (v:=?v3) rfl rfl (by kernel_rfl) (by kernel_rfl) (by kernel_rfl) (by kernel_rfl) (fun _ _ _ h=>h) (by rfl) (fun _=>rfl) ?hy3 hS0 ?_
      case hy3=>(intro w hw;obtain⟨h0,h1,h2,h3⟩:=hw;go_simp<;>with_reducible rfl)
      simp only[Act.put,List.getElem_toArray,List.getElem_cons_zero,List.getElem_cons_succ,List.setIfInBounds_toArray,List.set_cons_zero,List.set_cons_succ];refine z15 (i:=4) (v:=?v4) rfl rfl (by kernel_rfl) (by kernel_rfl) (by kernel_rfl) (by kernel_rfl) (fun _ _ _ h=>h) (by rfl) (fun _=>rfl) ?hy4 hS0 ?_
      case hy4=>(intro w hw;obtain⟨h0,h1,h2,h3⟩:=hw;go_simp<;>with_reducible rfl)
      simp only[Act.put,List.getElem_toArray,List.getElem_cons_zero,List.getElem_cons_succ,List.setIfInBounds_toArray,List.set_cons_zero,List.set_cons_succ];refine z15 (i:=5) (v:=?v5) rfl rfl (by kernel_rfl) (by kernel_rfl) (by kernel_rfl) (by kernel_rfl) (fun _ _ _ h=>h) (by rfl) (fun _=>rfl) ?hy5 hS0 ?_
      case hy5=>(intro w hw;obtain⟨h0,h1,h2,h3⟩:=hw;go_simp<;>with_reducible rfl)
      simp only[Act.put,List.getElem_toArray,List.getElem_cons_zero,List.getElem_cons_succ,List.setIfInBounds_toArray,List.set_cons_zero,List.set_cons_succ];refine z15 (i:=6) (v:=?v6) rfl rfl (by kernel_rfl) (by kernel_rfl) (by kernel_rfl) (by kernel_rfl) (fun _ _ _ h=>h) (by rfl) (fun _=>rfl) ?hy6 hS0 ?_
      case hy6=>(intro w hw;obtain⟨h0,h1,h2,h3⟩:=hw;go_simp<;>with_reducible rfl)
      simp only[Act.put,List.getElem_toArray,List.getElem_cons_zero,List.getElem_cons_succ,List.setIfInBounds_toArray,List.set_cons_zero,List.set_cons_succ];refine z15 (i:=7) (v:=?v7) rfl rfl (by kernel_rfl) (by kernel_rfl) (by kernel_rfl) (by kernel_rfl) (fun _ _ _ h=>h) (by rfl) (fun _=>rfl) ?hy7 hS0 ?_
      case hy7=>(intro w hw;obtain⟨h0,h1,h2,h3⟩:=hw;go_simp<;>with_reducible rfl)
      simp only[Act.put,List.getElem_toArray,List.getElem_cons_zero,List.getElem_cons_succ,List.setIfInBounds_toArray,List.set_cons_zero,List.set_cons_succ];refine z15 (i:=8) (v:=?v8) rfl rfl (by kernel_rfl) (by kernel_rfl) (by kernel_rfl) (by kernel_rfl) (fun _ _ _ h=>h) (by rfl) (fun _=>rfl) ?hy8 hS0 ?_
      case hy8=>(intro w hw;obtain⟨h0,h1,h2,h3⟩:=hw;go_simp<;>with_reducible rfl)
      simp only[Act.put,List.getElem_toArray,List.getElem_cons_zero,List.getElem_cons_succ,List.setIfInBounds_toArray,List.set_cons_zero,List.set_cons_succ];refine z15 (i:=9) (v:=?v9) rfl rfl (by kernel_rfl) (by kernel_rfl) (by kernel_rfl) (by kernel_rfl) (fun _ _ _ h=>h) (by rfl) (fun _=>rfl) ?hy9 hS0 ?_
      case hy9=>(intro w hw;obtain⟨h0,h1,h2,h3⟩:=hw;go_simp<;>with_reducible rfl)
      simp only[Act.put,List.getElem_toArray,List.getElem_cons_zero,List.getElem_cons_succ,List.setIfInBounds_toArray,List.set_cons_zero,List.set_cons_succ];refine z15 (i:=10) (v:=?v10) rfl rfl (by kernel_rfl) (by kernel_rfl) (by kernel_rfl) (by kernel_rfl) (fun _ _ _ h=>h) (by rfl) (fun _=>rfl) ?hy10 hS0 ?_
      case hy10=>(intro w hw;obtain⟨h0,h1,h2,h3⟩:=hw;go_simp<;>with_reducible rfl)
      simp only[Act.put,List.getElem_toArray,List.getElem_cons_zero,List.getElem_cons_succ,List.setIfInBounds_toArray,List.set_cons_zero,List.set_cons_succ];refine z15 (i:=11) (v:=?v11) rfl rfl (by kernel_rfl) (by kernel_rfl) (by kernel_rfl) (by kernel_rfl) (fun _ _ _ h=>h) (by rfl) (fun _=>rfl) ?hy11 hS0 ?_
      case hy11=>(intro w hw;obtain⟨h0,h1,h2,h3⟩:=hw;go_simp<;>with_reducible rfl)
      simp only[Act.put,List.getElem_toArray,List.getElem_cons_zero,List.getElem_cons_succ,List.setIfInBounds_toArray,List.set_cons_zero,List.set_cons_succ];refine z15 (i:=12) (v:=?v12) rfl rfl (by kernel_rfl) (by kernel_rfl) (by kernel_rfl) (by kernel_rfl) (fun _ _ _ h=>h) (by rfl) (fun _=>rfl) ?hy12 hS0 ?_
      case hy12=>(intro w hw;obtain⟨h0,h1,h2,h3⟩:=hw;go_simp<;>with_reducible rfl)
      simp only[Act.put,List.getElem_toArray,List.getElem_cons_zero,List.getElem_cons_succ,List.setIfInBounds_toArray,List.set_cons_zero,List.set_cons_succ];refine z15 (i:=13) (v:=?v13) rfl rfl (by kernel_rfl) (by kernel_rfl) (by kernel_rfl) (by kernel_rfl) (fun _ _ _ h=>h) (by rfl) (fun _=>rfl) ?hy13 hS0 ?_
      case hy13=>(intro w hw;obtain⟨h0,h1,h2,h3⟩:=hw;go_simp<;>with_reducible rfl)
      simp only[Act.put,List.getElem_toArray,List.getElem_cons_zero,List.getElem_cons_succ,List.setIfInBounds_toArray,List.set_cons_zero,List.set_cons_succ];refine z15 (i:=14) (v:=?v14) rfl rfl (by kernel_rfl) (by kernel_rfl) (by kernel_rfl) (by kernel_rfl) (fun _ _ _ h=>h) (by rfl) (fun _=>rfl) ?hy14 hS0 ?_
      case hy14=>(intro w hw;obtain⟨h0,h1,h2,h3⟩:=hw;go_simp<;>with_reducible rfl)
      simp only[Act.put,List.getElem_toArray,List.getElem_cons_zero,List.getElem_cons_succ,List.setIfInBounds_toArray,List.set_cons_zero,List.set_cons_succ];refine z15 (i:=15) (v:=?v15) rfl rfl (by kernel_rfl) (by kernel_rfl) (by kernel_rfl) (by kernel_rfl) (fun _ _ _ h=>h) (by rfl) (fun _=>rfl) ?hy15 hS0 ?_
      case hy15=>(intro w hw;obtain⟨h0,h1,h2,h3⟩:=hw;go_simp<;>with_reducible rfl)
      simp only[Act.put,List.getElem_toArray,List.getElem_cons_zero,List.getElem_cons_succ,List.setIfInBounds_toArray,List.set_cons_zero,List.set_cons_succ];refine z15 (i:=16) (v:=?v16) rfl rfl (by kernel_rfl) (by kernel_rfl) (by kernel_rfl) (by kernel_rfl) (fun _ _ _ h=>h) (by rfl) (fun _=>rfl) ?hy16 hS0 ?_
      case hy16=>(intro w hw;obtain⟨h0,h1,h2,h3⟩:=hw;go_simp<;>with_reducible rfl)
      simp only[Act.put,List.getElem_toArray,List.getElem_cons_zero,List.getElem_cons_succ,List.setIfInBounds_toArray,List.set_cons_zero,List.set_cons_succ];refine z15 (i:=17) (v:=?v17) rfl rfl (by kernel_rfl) (by kernel_rfl) (by kernel_rfl) (by kernel_rfl) (fun _ _ _ h=>h) (by rfl) (fun _=>rfl) ?hy17 hS0 ?_
      case hy17=>(intro w hw;obtain⟨h0,h1,h2,h3⟩:=hw;go_simp<;>with_reducible rfl)
      simp only[Act.put,List.getElem_toArray,List.getElem_cons_zero,List.getElem_cons_succ,List.setIfInBounds_toArray,List.set_cons_zero,List.set_cons_succ];refine z15 (i:=18) (v:=?v18) rfl rfl (by kernel_rfl) (by kernel_rfl) (by kernel_rfl) (by kernel_rfl) (fun _ _ _ h=>h) (by rfl) (fun _=>rfl) ?hy18 hS0 ?_
      case hy18=>(intro w hw;obtain⟨h0,h1,h2,h3⟩:=hw;go_simp<;>with_reducible rfl)
      simp only[Act.put,List.getElem_toArray,List.getElem_cons_zero,List.getElem_cons_succ,List.setIfInBounds_toArray,List.set_cons_zero,List.set_cons_succ];refine z15 (i:=19) (v:=?v19) rfl rfl (by kernel_rfl) (by kernel_rfl) (by kernel_rfl) (by kernel_rfl) (fun _ _ _ h=>h) (by rfl) (fun _=>rfl) ?hy19 hS0 ?_
      case hy19=>(intro w hw;obtain⟨h0,h1,h2,h3⟩:=hw;go_simp<;>with_reducible rfl)
      simp only[Act.put,List.getElem_toArray,List.getElem_cons_zero,List.getElem_cons_succ,List.setIfInBounds_toArray,List.set_cons_zero,List.set_cons_succ];refine z15 (i:=20) (v:=?v20) rfl rfl (by kernel_rfl) (by kernel_rfl) (by kernel_rfl) (by kernel_rfl) (fun _ _ _ h=>h) (by rfl) (fun _=>rfl) ?hy20 hS0 ?_
      case hy20=>(intro w hw;obtain⟨h0,h1,h2,h3⟩:=hw;go_simp<;>with_reducible rfl)
      simp only[Act.put,List.getElem_toArray,List.getElem_cons_zero,List.getElem_cons_succ,List.setIfInBounds_toArray,List.set_cons_zero,List.set_cons_succ];refine zg7 (i:=21) rfl (by kernel_rfl) (by rfl) fun K hK => ?_
      go_simp
      gi_wp2_with (refine hR.mono ?_;rintro e W3 ⟨r,rfl,hT,hF⟩)
      refine hK _ _ (fun h=>by cases h) ?_;clear hK K;refine zg7 (i:=22) rfl (by kernel_rfl) (by rfl) fun K hK => ?_
      go_simp
      refine hK _ _ (fun h=>by cases h) ?_;clear hK K;refine zg7 (i:=23) rfl (by kernel_rfl) (by rfl) fun K hK => ?_
      go_simp
      refine hK _ _ (fun h=>by cases h) ?_;clear hK K;refine zrb (by kernel_rfl) ?_ _
      all_goals
       cases r with
       | true =>
        have hA3:=hT rfl;clear hT hF
        gi_wp2
        refine⟨⟨i+1,by go_num,by omega,hA3⟩,by simp[intOf];omega⟩
       | false =>
        obtain⟨pre,hA3⟩:=hF rfl;clear hT hF
        gi_wp2
        refine bodyPost_ret (results_none rfl _ _ _) rfl ?_;exact⟨⟨_,rfl⟩,.inr ⟨_,trivial,hA3⟩⟩
     ·have hno:z5f x=none:=by
       unfold z5f;rw[hpk]
       match ns,h1 with
       | [],_=>rfl
       | [_],_=>rfl
       | [_,_],_=>rfl
       | [_,_,_],_=>rfl
       | [_,_,_,_],h=>exact absurd rfl h
       | _::_::_::_::_::_,_=>rfl
      have hd1:((ns.length:Int)==4)=false:=by rw[beq_eq_false_iff_ne];omega
      have HP:Hid (Calls Tryz.prog 159 #[.string x.1] (wr.alloc (.cells #[.string x.1,.string x.2] 156)) fun e w3=>(∃ a c,e= .returned (.tuple #[.int .i64 t',.slice a ns.length c,.bool true]))/\∀ nq,IdAt n₀ us J wc (i+1) (w3.drewN nq)):=by
       refine HPA.mono fun e w3 ⟨hb,hr⟩ => ?_
       rw[hpk]at hr;obtain⟨v,he,ho,_⟩:=hr;obtain⟨a,c,rfl,_⟩:=ho.form;exact⟨⟨a,c,he⟩,fun nq=>HAt.out.skip hJ hx hno (below_drewN (hba.trans (hb.mono (by simp))) nq) hnr⟩
      clear HPA HAt hno h1
      gi_wp2_with (refine⟨trivial,?_⟩;gi_at_call 159;refine(callsIn_wide.2 HP.out).mono ?_;rintro e w3 ⟨⟨av,cv,rfl⟩,hA3⟩)
      refine wpIn_region_quiet_lit rfl (by assumption) (by kernel_rfl) ?_
      repeat (gi_big_quiet_step (fail))
      refine BigFrame.wpQuietIn_skip (fun _ _ _ _=>trivial) (by kernel_rfl) ?_;simp only[Act.put,List.setIfInBounds_toArray,List.set_cons_zero,List.set_cons_succ]
      repeat (gi_big_quiet_step (fail))
      refine wpQuietIn_nil ?_;intro _ hw';obtain⟨nq,rfl⟩:=hw'
      gi_wp2
      refine⟨⟨i+1,by go_num,by omega,hA3 nq⟩,by simp[intOf];omega⟩
   ·obtain rfl:i=us.length:=by omega
    have hend:=HAt.out.1;rw[List.take_length,<- HE.out]at hend;clear hi
    gi_wp2
    go_end0
    exact⟨⟨_,rfl⟩,.inl ⟨_,rfl,hend⟩⟩
theorem zd9(n₀:Nat)(q:Option Addr)(t:Nat)(ht1:1<=t)(ht2:t<=255)(a b:Int)(ha:a<9223372036854775808)(hb:b<9223372036854775808)(s:St)(w:World)(hlen:s.ents.length<1000000000000)(hkey:∀ x∈s.ents,x.1.size<1000000000000)(hS:z1a n₀ w q s)(hn:n₀<=w.heap.size) :
  SeqStopsK Fence.wide 4 Tryz.prog 158 #[.pointer (some ⟨w.heap.size,0,none⟩),.pointer (some ⟨w.heap.size+1,0,none⟩),.pointer (some ⟨w.heap.size+1+1,0,none⟩),.pointer (some ⟨w.heap.size+1+1+1,0,none⟩)] (fun x:IdR=>#[idV x.1]) (KpP n₀) (fun ys=>ys=idE t a b s) (fun _=>True) 1000000000000
   ((((w.alloc (.cells #[.pointer q] 39)).alloc (.cells #[.int .i64 t] 3)).alloc (.cells #[.int .i64 a] 3)).alloc (.cells #[.int .i64 b] 3)):=by
 have bS:=Boxed.new w 39 (.pointer q);have bT:=Boxed.new (w.alloc (.cells #[.pointer q] 39)) 3 (.int .i64 t);have bA:=Boxed.new ((w.alloc (.cells #[.pointer q] 39)).alloc (.cells #[.int .i64 t] 3)) 3 (.int .i64 a);have bB:=Boxed.new (((w.alloc (.cells #[.pointer q] 39)).alloc (.cells #[.int .i64 t] 3)).alloc (.cells #[.int .i64 a] 3)) 3 (.int .i64 b);simp only[World.size_alloc]at bT bA bB;have hbl:=z00 (z00 (z00 (z00 (Below.refl _ w) (.cells #[.pointer q] 39)) (.cells #[.int .i64 t] 3)) (.cells #[.int .i64 a] 3)) (.cells #[.int .i64 b] 3);have bS4:=((bS.alloc (.cells #[.int .i64 t] 3)).alloc (.cells #[.int .i64 a] 3)).alloc (.cells #[.int .i64 b] 3);have bT4:=(bT.alloc (.cells #[.int .i64 a] 3)).alloc (.cells #[.int .i64 b] 3);have bA4:=bA.alloc (.cells #[.int .i64 b] 3);have hS4:=hS.below (hbl.mono hn);have hn4:=Nat.le_trans hn hbl.size;intro l J Jx W hbw hJ _ hY h0;exact zqw l _ _ _ _ n₀ q t ht1 ht2 a b ha hb s J Jx W hJ hlen hkey hY (hS4.below (hbw.mono hn4)) (Nat.le_trans hn4 hbw.size) ((hbw.block _ bS4.lt).trans bS4) ((hbw.block _ bT4.lt).trans bT4) ((hbw.block _ bA4.lt).trans bA4) ((hbw.block _ bB.lt).trans bB) h0
end Go.Proofs.YtnkilceibkkjlaaGreat
