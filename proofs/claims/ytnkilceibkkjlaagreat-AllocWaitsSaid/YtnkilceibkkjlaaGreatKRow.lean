/- What is proved here: a row's last step for all laws: wher -/
import Derived.Test.YtnkilceibkkjlaaGreatRows
import Derived.WalkKit
import Derived.ProofKit
import Derived.OpenShut
import Derived.ChangeBook
import Derived.Below
set_option maxRecDepth 100000
set_option maxHeartbeats 16000000
namespace Go.Proofs.YtnkilceibkkjlaaGreat
open Go.RowKit Go.ChangeShapes Go.WideShapes Go.ChangeAt
section
variable {H:Type} {enc:TypeId × Value->H} {P:Program}
theorem z8p(hl:laidOutB P=true){W W':World}(hb:Below W.heap.size W W')(sp:Nat->Bool) :
  ∀ {ts:List TypeId} {vs:List Value} {ds:List (DataW H)} {ps:List MemPlace},(∀ t∈ts,P.readableRec t=true/\t<P.types.size) ->
   DataW.TrodAll enc P W 0 (fun _=>true) true ts vs ds ps->(∀ p∈ps,p.block<W.heap.size)->(∀ p∈ps,sp p.block=true) ->
   DataW.TrodAll enc P W' 0 sp true ts vs ds ps
 | [],[],[],_,_,h,_,_=>h
 | [],_::_,_,_,_,h,_,_=>h.elim
 | [],[],_::_,_,_,h,_,_=>h.elim
 | _::_,[],_,_,_,h,_,_=>h.elim
 | _::_,_::_,[],_,_,h,_,_=>h.elim
 | t::ts,v::vs,d::ds,ps,ht,h,hlt,hsp=>by
  obtain⟨p,q,⟨n,h1⟩,h2,e⟩:=h
  have h0:=ht t (by simp)
  refine⟨p,q,⟨n,DataW.trod_stays (kids_book hl h0.1) (book_sized h0.1) (fun h=>by cases h) ⟨h0.2,book_self t⟩ h1 (fun x hx=>hb.same (hlt x (by rw[e];simp[show x∈p from hx]))) (fun x hx=>hsp x (by rw[e];simp[show x∈p from hx]))⟩,?_,e⟩
  exact z8p hl hb sp (fun u hu=>ht u (by simp[hu])) h2 (fun x hx=>hlt x (by rw[e];simp[hx])) (fun x hx=>hsp x (by rw[e];simp[hx]))
theorem znu(hl:laidOutB P=true){f:Func}{s:ChangeSpec}{fresh handsOn again:Bool}{W W':World}{args:Array Value}{ds gs:List (DataW H)}{before:List MemPlace}{tb:TypeId}
  (htb:P.underlying tb=some .bool) (hf:f.resultTypes=#[tb]) (hts:∀ t∈f.params.toList,P.readableRec t=true/\t<P.types.size) (hvars:s.vars = [])
  (hW:DataW.Whole enc P f.params.toList s.vars false W args.toList ds gs before)
  (hspec:s.fn H (ds++gs) = { results:=[.lit (.bool true)],args:=ds,vars:=[] })
  (hb:Below W.heap.size W W'):s.post enc P f false fresh handsOn again W args (.bool true) W':=by
 have hlt:∀ p∈before,p.block<W.heap.size:=fun p hp=>hW.lt p hp
 have hW':=hW;obtain⟨pa,pv,hA,hV,e,hz,_⟩:=hW;rw[hvars]at hV;obtain⟨hgs,hpv⟩:=trodVars_none hV;subst hgs hpv;rw[List.append_nil]at e;subst e;have hargs:∀ sp:Nat->Bool,(∀ p∈before,sp p.block=true)->DataW.TrodAll enc P W' 0 sp true f.params.toList args.toList ds before:=fun sp hsp=>z8p hl hb sp hts hA hlt hsp
 have hold:∀ p∈before,(fun b=>decide (b<W.heap.size)) p.block=true:=fun p hp=>by simpa using hlt p hp
 have hres:∀ (b:Nat) (sp:Nat->Bool) (hd:Bool),DataW.TrodAll enc P W' b sp hd f.resultTypes.toList ((Value.bool true).resultList f.resultTypes.size) (s.fn H (ds ++ [])).results []:=fun b sp hd=>by
  rw[hspec,hf];exact trodAll_cons_mk (shut_bool htb true) trodAll_mk0
 have hargs2:∀ sp:Nat->Bool,(∀ p∈before,sp p.block=true)->DataW.TrodAll enc P W' 0 sp true f.params.toList args.toList (s.fn H (ds ++ [])).args before:=fun sp hsp=>by rw[hspec];exact hargs sp hsp
 have hvs:∀ sp:Nat->Bool,DataW.TrodVars enc P W' sp s.vars (s.fn H (ds ++ [])).vars []:=fun sp=>by rw[hspec,hvars];rfl
 have hok:∀ (j:Nat) (t:TypeId) (r:Value),f.resultTypes[j]?=some t->((Value.bool true).resultList f.resultTypes.size)[j]?=some r->Value.okWide P W' .any 0 t r:=by
  exact ok_one hf rfl (okWide_bool_mk htb _)
 refine⟨ds,[],before,[],before,[],hW',hres _ _ _,hargs2 _ hold,hvs _,World.keptBut_mono (fun p hp=>⟨hp,?_⟩) (hb.frame (· ∈ before)),fun _ => ?_⟩
 ·exact Or.inr (by simpa using hp)
 ·refine⟨hok,_,_,([]++before) ++ [],⟨[]++before,[],trodAll_append (hargs2 _ (fun _ _=>rfl)) (hres _ _ _),hvs _,rfl,?_,fun h=>by simp at h⟩,?_⟩
  ·intro b off hp;have hin:MemPlace.cell b off∈before:=by simpa using hp
   rw[hb.frozen (hlt _ hin)];exact hz b off hin
  ·intro p hp _
   simpa using hp
end
theorem own:ownKnob Tryz.prog.godebug=none:=by kernel_rfl
theorem laid:laidOutB Tryz.prog=true:=by kernel_rfl
def zyf(P:Program)(t:TypeId):Bool:=P.readableRec t&&decide (t<P.types.size)
theorem ztp{P:Program}{ts:List TypeId}(h:ts.all (zyf P)=true):∀ t∈ts,P.readableRec t=true/\t<P.types.size:=by
 intro t ht;have:=List.all_eq_true.1 h t ht
 simpa [zyf]using this
end Go.Proofs.YtnkilceibkkjlaaGreat
