/- What is proved here: the store's Undo, of the program. Its conditions: sizes. what is put is undone;  -/
import Derived.Test.YtnkilceibkkjlaaGreatGDigG
import Derived.Test.YtnkilceibkkjlaaGreatGHoldB
import Derived.Defers
import Derived.Test.YtnkilceibkkjlaaGreatGUnder
import Derived.Test.YtnkilceibkkjlaaGreatGRNum
import Derived.Test.YtnkilceibkkjlaaGreatGU256
import Derived.RangeFuncNested
import Derived.RangeFuncBound
import Derived.RangeFuncCalls
import Derived.RangeFuncLeaves
import Derived.RangeFuncBox
import Derived.Shelf.Abstract
import Derived.Shelf.RegionOpen
import Derived.WalkKit
import Derived.OwnWalkIn
import Derived.TacticsInMore
import Derived.LoopNIn
import Derived.LoopIn
import Derived.Maps.AppendAt
import Derived.Test.YtnkilceibkkjlaaGreatGRDown
set_option maxRecDepth 100000
set_option maxHeartbeats 16000000
namespace Go.Proofs.YtnkilceibkkjlaaGreat
open Go.RowKit
def z9b(s:St):St:=match s.past.getLast? with
 | some x=>(⟨s.ents,s.past.dropLast⟩:St).lay x.key x.val x.there
 | none=>s
def z3y(s:St):Nat->St
 | 0=>s
 | k+1=>z9b (z3y s k)
def St.undo(s:St)(m:Nat):St:=z3y s (s.past.length-m)
theorem zln(s:St):(z9b s).past.length=s.past.length-1:=by
 unfold z9b;split
 ·simp[St.lay]
 ·rename_i h;rw[List.getLast?_eq_none_iff]at h;rw[h];rfl
theorem z6k(s:St):∀ k,(z3y s k).past.length=s.past.length-k
 | 0=>rfl
 | k+1=>by rw[z3y,zln,z6k s k];omega
theorem lay_all(w:World)(b mb:Nat)(es:Array MapEntry)(clk:Nat)(bv pv:Value)(bs:List Blk)(s:St)(k v:ByteArray)(t:Bool)(h:SAt w b mb es clk bv pv bs s)(hb:s.ents.length<1000000000000) :
  Calls Tryz.prog 146 #[.pointer (some ⟨b,0,none⟩),.string k,.string v,.bool t] w fun e w'=>(∃ u,e= .returned u)/\Laid w b mb bv pv bs (s.lay k v t) w':=by
 cases t with
 | true =>
  cases hk:(getE s.ents k).isSome with
  | false=>exact(zcz w b mb es clk bv pv bs s k v h hb hk).mono fun e w' h1=>⟨⟨_,h1.1⟩,h1.2⟩
  | true=>exact(zbz w b mb es clk bv pv bs s k v h hk).mono fun e w' h1=>⟨⟨_,h1.1⟩,h1.2⟩
 | false =>
  cases hk:(getE s.ents k).isSome with
  | false=>exact(zuj w b mb es clk bv pv bs s k v h hk).mono fun e w' h1=>⟨⟨_,h1.1⟩,h1.2⟩
  | true=>exact(zpv w b mb es clk bv pv bs s k v h hb hk).mono fun e w' h1=>⟨⟨_,h1.1⟩,h1.2⟩
theorem zqw(p:List Was):(p.flatMap z0h).length=p.length*3:=by
 induction p with
 | nil=>rfl
 | cons a t ih=>rw[List.flatMap_cons,List.length_append,ih];simp[z0h];omega
def q0i(w:World)(b:Nat)(L:List Nat)(s:St)(wr:World):Prop:=∃ (last g c:Nat) (x:Was),s.past.length=last+1/\wr.cell? ⟨b,3,none⟩=some (.slice (some ⟨g,0,none⟩) (last+1) c)/\last<c /\
 wr.cell? ⟨g,last*3,none⟩=some (.string x.key)/\wr.cell? ⟨g,last*3+1,none⟩=some (.string x.val)/\wr.cell? ⟨g,last*3+2,none⟩=some (.bool x.there)/\wr.frozen? ⟨b,3,none⟩=false/\b<wr.heap.size /\
 Calls Tryz.prog 146 #[.pointer (some ⟨b,0,none⟩),.string x.key,.string x.val,.bool x.there] ((wr.alloc (.cells (z0h x).toArray 198)).setCell ⟨b,3,none⟩ (.slice (some ⟨g,0,none⟩) last last)) fun e w'=>(∃ u,e= .returned u)/\On w b L (z9b s) w'
theorem zml{w:World}{b:Nat}{L:List Nat}{s:St}{wr:World}(h:On w b L s wr)(hz:s.size<1000000000000)(hne:0<s.past.length):q0i w b L s wr:=by
 obtain⟨L',⟨mb,es,clk,bv,pv,bs,hS,rfl⟩,st⟩:=h;obtain⟨p,x,hp⟩:∃ p x,s.past=p ++ [x]:=⟨s.past.dropLast,s.past.getLast (by intro e;rw[e]at hne;exact absurd hne (by decide)),(List.dropLast_concat_getLast _).symm⟩;have hlen:s.past.length=p.length+1:=by rw[hp];simp
 have hps:=hS.ps;rw[hlen,hp]at hps;obtain⟨_,h0 | ⟨g,cap,cur,rfl,hg,h1,h2,h3,h4⟩⟩:=hps
 ·exact absurd h0.2 (by omega)
 obtain⟨_,_,_,c3,hfz⟩:=z0q hS.hd;have hlt:=hS.lt;have hbw:=z05 hS.hd;have hnd:=hS.nd;simp only[sids,Value.ownBlock,Option.toList,List.nodup_cons,List.mem_cons,List.mem_append,not_or,List.nodup_append,List.not_mem_nil,or_false]at hnd;have hgb:g≠b:=fun e=>hnd.1.2.1 e.symm
 have hpl:=zqw p;have hfl:(p ++ [x]).flatMap z0h=p.flatMap z0h++z0h x:=by simp
 rw[hfl]at h4;have hcell:∀ i v,(z0h x)[i]?=some v->wr.cell? ⟨g,p.length*3+i,none⟩=some v:=fun i v hi=>by
  have hi3:i<3:=by have:=(List.getElem?_eq_some_iff.1 hi).1;simpa [z0h]using this
  rw[cell_of_row _ _ _ _ _ _ hg];have h5:=congrArg (fun l=>l[p.length*3+i]?) h4;simp only[List.getElem?_take,if_pos (show p.length*3+i<(p.length+1)*3 by omega)]at h5;rw[List.getElem?_append_right (by omega),hpl,Nat.add_sub_cancel_left,hi]at h5
  simpa using h5
 refine⟨p.length,g,cap,x,hlen,c3,by omega,hcell 0 _ rfl,hcell 1 _ rfl,hcell 2 _ rfl,hfz 3,hbw,?_⟩;have hu:z9b s=(⟨s.ents,p⟩:St).lay x.key x.val x.there:=by
  unfold z9b;rw[hp];simp
 have hoth:∀ k,k<wr.heap.size->k≠b->((wr.alloc (.cells (z0h x).toArray 198)).setCell ⟨b,3,none⟩ (.slice (some ⟨g,0,none⟩) p.length p.length)).heap[k]?=wr.heap[k]?:=fun k hk hn=>by
  rw[Below.heap_setCell _ _ _ _ hn,heap_alloc_old wr _ hk]
 have hS2:SAt ((wr.alloc (.cells (z0h x).toArray 198)).setCell ⟨b,3,none⟩ (.slice (some ⟨g,0,none⟩) p.length p.length)) b mb es clk bv (.slice (some ⟨g,0,none⟩) p.length p.length) bs ⟨s.ents,p⟩:=by
  refine⟨zgh (by rw[heap_alloc_old wr _ hbw];exact hS.hd) _,?_,?_,?_,hS.me,hS.fl,hS.srt,hS.nd⟩
  ·rw[hoth mb (hlt mb (by simp[sids])) (fun e=>hnd.1.1 e.symm)];exact hS.mp
  ·refine hS.ks.frame fun k hk=>hoth k (hlt k (by simp[sids,hk])) (fun e=>hnd.1.2.2 (e▸hk))
  ·refine⟨hpl,.inr ⟨g,p.length,cur,rfl,?_,Nat.le_refl _,by omega,by omega,?_⟩⟩
   ·rw[hoth g (z05 hg) hgb];exact hg
   ·have h5:(cur.toList.take ((p.length+1)*3)).take (p.length*3)=(p.flatMap z0h++z0h x).take (p.length*3):=by rw[h4]
    rw[List.take_take,Nat.min_eq_left (by omega),List.take_left' hpl]at h5;exact h5
 have hz2:s.ents.length<1000000000000:=by unfold St.size at hz;omega
 rw[hu];refine(lay_all _ b mb es clk bv _ bs ⟨s.ents,p⟩ x.key x.val x.there hS2 hz2).mono fun e w' ⟨he,es',clk',bv',bs',hS3,hF,hI⟩=>⟨he,_,⟨mb,es',clk',bv',_,bs',hS3,rfl⟩,?_⟩
 have stA:Step wr (sids b mb bv (.slice (some ⟨g,0,none⟩) (p.length+1) cap) bs) ((wr.alloc (.cells (z0h x).toArray 198)).setCell ⟨b,3,none⟩ (.slice (some ⟨g,0,none⟩) p.length p.length)) (sids b mb bv (.slice (some ⟨g,0,none⟩) p.length p.length) bs):=
  ⟨((Fr.refl _ wr).alloc _).setCell _ _ (.inr (by simp[sids])),fun k hk => .inl hk⟩
 exact(st.trans stA).trans ⟨hF,hI⟩
theorem On.past{w:World}{b:Nat}{L:List Nat}{s:St}{wr:World}(h:On w b L s wr):(∃ a c,wr.cell? ⟨b,3,none⟩=some (.slice a s.past.length c))/\wr.cell? ⟨b,0,none⟩=some (.bool true):=by
 obtain⟨L',⟨mb,es,clk,bv,pv,bs,hS,rfl⟩,st⟩:=h;obtain⟨a,c,rfl,_⟩:=hS.ps.form;obtain⟨c0,_,_,c3,_⟩:=z0q hS.hd;exact⟨⟨a,c,c3⟩,c0⟩
def zgt(b:Nat)(w:World):Nat:=match w.cell? ⟨b,3,none⟩with
 | some (.slice _ n _)=>n
 | _=>0
theorem On.zgt{w:World}{b:Nat}{L:List Nat}{s:St}{wr:World}(h:On w b L s wr):zgt b wr=s.past.length:=by
 obtain⟨⟨a,c,hc⟩,_⟩:=h.past;unfold Proofs.YtnkilceibkkjlaaGreat.zgt;rw[hc]
theorem zu3(w:World)(b:Nat)(s:St)(L:List Nat)(m:Nat)(h:SRep w b s L)(hm:m<=s.past.length)(hz:∀ k,(z3y s k).size<1000000000000) :
  Calls Tryz.prog 74 #[.pointer (some ⟨b,0,none⟩),.int .i64 m] w fun e w'=>e= .returned (.bool true)/\On w b L (s.undo m) w':=by
 have hO0:=On.start h;have hlen:s.past.length<1000000000000:=by have:=hz 0;unfold z3y St.size at this;omega
 have HI:=zh (z8u w b true h.cell0)
 have HR:Hid (∀ k wr,k<s.past.length-m->On w b L (z3y s k) wr->∃ (last g c:Nat) (x:Was),s.past.length-k=last+1/\wr.cell? ⟨b,3,none⟩=some (.slice (some ⟨g,0,none⟩) (last+1) c)/\last<c /\
   wr.cell? ⟨g,last*3,none⟩=some (.string x.key)/\wr.cell? ⟨g,last*3+1,none⟩=some (.string x.val)/\wr.cell? ⟨g,last*3+2,none⟩=some (.bool x.there)/\wr.frozen? ⟨b,3,none⟩=false/\b<wr.heap.size /\
   Calls Tryz.prog 146 #[.pointer (some ⟨b,0,none⟩),.string x.key,.string x.val,.bool x.there] ((wr.setCell ⟨b,3,none⟩ (.slice (some ⟨g,0,none⟩) last last)).alloc (.cells #[.string x.key,.string x.val,.bool x.there] 198)) fun e w'=>(∃ u,e= .returned u)/\On w b L (z3y s (k+1)) w'):=fun k wr hk hO=>by
  have hp:=z6k s k;obtain⟨last,g,c,x,h1,c3,h2,e0,e1,e2,f3,hbw,hC⟩:=zml hO (hz k) (by omega);rw[World.setCell_alloc_past _ b 3 _ hbw]at hC;exact⟨last,g,c,x,by omega,c3,h2,e0,e1,e2,f3,hbw,hC⟩
 have HP:Hid (∀ k wr,On w b L (z3y s k) wr->(∃ a c,wr.cell? ⟨b,3,none⟩=some (.slice a (s.past.length-k) c))/\zgt b wr=s.past.length-k):=fun k wr hO=>by
  have h1:=hO.past.1;have h2:=hO.zgt;rw[z6k]at h1 h2;exact⟨h1,h2⟩
 have HE:Hid (s.undo m=z3y s (s.past.length-m)):=rfl;obtain⟨⟨a0,c0,hc0⟩,_⟩:=HP.out 0 w hO0;rw[Nat.sub_zero]at hc0;have HO0:=zh hO0;have hd1:decide ((m:Int)<0)=false:=decide_eq_false (by omega);have hd2:decide (((s.past.length:Nat):Int)<(m:Int))=false:=decide_eq_false (by omega);have hd3:decide (s.past.length<m)=false:=decide_eq_false (by omega);rw[HE.out];clear h hO0 hz HE;generalize s.past.length=n at *
 go_enter Tryz.func74,Tryz.ntmps74;go_wp2_with (go_at_call 142;refine HI.out.mono ?_;rintro e w' ⟨rfl,rfl⟩)
 go_loopw [5] (fun _ wr=>∃ k:Nat,k<=n-m/\On w b L (z3y s k) wr) (fun _ wr=>zgt b wr)
 case atStart=>exact⟨0,Nat.zero_le _,HO0.out⟩
 case round =>
  obtain⟨k,hk,hO⟩:=hrel;have HO:=zh hO;have HPN:=zh (HP.out k wr hO);clear hO HO0
  by_cases hlt:k<n-m
  ·obtain⟨last,g,c,x,h1,c3,hcap,e0,e1,e2,f3,hbw,hL⟩:=HR.out k wr hlt HO.out;have HL:=zh hL;have hne:=Nat.ne_of_lt hbw;have hne2:=Ne.symm hne;have hgt:decide ((m:Int)<(((last+1:Nat):Nat):Int))=true:=decide_eq_true (by omega);have hlast:((last+1:Nat):Int)-1=(last:Int):=by omega
   clear hL HR;go_wp2_with fail;refine zm HL.out ?_;rintro e w2 ⟨⟨u,rfl⟩,hO2⟩;have hO3:On w b L (z3y s (k+1)) w2:=hO2;have HO3:=zh hO3;have HP3:=zh (HP.out (k+1) w2 hO3);clear hO2 hO3 HL;go_wp2_with fail;go_roundw
   case rel=>exact⟨k+1,by omega,HO3.out⟩
   case measure=>rw[HP3.out.2,HPN.out.2];omega
  ·obtain rfl:k=n-m:=by omega
   obtain⟨⟨a1,c1,hc1⟩,_⟩:=HPN.out;have hnm:n-(n-m)=m:=by omega
   rw[hnm]at hc1;go_wp2_with fail;go_ret;exact⟨rfl,HO.out⟩
end Go.Proofs.YtnkilceibkkjlaaGreat
namespace Go.Proofs.YtnkilceibkkjlaaGreat
open Go.RowKit
theorem z6j:∀ {l m:List Ent},Sorted l->Sorted m->(∀ k,getE l k=getE m k)->l=m
 | [],[],_,_,_=>rfl
 | [],y::m,_,hm,h=>by
  have:=h y.1
  rw[z1g hm (k:=y.1) (v:=y.2) (by simp)]at this
  cases this
 | x::l,[],hl,_,h=>by
  have:=h x.1
  rw[z1g hl (k:=x.1) (v:=x.2) (by simp)]at this
  cases this
 | x::l,y::m,hl,hm,h=>by
  have hx:(x.1,x.2)∈y::m:=z2r (by rw[<- h x.1];exact z1g hl (by simp))
  have hy:(y.1,y.2)∈x::l:=z2r (by rw[h y.1];exact z1g hm (by simp))
  have hxy:x=y:=by
   rcases List.mem_cons.1 hx with e | hx
   ·exact e
   ·rcases List.mem_cons.1 hy with e | hy
    ·exact e.symm
    ·exact absurd ((List.pairwise_cons.1 hm).1 _ hx) (KLt.asymm ((List.pairwise_cons.1 hl).1 _ hy))
  subst hxy;congr 1;have hl':=(List.pairwise_cons.1 hl).2;have hm':=(List.pairwise_cons.1 hm).2;refine z6j hl' hm' fun k => ?_
  by_cases hk:x.1=k
  ·subst hk;have n1:getE l x.1=none:=z4g.2 fun hk=>by
    obtain⟨z,hz,he⟩:=List.mem_map.1 hk;exact KLt.ne ((List.pairwise_cons.1 hl).1 z hz) he.symm
   have n2:getE m x.1=none:=z4g.2 fun hk=>by
    obtain⟨z,hz,he⟩:=List.mem_map.1 hk;exact KLt.ne ((List.pairwise_cons.1 hm).1 z hz) he.symm
   rw[n1,n2]
  ·have e1:∀ v,getE l k=some v↔getE (x::l) k=some v:=fun v=>by
    constructor
    ·intro h1;exact z1g hl (List.mem_cons_of_mem _ (z2r h1))
    ·intro h1;rcases List.mem_cons.1 (z2r h1)with e | h2
     ·exact absurd (congrArg Prod.fst e).symm hk
     ·exact z1g hl' h2
   have e2:∀ v,getE m k=some v↔getE (x::m) k=some v:=fun v=>by
    constructor
    ·intro h1;exact z1g hm (List.mem_cons_of_mem _ (z2r h1))
    ·intro h1;rcases List.mem_cons.1 (z2r h1)with e | h2
     ·exact absurd (congrArg Prod.fst e).symm hk
     ·exact z1g hm' h2
   apply Option.ext;intro v;rw[e1,e2,h k]
theorem ztw{s:St}(hs:Sorted s.ents)(k:ByteArray)(l:List Ent)(hl:Sorted l)(hg:∀ j,j≠k->getE l j=getE s.ents j):layE l k (s.val k) (getE s.ents k).isSome=s.ents:=by
 unfold layE;cases hk:getE s.ents k with
 | none =>
  simp only[Option.isSome_none,Bool.false_eq_true,if_false];refine z6j (z5o hl k) hs fun j => ?_
  rw[z9k _ hl]
  by_cases hj:k=j
  ·subst hj;rw[if_pos rfl,hk]
  ·rw[if_neg hj,hg j (Ne.symm hj)]
 | some v =>
  simp only[Option.isSome_some,if_true];refine z6j (z5h hl k _) hs fun j => ?_
  rw[z9f _ hl]
  by_cases hj:k=j
  ·subst hj;rw[if_pos rfl,hk];unfold St.val;rw[hk];rfl
  ·rw[if_neg hj,hg j (Ne.symm hj)]
theorem zok{s:St}(hs:Sorted s.ents)(k v:ByteArray):s.put k v=s\/(z9b (s.put k v)=s/\(s.put k v).past.length=s.past.length+1):=by
 have one:∀ (l:List Ent),Sorted l->(∀ j,j≠k->getE l j=getE s.ents j)->z9b ⟨l,s.past ++ [s.was k]⟩=s:=fun l hl hg=>by
  unfold z9b;simp only[List.getLast?_append,List.getLast?_singleton,Option.some_or,List.dropLast_concat];unfold St.lay St.was;simp only;rw[ztw hs k l hl hg]
 unfold St.put;split
 ·unfold St.del;split
  ·refine .inr ⟨one _ (z5o hs k) fun j hj => ?_,by simp⟩;rw[z9k _ hs,if_neg (Ne.symm hj)]
  ·exact .inl rfl
 ·split
  ·exact .inl rfl
  ·unfold St.set;split
   ·exact .inl rfl
   ·refine .inr ⟨one _ (z5h hs k v) fun j hj => ?_,by simp⟩;rw[z9f _ hs,if_neg (Ne.symm hj)]
theorem zgi(s:St)(a:Nat):∀ b,z3y s (a+b)=z3y (z3y s a) b
 | 0=>rfl
 | b+1=>by rw[<- Nat.add_assoc,z3y,zgi s a b];rfl
def Und(s s':St):Prop:=s.past.length<=s'.past.length/\s'.undo s.past.length=s
theorem Und.refl(s:St):Und s s:=⟨Nat.le_refl _,by unfold St.undo;rw[Nat.sub_self];rfl⟩
theorem Und.put{s s':St}(h:Und s s')(hs:Sorted s'.ents)(k v:ByteArray):Und s (s'.put k v):=by
 rcases zok hs k v with e | ⟨e,hl⟩
 ·rw[e];exact h
 ·refine⟨by rw[hl];have:=h.1;omega,?_⟩;have:=h.1;unfold St.undo;rw[hl,show s'.past.length+1-s.past.length=1+(s'.past.length-s.past.length)by omega,zgi]
  show z3y (z9b (s'.put k v)) _=s
  rw[e];exact h.2
theorem z6o{s:St}(hs:Sorted s.ents)(k v:ByteArray):Sorted (s.put k v).ents:=by
 unfold St.put;split
 ·exact St.zep hs _
 ·split
  ·exact hs
  ·exact St.zdv hs _ _
theorem zsu(l:List Ent)(k v:ByteArray)(t:Bool):(layE l k v t).length<=l.length+1:=by
 unfold layE;split
 ·exact zcj l k v
 ·exact Nat.le_succ_of_le (zcn l k)
theorem zal{s:St}:∀ k,(z3y s k).size<=s.size
 | 0=>Nat.le_refl _
 | k+1=>by
  refine Nat.le_trans ?_ (zal k)
  show(z9b (z3y s k)).size<=_
  generalize z3y s k=u
  unfold z9b
  split
  ·rename_i x hx
   unfold St.lay St.size
   simp only[List.length_dropLast]
   have hp:0<u.past.length:=by
    cases hq:u.past with
    | nil=>rw[hq]at hx;cases hx
    | cons _ _=>simp
   have:=zsu u.ents x.key x.val x.there;omega
  ·exact Nat.le_refl _
theorem zz0(w:World)(h:Hand)(s:St)(m:Nat)(hq:QSt w h s)(hm:m<=s.past.length)(hz:s.size<1000000000000) :
  Calls Tryz.prog 74 #[.pointer h.ptr,.int .i64 m] w fun e w'=>(∃ b,e= .returned (.bool b))/\QOn w h (h.st s (s.undo m)) w':=by
 unfold Hand.st;rcases hq with⟨hon,b,hp,hS⟩ | ⟨hon,hN,hs,hl⟩
 ·rw[hp,if_pos hon];exact(zu3 w b s h.L m hS hm fun k=>Nat.lt_of_le_of_lt (zal k) hz).mono fun e w' ⟨he,L',hS',st⟩=>⟨⟨_,he⟩,L',.inl ⟨hon,b,hp,hS'⟩,st⟩
 ·rw[if_neg (by rw[hon];decide)];have HI:Hid (Calls Tryz.prog 142 #[.pointer h.ptr] w fun e w'=>e= .returned (.bool false)/\w=w'):=by
   rcases hN with h1 | ⟨b,h1,_,hc⟩
   ·rw[h1];exact is_nil w
   ·rw[h1];exact z8u w b false hc
  have HQ:Hid (QOn w h s w):=QOn.start (.inr ⟨hon,hN,hs,hl⟩);generalize h.ptr=q at *
  clear hN hl hs hm hz;go_enter Tryz.func74,Tryz.ntmps74;go_wp2_with (go_at_call 142;refine HI.out.mono ?_;rintro e w' ⟨rfl,rfl⟩);go_ret;exact⟨⟨_,rfl⟩,HQ.out⟩
end Go.Proofs.YtnkilceibkkjlaaGreat
namespace Go.Proofs.YtnkilceibkkjlaaGreat
open Go.RowKit
theorem zbx(p:ByteArray)(l:List Ent)(k:Nat)(x:Ent)(h:l[k]?=some x):z0o p (l.take (k+1))=z0o p (l.take k)++(if z3z p x.1 then [x]else []):=by
 have e:l.take (k+1)=l.take k ++ [x]:=by rw[List.take_add_one,h];rfl
 rw[e];unfold z0o;rw[List.filter_append];cases hp:z3z p x.1<;>simp[hp]
def z3e(w:World)(p:ByteArray)(l:List Ent)(k:Nat)(v:Value)(wr:World):Prop:=z4a w wr v (z0o p (l.take k)).length (z0o p (l.take k))
theorem z3e.yes{w wr:World}{p:ByteArray}{l:List Ent}{k:Nat}{v:Value}(h:z3e w p l k v wr){x:Ent}(hx:l[k]?=some x)(hp:z3z p x.1=true){o1 o2:Obj}{v':Value}{w':World}
  (hA:z0t ((wr.alloc o1).alloc o2) 156 2 v (z0o p (l.take k)).length 1 (z2a (z0o p (l.take k))) [.string x.1,.string x.2] v' w'):z3e w p l (k+1) v' w':=by
 unfold z3e;rw[zbx p l k x hx,hp];simp only[if_true,List.length_append,List.length_singleton];exact((z4a.alloc h _).alloc _).next (l2:=[x]) hA
theorem z3e.no{w wr:World}{p:ByteArray}{l:List Ent}{k:Nat}{v:Value}(h:z3e w p l k v wr){x:Ent}(hx:l[k]?=some x)(hp:z3z p x.1=false)(o:Obj):z3e w p l (k+1) v (wr.alloc o):=by
 unfold z3e;rw[zbx p l k x hx,hp];simp only[Bool.false_eq_true,if_false,List.append_nil];exact z4a.alloc h _
theorem zmg(w:World)(b:Nat)(s:St)(L:List Nat)(p:ByteArray)(h:RRep w b s L)(hn:s.ents.length<1000000000000) :
  Calls Tryz.prog 94 #[.pointer (some ⟨b,0,none⟩),.string p] w (z1x w (z0o p s.ents)):=by
 obtain⟨lv,pv,h,rfl⟩:=h;obtain⟨a,c,rfl,hE⟩:=h.ents;have hc:=hE.hd;have HAT:Hid (∀ wr k x,Below w.heap.size w wr->s.ents[k]?=some x->∃ g,a=some ⟨g,0,none⟩/\wr.cell? ⟨g,k*2,none⟩=some (.string x.1)/\wr.cell? ⟨g,k*2+1,none⟩=some (.string x.2)):=fun wr k x hb hx=>by
  obtain⟨g,h1,h2,h3⟩:=hE.at0 k x hx;exact⟨g,h1,by rw[hb.cell (p:=⟨g,k*2,none⟩) (World.block_lt_of_cell? w _ h2)];exact h2,by rw[hb.cell (p:=⟨g,k*2+1,none⟩) (World.block_lt_of_cell? w _ h3)];exact h3⟩
 have HGET:Hid (∀ k,k<s.ents.length->∃ x,s.ents[k]?=some x):=fun k hk=>⟨_,List.getElem?_eq_getElem hk⟩
 have HLEN:Hid (∀ k,(z0o p (s.ents.take k)).length<=k):=fun k=>Nat.le_trans (z3i _ _) (by rw[List.length_take];exact Nat.min_le_left _ _)
 have HEND:Hid (∀ v wr,z3e w p s.ents s.ents.length v wr->z1x w (z0o p s.ents) (.returned v) wr):=fun v wr hR=>by
  unfold z3e at hR;rw[List.take_length]at hR;exact⟨v,rfl,hR⟩
 have H0:Hid (z3e w p s.ents 0 (.slice none 0 0) w):=z4a.start w;generalize z1x w (z0o p s.ents)=R at *
 clear h hE;generalize s.ents=l at *
 obtain⟨n,hnl⟩:∃ n,l.length=n:=⟨_,rfl⟩;rw[hnl]at hn hc HEND HGET;clear hnl;go_enter Tryz.func94,Tryz.ntmps94;go_wp2_with fail
 go_loopw [5,13] (fun v iv wr=>∃ k:Nat,iv= .int .i64 k/\k<=n/\z3e w p l k v wr) (fun _ iv _=>n-(intOf iv).toNat)
 case atStart=>exact⟨0,rfl,by omega,H0.out⟩
 case round =>
  obtain⟨k,rfl,hk,hR⟩:=hrel;have HR:=zh hR;clear hR H0
  by_cases hlt:k<n
  ·obtain⟨x,hx⟩:=HGET.out k hlt;obtain⟨g,rfl,c1,c2⟩:=HAT.out wr k x HR.out.2.2 hx;have hlen:=HLEN.out k;have HX:=zh hx;clear hx
   by_cases hz:p.size<=x.1.size
   ·have hd:decide ((p.size:Int)<=(x.1.size:Int))=true:=by simpa using hz
    have he:=zcu x.1 p;cases hp:z3z p x.1 with
    | true =>
     rw[hp]at he;have hY:=fun o1 o2 v' w'=>HR.out.yes HX.out hp (o1:=o1) (o2:=o2) (v':=v') (w':=w')
     have HY:=zh hY;have HO:=zh HR.out;obtain⟨av,cv,hv⟩:∃ av cv,u5= .slice av (z0o p (l.take k)).length cv:=by
      obtain⟨_,a',c',h',_⟩:=HO.out.1.src;exact⟨a',c',h'⟩
     subst hv;clear hY hp HR HAT;have HOO:Hid (∀ o1 o2,Own ((wr.alloc o1).alloc o2) 156 2 (.slice av (z0o p (l.take k)).length cv) (z0o p (l.take k)).length (z2a (z0o p (l.take k)))):=fun o1 o2=>((z4a.alloc HO.out o1).alloc o2).1
     generalize (z0o p (l.take k)).length=m at *
     generalize z2a (z0o p (l.take k))=xs at *
     have HNEW:=fun o=>zgf (wr.alloc o) (.string x.1) (.string x.2) 156
     simp only[World.size_alloc]at HNEW;have HNEWS:=zh HNEW;clear HNEW;go_wp2_with (at_builtin;refine z07 rfl _ _ 42 42 rfl pairT pairT _ m xs rfl (HOO.out _ _) _ 1 _ [.string x.1,.string x.2] rfl rfl (HNEWS.out _) (zim _ _) (by unfold maxLen;omega) (by omega) ?_);intro v' w' hA;have HR2:=zh (HY.out _ _ _ _ hA);clear hA;go_wp2_with fail;go_roundw
     case rel=>exact⟨k+1,by go_num,by omega,HR2.out⟩
     case measure=>simp[intOf];omega
    | false =>
     rw[hp]at he;have HN:=zh (HR.out.no HX.out hp);clear hp HR HAT;go_wp2_with fail;go_roundw
     case rel=>exact⟨k+1,by go_num,by omega,HN.out _⟩
     case measure=>simp[intOf];omega
   ·have hd:decide ((p.size:Int)<=(x.1.size:Int))=false:=by simpa using hz
    have HN:=zh (HR.out.no HX.out (zcx hz));clear HR HAT;go_wp2_with fail;go_roundw
    case rel=>exact⟨k+1,by go_num,by omega,HN.out _⟩
    case measure=>simp[intOf];omega
  ·obtain rfl:k=n:=by omega
   have HE2:=zh (HEND.out _ _ HR.out);go_wp2_with fail;exact HE2.out
end Go.Proofs.YtnkilceibkkjlaaGreat
namespace Go.Proofs.YtnkilceibkkjlaaGreat
open Go.RowKit
def zz9:List UInt8->Option (Nat × List Nat)
 | []=>none
 | t::r=>if t=0 then none else(numsL r).map fun ns=>(t.toNat,ns)
def z2e(k:ByteArray):Option (Nat × List Nat):=zz9 k.data.toList
def z1p(w:World)(R:Option (Nat × List Nat))(e:Ending)(w':World):Prop:=Below w.heap.size w w' /\
 match R with
 | some (t,ns)=>∃ v,e= .returned (.tuple #[.int .i64 t,v,.bool true])/\Own w' 3 1 v ns.length (ns.map fun (n:Nat)=>Value.int .i64 n)/\∀ k,v.ownBlock=some k->w.heap.size<=k
 | none=>e= .returned (.tuple #[.int .i64 0,.slice none 0 0,.bool false])
theorem zh5(k:ByteArray):(k.extract 1 k.size).data.toList=k.data.toList.drop 1:=by
 have h:(k.extract 1 k.size).data=k.data.extract 1 k.size:=by simp[ByteArray.data_extract]
 rw[h];have e:k.size=k.data.toList.length:=by rw[Array.length_toList];rfl
 rw[e];simp;rw[List.take_of_length_le (by rw[List.length_tail,e,Array.length_toList];simp)]
theorem zc0(k:ByteArray)(h:k.size=0):z2e k=none:=by
 obtain⟨⟨l⟩⟩:=k;cases l with
 | nil=>rfl
 | cons x r=>simp[ByteArray.size]at h
theorem zd0(k:ByteArray)(h:0<k.size):z2e k=if ((k[0]'h).toNat:Int)=0 then none else(numsL (k.extract 1 k.size).data.toList).map fun ns=>((k[0]'h).toNat,ns):=by
 rw[zh5];obtain⟨⟨l⟩⟩:=k;cases l with
 | nil=>simp[ByteArray.size]at h
 | cons x r =>
  show(if x=0 then none else(numsL r).map fun ns=>(x.toNat,ns))=if ((x.toNat:Nat):Int)=0 then none else(numsL r).map fun ns=>(x.toNat,ns)
  by_cases hx:x=0
  ·subst hx;rfl
  ·rw[if_neg hx,if_neg (fun e=>hx (by apply UInt8.toNat_inj.1;show x.toNat=0;omega))]
theorem zjw(k:ByteArray)(h:0<k.size):k.toList.isEmpty=false:=by
 rw[ByteArray.toList_eq];obtain⟨⟨l⟩⟩:=k;cases l with
 | nil=>simp[ByteArray.size]at h
 | cons x r=>rfl
theorem parse_any(k:ByteArray)(hk:k.size<1000000000000)(w:World):Calls Tryz.prog 159 #[.string k] w (z1p w (z2e k)):=by
 by_cases h0:k.size=0
 ·have HE:Hid (z1p w (z2e k) (.returned (.tuple #[.int .i64 0,.slice none 0 0,.bool false])) w):=by
   rw[zc0 k h0];exact⟨Below.refl _ _,rfl⟩
  obtain rfl:k=⟨#[]⟩:=by
   obtain⟨⟨l⟩⟩:=k;cases l with
   | nil=>rfl
   | cons x r=>simp[ByteArray.size]at h0
  generalize z1p w (z2e ⟨#[]⟩)=R at *
  clear h0 hk;go_enter Tryz.func159,Tryz.ntmps159;go_wp2_with fail;exact HE.out
 ·have hlt:0<k.size:=by omega
  have he:=zjw k hlt;have hP:=zd0 k hlt
  by_cases hz:((k[0]'hlt).toNat:Int)=0
  ·have HE:Hid (z1p w (z2e k) (.returned (.tuple #[.int .i64 0,.slice none 0 0,.bool false])) w):=by
    rw[hP,if_pos hz];exact⟨Below.refl _ _,rfl⟩
   have hzb:(((k[0]'hlt).toNat:Int)==0)=true:=by rw[beq_iff_eq];exact hz
   generalize z1p w (z2e k)=R at *
   clear hP;go_enter Tryz.func159,Tryz.ntmps159;go_wp2_with fail;exact HE.out
  ·have hzb:(((k[0]'hlt).toNat:Int)==0)=false:=by rw[beq_eq_false_iff_ne];exact hz
   rw[if_neg hz]at hP;have HC:Hid (Calls Tryz.prog 147 #[.string (k.extract 1 k.size)] w fun e w'=>∃ v b,e= .returned (.tuple #[v,.bool b])/\(b=true->z1p w (z2e k) (.returned (.tuple #[.int .i64 (wrap64 (k[0]'hlt).toNat),v,.bool true])) w')/\(b=false->z1p w (z2e k) (.returned (.tuple #[.int .i64 0,.slice none 0 0,.bool false])) w')):=by
    have hw:wrap64 ((k[0]'hlt).toNat:Int)=((k[0]'hlt).toNat:Int):=by
     have:=UInt8.toNat_lt (k[0]'hlt);unfold wrap64;omega
    rw[hw];refine(zf5 (k.extract 1 k.size) (by rw[ByteArray.size_extract];omega) w).mono fun e w' ⟨hb,hR⟩ => ?_
    rw[hP];cases hx:numsL (k.extract 1 k.size).data.toList with
    | none =>
     rw[hx]at hR;have hR':e= .returned (.tuple #[.slice none 0 0,.bool false]):=hR;exact⟨.slice none 0 0,false,hR',fun h=>(by cases h),fun _=>⟨hb,rfl⟩⟩
    | some ns =>
     rw[hx]at hR;obtain⟨v,he,ho,hg⟩:=hR;exact⟨v,true,he,fun _=>⟨hb,v,rfl,ho,hg⟩,fun h=>(by cases h)⟩
   generalize z1p w (z2e k)=R at *
   clear hP hz h0 hk;go_enter Tryz.func159,Tryz.ntmps159;go_wp2_with fail;refine zm HC.out ?_;rintro e w' ⟨v,b,rfl,hT,hF⟩;cases b with
   | true =>
    have HT:=zh (hT rfl);clear hT hF HC;go_wp2_with fail;exact HT.out
   | false =>
    have HF:=zh (hF rfl);clear hT hF HC;go_wp2_with fail;exact HF.out
theorem zmt(k:ByteArray)(hk:k.size<1000000000000)(w:World):Calls Tryz.prog 96 #[.string k] w (z1p w (z2e k)):=by
 by_cases h0:k.size=0
 ·have HE:Hid (z1p w (z2e k) (.returned (.tuple #[.int .i64 0,.slice none 0 0,.bool false])) w):=by
   rw[zc0 k h0];exact⟨Below.refl _ _,rfl⟩
  obtain rfl:k=⟨#[]⟩:=by
   obtain⟨⟨l⟩⟩:=k;cases l with
   | nil=>rfl
   | cons x r=>simp[ByteArray.size]at h0
  generalize z1p w (z2e ⟨#[]⟩)=R at *
  clear h0 hk;go_enter Tryz.func96,Tryz.ntmps96;go_wp2_with fail;exact HE.out
 ·have hlt:0<k.size:=by omega
  have he:((k.size:Int)==0)=false:=by rw[beq_eq_false_iff_ne];omega
  have hk0:(0:Int)<(k.size:Int):=by omega
  have hP:=zd0 k hlt
  by_cases hz:((k[0]'hlt).toNat:Int)=0
  ·have HE:Hid (z1p w (z2e k) (.returned (.tuple #[.int .i64 0,.slice none 0 0,.bool false])) w):=by
    rw[hP,if_pos hz];exact⟨Below.refl _ _,rfl⟩
   have hzb:(((k[0]'hlt).toNat:Int)==0)=true:=by rw[beq_iff_eq];exact hz
   generalize z1p w (z2e k)=R at *
   clear hP;go_enter Tryz.func96,Tryz.ntmps96;go_wp2_with fail;exact HE.out
  ·have hzb:(((k[0]'hlt).toNat:Int)==0)=false:=by rw[beq_eq_false_iff_ne];exact hz
   rw[if_neg hz]at hP;have HC:Hid (Calls Tryz.prog 167 #[.string (k.extract 1 k.size)] w fun e w'=>∃ v b,e= .returned (.tuple #[v,.bool b])/\(b=true->z1p w (z2e k) (.returned (.tuple #[.int .i64 (wrap64 (k[0]'hlt).toNat),v,.bool true])) w')/\(b=false->z1p w (z2e k) (.returned (.tuple #[.int .i64 0,.slice none 0 0,.bool false])) w')):=by
    have hw:wrap64 ((k[0]'hlt).toNat:Int)=((k[0]'hlt).toNat:Int):=by
     have:=UInt8.toNat_lt (k[0]'hlt);unfold wrap64;omega
    rw[hw];refine(zby (k.extract 1 k.size) (by rw[ByteArray.size_extract];omega) w).mono fun e w' ⟨hb,hR⟩ => ?_
    rw[hP];cases hx:numsL (k.extract 1 k.size).data.toList with
    | none =>
     rw[hx]at hR;have hR':e= .returned (.tuple #[.slice none 0 0,.bool false]):=hR;exact⟨.slice none 0 0,false,hR',fun h=>(by cases h),fun _=>⟨hb,rfl⟩⟩
    | some ns =>
     rw[hx]at hR;obtain⟨v,he,ho,hg⟩:=hR;exact⟨v,true,he,fun _=>⟨hb,v,rfl,ho,hg⟩,fun h=>(by cases h)⟩
   generalize z1p w (z2e k)=R at *
   clear hP hz h0 hk;go_enter Tryz.func96,Tryz.ntmps96;go_wp2_with fail;refine zm HC.out ?_;rintro e w' ⟨v,b,rfl,hT,hF⟩;cases b with
   | true =>
    have HT:=zh (hT rfl);clear hT hF HC;go_wp2_with fail;exact HT.out
   | false =>
    have HF:=zh (hF rfl);clear hT hF HC;go_wp2_with fail;exact HF.out
end Go.Proofs.YtnkilceibkkjlaaGreat
namespace Go.Proofs.YtnkilceibkkjlaaGreat
open Go.RowKit Go.Shelf
theorem z5y{α β:Type}(f:α->Option β)(l:List α)(i:Nat)(x:α)(h:l[i]?=some x):(l.take (i+1)).filterMap f=(l.take i).filterMap f++(f x).toList:=by
 rw[z1u l i x h,List.filterMap_append];cases hf:f x<;>simp[hf]
theorem zfk{α β:Type}(f:α->Option β)(l:List α):(l.filterMap f).length<=l.length:=List.length_filterMap_le ..
end Go.Proofs.YtnkilceibkkjlaaGreat
namespace Go.Proofs.YtnkilceibkkjlaaGreat
open Go.RowKit
def z2d(w2:World)(f:List Int)(v:Value)(wr:World):Prop:=Own wr 3 1 v f.length (f.map fun n=>Value.int .i64 n)/\(∀ g,v.ownBlock=some g->w2.heap.size<=g)/\Below w2.heap.size w2 wr
theorem z2d.below{w2 wr w':World}{f:List Int}{v:Value}(h:z2d w2 f v wr)(hb:Below wr.heap.size wr w'):z2d w2 f v w':=
 ⟨h.1.frame fun k hk=>hb.block k (h.1.lt k hk),h.2.1,h.2.2.trans (hb.mono h.2.2.size)⟩
theorem z2d.push{w2 w3 w':World}{f:List Int}{v v':Value}(h:z2d w2 f v w3){o:Obj}{n:Int}(hA:z0t (w3.alloc o) 3 1 v f.length 1 (f.map fun n=>Value.int .i64 n) [.int .i64 n] v' w'):z2d w2 (f ++ [n]) v' w':=by
 have h0:=h.below ((Below.refl _ w3).alloc (Nat.le_refl _) o);refine⟨by rw[List.map_append,List.length_append];exact hA.own,fun g hg => ?_,h0.2.2.grown hA.grown h0.2.2.size h0.2.1⟩;rcases hA.block g hg with h1 | h1
 ·exact h0.2.1 g h1
 ·exact Nat.le_trans h0.2.2.size h1
theorem z2d.form{w2 wr:World}{f:List Int}{v:Value}(h:z2d w2 f v wr):∃ a c,v= .slice a f.length c:=by
 obtain⟨a,c,e,_⟩:=h.1.form;exact⟨a,c,e⟩
structure z8t (w:World) (a:Option Addr) (l:List Int):Prop where
 at0:∀ k x,l[k]?=some x->∃ g,a=some ⟨g,0,none⟩/\w.cell? ⟨g,k,none⟩=some (.int .i64 x)
theorem z8t.below{w w':World}{a:Option Addr}{l:List Int}(h:z8t w a l)(hb:Below w.heap.size w w'):z8t w' a l:=
 ⟨fun k x hk=>by
  obtain⟨g,h1,h2⟩:=h.at0 k x hk
  exact⟨g,h1,by rw[hb.cell (p:=⟨g,k,none⟩) (World.block_lt_of_cell? w _ h2)];exact h2⟩⟩
theorem Own.nums{w:World}{v:Value}{l:List Int}(h:Own w 3 1 v l.length (l.map fun n=>Value.int .i64 n)):∃ a c,v= .slice a l.length c/\z8t w a l:=by
 obtain⟨a,c,rfl,hc⟩:=h.form;refine⟨a,c,rfl,⟨fun k x hk => ?_⟩⟩;exact hc k _ (by rw[List.getElem?_map,hk];rfl)
theorem zqc{w:World}{b e:Nat}{size:Nat}{v:Value}{n:Nat}{xs:List Value}(h:w.ownsRow b e size v n xs):Own w e size v n xs:=by
 refine⟨h.1,?_⟩;rcases h.2 with h0 | ⟨g,cap,cur,h1,_,h3,h4,h5,h6,h7⟩
 ·exact .inl h0
 ·exact .inr ⟨g,cap,cur,h1,h3,h4,h5,by omega,h7⟩
theorem zhu(w:World)(a1 a2:Option Addr)(c1 c2:Nat)(l:List Int)(h1:z8t w a1 l)(h2:z8t w a2 l)(hl:l.length<1000000000000) :
  Calls Tryz.prog 51 #[.slice a1 l.length c1,.slice a2 l.length c2] w fun e w'=>e= .returned (.bool true)/\Below w.heap.size w w':=by
 have hne:(((l.length:Int)) != (l.length:Int))=false:=by simp
 have H1:=zh (fun (q:Nat)=>(h1.below (below_drewN (Below.refl _ w) q)).at0);have H2:=zh (fun (q:Nat)=>(h2.below (below_drewN (Below.refl _ w) q)).at0);have HG:Hid (∀ k,k<l.length->∃ x,l[k]?=some x):=fun k hk=>⟨_,List.getElem?_eq_getElem hk⟩
 clear h1 h2;generalize l.length=n at *
 go_enter Tryz.func51,Tryz.ntmps51;go_wp2_with fail
 go_loopw [13] (fun i wr=>∃ k q:Nat,i= .int .i64 k/\k<=n/\w.drewN q=wr) (fun i _=>n-(intOf i).toNat)
 case atStart=>exact⟨0,0,rfl,by omega,rfl⟩
 case round =>
  obtain⟨k,q,rfl,hk,hw⟩:=hrel
  by_cases hlt:k<n
  ·obtain⟨x,hx⟩:=HG.out k hlt;obtain⟨g1,rfl,e1⟩:=H1.out q k x hx;obtain⟨g2,rfl,e2⟩:=H2.out q k x hx;rw[hw]at e1 e2;have HWE:=zh hw;have hk0:(0:Int)<=(k:Int):=Int.natCast_nonneg _;have hk1:(k:Int)<(n:Int):=by omega
   have hxx:(x != x)=false:=by simp
   clear hx hw H1 H2;go_wp2_with fail
   go_quiet (fail)
   go_wp2;go_roundw
   case rel=>exact⟨k+1,q+_,by go_num,by omega,by rw[<- HWE.out,World.drewN_drewN]⟩
   case measure=>simp[intOf];omega
  ·obtain rfl:k=n:=by omega
   go_wp2;go_ret;exact⟨rfl,by rw[<- hw];exact below_drewN (Below.refl _ w) q⟩
end Go.Proofs.YtnkilceibkkjlaaGreat
namespace Go.Proofs.YtnkilceibkkjlaaGreat
open Go.RowKit
theorem z6v(W:World)(x:Int):z0w (W.alloc (.cells #[.int .i64 x] 3)) (.slice (some ⟨W.heap.size,0,none⟩) 1 1) [x]:=
 z7i (l:=[x]) fun j z hj=>by
  rw[cell_of_row _ _ _ _ _ _ (heap_alloc_new W _)]
  match j,hj with
  | 0,hj=>cases hj;rfl
theorem zpr(w:World)(h:Hand)(s:St)(p:ByteArray)(hq:QSt w h s)(hz:s.size<1000000000000):Calls Tryz.prog 101 #[.pointer h.ptr,.string p] w (z1x w (z0o p s.ents)):=by
 rcases hq with⟨_,b,hp,hS⟩ | ⟨_,hN,hs,_⟩
 ·rw[hp];exact zh6 w b s h.L p hS hz
 ·subst hs;exact zpj w h.ptr p hN
end Go.Proofs.YtnkilceibkkjlaaGreat
namespace Go.Proofs.YtnkilceibkkjlaaGreat
open Go.RowKit
end Go.Proofs.YtnkilceibkkjlaaGreat
namespace Go.Proofs.YtnkilceibkkjlaaGreat
open Go.RowKit
theorem zl1(w:World):Calls Tryz.prog 194 #[] w fun e w'=>e= .returned (uV oneW)/\Below w.heap.size w w':=by
 have hr:(w.alloc (.cells #[.int .u64 1000000000000000000,.int .u64 0,.int .u64 0,.int .u64 0] 24)).heap[w.heap.size]?=some (.cells (uL oneW) 24 (0,0)):=heap_alloc_new w (.cells (uL oneW) 24);have HR:=zh hr;have HB:=zh (z04 (Below.refl _ w) (.cells (uL oneW) 24));clear hr;go_enter Tryz.func194,Tryz.ntmps194;go_wp2_with fail;refine bodyPost_ret (results_cell_row rfl _ _ w.heap.size 24 (uL oneW) (0,0) _ rfl HR.out Tryz.underlying24 rfl (by kernel_rfl)) rfl ?_;exact⟨rfl,HB.out⟩
def zae:W4:=(18446744073709551615,18446744073709551615,0,0)
theorem ztz:uN zae=340282366920938463463374607431768211455:=by decide
theorem zx7:zae.Ok:=⟨by decide,by decide,by decide,by decide⟩
theorem zpo(w:World):Calls Tryz.prog 229 #[] w fun e w'=>e= .returned (uV zae)/\Below w.heap.size w w':=by
 have hr:(w.alloc (.cells #[.int .u64 18446744073709551615,.int .u64 18446744073709551615,.int .u64 0,.int .u64 0] 24)).heap[w.heap.size]?=some (.cells (uL zae) 24 (0,0)):=heap_alloc_new w (.cells (uL zae) 24);have HR:=zh hr;have HB:=zh (z04 (Below.refl _ w) (.cells (uL zae) 24));clear hr;go_enter Tryz.func229,Tryz.ntmps229;go_wp2_with fail;refine bodyPost_ret (results_cell_row rfl _ _ w.heap.size 24 (uL zae) (0,0) _ rfl HR.out Tryz.underlying24 rfl (by kernel_rfl)) rfl ?_;exact⟨rfl,HB.out⟩
theorem zn8(x:W4)(hx:x.Ok)(w:World):Calls Tryz.prog 130 #[uV x] w fun e w'=>e= .returned (.bool (decide (uN x<=1000000000000000000)))/\Below w.heap.size w w':=by
 have HV:=zh (VAt.start w [x]).drew;have HC:Hid (∀ W,Calls Tryz.prog 10 #[uV x,uV oneW] W fun e w'=>e= .returned (.int .i64 (uCmp x oneW))/\Below W.heap.size W w'):=zhf x oneW hx z9z;obtain⟨c,hc'⟩:∃ c,c=decide (uN x<=1000000000000000000):=⟨_,rfl⟩;have hc:decide (uCmp x oneW<=0)=c:=by rw[hc'];exact decide_eq_decide.2 (by rw[z6l,zg0])
 rw[<- hc'];clear hc';go_enter Tryz.func130,Tryz.ntmps130;go_wp2_with fail;go_upto_region 1 with fail;refine z16 [[],[],[0,1],[0,1,2],[0,1,2,3]]
  [rgC (VAt w [x]),rgV 0 (uV x),rgV 1 (uV oneW),rgV 2 (.int .i64 (uCmp x oneW)),rgV 3 (.bool c),rgV 4 (.bool c)] _ (by kernel_rfl) (by kernel_rfl) (by kernel_rfl)
  (fun vs=>by simp only[z14,z1i,List.setIfInBounds_toArray,List.set_cons_zero,List.set_cons_succ];exact rfl)
  ⟨fun _ _ _ hb h=>h.below hb,z02,z02,z02,z02,z02,trivial⟩ ?_ ?_ ?_
 ·refine z0p rfl HV.out ?_;iterate 5 refine z0u rfl ?_
  exact trivial
 ·refine⟨?_,?_,?_,?_,?_,trivial⟩
  ·rintro vs w1 ⟨hC,_⟩ K hK;refine z1b rfl rfl rfl (hC.r 0 x rfl) (hK _ _ (.inl zb) ?_);exact z01 1
  ·rintro vs w1 ⟨_,_⟩ K hK;refine z0v rfl rfl rfl (by kernel_rfl) rfl (zm (zl1 _) ?_);rintro e w2 ⟨rfl,hb⟩;refine⟨_,rfl,hK _ _ (.inl hb) ?_⟩;exact z01 2
  ·rintro vs w1 ⟨_,e0,e1,_⟩ K hK;refine z0v rfl rfl rfl (by kernel_rfl) (show [vs 0,vs 1]=_ from by rw[rg1 e0,rg1 e1]) (zm (HC.out _) ?_);rintro e w2 ⟨rfl,hb⟩;refine⟨_,rfl,hK _ _ (.inl hb) ?_⟩;exact z01 3
  ·rintro vs w1 ⟨_,_,_,e2,_⟩ K hK;refine zpb rfl rfl (rg1 e2) hc (hK _ _ (.inl zb) ?_);exact z01 4
  ·rintro vs w1 ⟨_,_,_,_,e3,_⟩ K hK;refine z08 rfl (.inr rfl) (rg1 e3) (hK _ _ (.inl zb) ?_);exact z01 5
 ·intro vs w1 hA;obtain⟨hC,e0,e1,e2,e3,e4,_⟩:=hA;have e0:=rg1 e0;have e1:=rg1 e1;have e2:=rg1 e2;have e3:=rg1 e3;have e4:=rg1 e4;simp only[e0,e1,e2,e3,e4];have HB:=zh hC.b;go_wp2_with fail;go_ret;exact⟨rfl,HB.out⟩
theorem z97(x:W4)(hx:x.Ok)(w:World):Calls Tryz.prog 182 #[uV x] w fun e w'=>e= .returned (.bool (decide (uN x<M128)))/\Below w.heap.size w w':=by
 have HV:=zh (VAt.start w [x]).drew;have HC:Hid (∀ W,Calls Tryz.prog 10 #[uV x,uV zae] W fun e w'=>e= .returned (.int .i64 (uCmp x zae))/\Below W.heap.size W w'):=zhf x zae hx zx7;obtain⟨c,hc'⟩:∃ c,c=decide (uN x<M128):=⟨_,rfl⟩;have hc:decide (uCmp x zae<=0)=c:=by
  rw[hc'];refine decide_eq_decide.2 ?_;rw[z6l,ztz];unfold M128;omega
 rw[<- hc'];clear hc';go_enter Tryz.func182,Tryz.ntmps182;go_wp2_with fail;go_upto_region 1 with fail;refine z16 [[],[],[0,1],[0,1,2],[0,1,2,3]]
  [rgC (VAt w [x]),rgV 0 (uV x),rgV 1 (uV zae),rgV 2 (.int .i64 (uCmp x zae)),rgV 3 (.bool c),rgV 4 (.bool c)] _ (by kernel_rfl) (by kernel_rfl) (by kernel_rfl)
  (fun vs=>by simp only[z14,z1i,List.setIfInBounds_toArray,List.set_cons_zero,List.set_cons_succ];exact rfl)
  ⟨fun _ _ _ hb h=>h.below hb,z02,z02,z02,z02,z02,trivial⟩ ?_ ?_ ?_
 ·refine z0p rfl HV.out ?_;iterate 5 refine z0u rfl ?_
  exact trivial
 ·refine⟨?_,?_,?_,?_,?_,trivial⟩
  ·rintro vs w1 ⟨hC,_⟩ K hK;refine z1b rfl rfl rfl (hC.r 0 x rfl) (hK _ _ (.inl zb) ?_);exact z01 1
  ·rintro vs w1 ⟨_,_⟩ K hK;refine z0v rfl rfl rfl (by kernel_rfl) rfl (zm (zpo _) ?_);rintro e w2 ⟨rfl,hb⟩;refine⟨_,rfl,hK _ _ (.inl hb) ?_⟩;exact z01 2
  ·rintro vs w1 ⟨_,e0,e1,_⟩ K hK;refine z0v rfl rfl rfl (by kernel_rfl) (show [vs 0,vs 1]=_ from by rw[rg1 e0,rg1 e1]) (zm (HC.out _) ?_);rintro e w2 ⟨rfl,hb⟩;refine⟨_,rfl,hK _ _ (.inl hb) ?_⟩;exact z01 3
  ·rintro vs w1 ⟨_,_,_,e2,_⟩ K hK;refine zpb rfl rfl (rg1 e2) hc (hK _ _ (.inl zb) ?_);exact z01 4
  ·rintro vs w1 ⟨_,_,_,_,e3,_⟩ K hK;refine z08 rfl (.inr rfl) (rg1 e3) (hK _ _ (.inl zb) ?_);exact z01 5
 ·intro vs w1 hA;obtain⟨hC,e0,e1,e2,e3,e4,_⟩:=hA;have e0:=rg1 e0;have e1:=rg1 e1;have e2:=rg1 e2;have e3:=rg1 e3;have e4:=rg1 e4;simp only[e0,e1,e2,e3,e4];have HB:=zh hC.b;go_wp2_with fail;go_ret;exact⟨rfl,HB.out⟩
theorem zcl(w:World):Calls Tryz.prog 191 #[] w fun e w'=>e= .returned (uV sqW)/\Below w.heap.size w w':=by
 have HV:=zh (VAt.vr (l:=[]) (VAt.start w [(0,0,0,0)])).vp;have HO:Hid (∀ W,VP w [] 0 [] W->Calls Tryz.prog 194 #[] W fun e w'=>e= .returned (uV oneW)/\VP w [] 0 [] w'):=fun W hW=>(zl1 W).mono fun e w' ⟨he,hb⟩=>⟨he,hW.below hb⟩
 have HM:Hid (∀ W,VP w [] 0 [] W->Calls Tryz.prog 38 #[uV oneW,uV oneW] W fun e w'=>e= .returned (.tuple #[uV sqW,.bool true])/\VP w [] 0 [] w'):=fun W hW=>by
  have h1:toW (uN oneW*uN oneW)=sqW:=by rw[zg0];rfl
  have h2:toB (uN oneW*uN oneW)=true:=by rw[zg0];decide
  rw[<- h1,<- h2];exact(zyp oneW oneW z9z z9z W).mono fun e w' ⟨he,hb⟩=>⟨he,hW.below hb⟩
 generalize sqW=s at *
 go_enter Tryz.func191,Tryz.ntmps191;go_wp2_with fail;refine zm (HO.out _ HV.out) ?_;rintro e w2 ⟨rfl,hV2⟩;have HV2:=zh hV2;clear hV2;go_wp2_with fail;refine zm (HO.out _ HV2.out) ?_;rintro e w3 ⟨rfl,hV3⟩;have HV3:=zh hV3;clear hV3;go_wp2_with fail;refine zm (HM.out _ HV3.out) ?_;rintro e w4 ⟨rfl,hV4⟩;have hV5:=hV4.alloc s;clear hV4 HV HV2 HV3 HO HM;go_upto_region 2 with fail;generalize w4.alloc (.cells (uL s) 24)=w5 at *
 generalize w4.heap.size=g at *
 obtain⟨z,z0,z1,z2,z3,z4,z5,z6,z7⟩:=hV5.vr.zc;simp only[Nat.add_zero]at z0 z1 z2 z3 z4 z5 z6 z7;have hne:w.heap.size≠g:=Nat.ne_of_lt (hV5.p _ _ (List.mem_cons_self ..)).1;have hne2:=Ne.symm hne;obtain⟨s0,s1,s2,s3,_⟩:=row4 hV5.p0;have HR:=zh (hV5.vr.res s);clear hV5;go_wp2_with fail;refine bodyPost_ret (results_cell_row rfl _ _ w.heap.size 24 (uL s) (0,0) _ rfl HR.out.2 Tryz.underlying24 rfl (by kernel_rfl)) rfl ?_;exact⟨rfl,HR.out.1⟩
end Go.Proofs.YtnkilceibkkjlaaGreat
