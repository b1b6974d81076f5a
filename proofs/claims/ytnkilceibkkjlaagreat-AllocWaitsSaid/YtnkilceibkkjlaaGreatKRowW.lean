/- What is proved here: the store's Undo, of the program. It -/
import Derived.Test.YtnkilceibkkjlaaGreatKHoldB
import Derived.Defers
set_option maxRecDepth 100000
set_option maxHeartbeats 16000000
namespace Go.Proofs.YtnkilceibkkjlaaGreat
open Go.RowKit
def z8t(s:St):St:=match s.past.getLast? with
 | some x=>(⟨s.ents,s.past.dropLast⟩:St).lay x.key x.val x.there
 | none=>s
def z4e(s:St):Nat->St
 | 0=>s
 | k+1=>z8t (z4e s k)
def St.undo(s:St)(m:Nat):St:=z4e s (s.past.length-m)
theorem zm1(s:St):(z8t s).past.length=s.past.length-1:=by
 unfold z8t;split
 ·simp[St.lay]
 ·rename_i h;rw[List.getLast?_eq_none_iff]at h;rw[h];rfl
theorem z6a(s:St):∀ k,(z4e s k).past.length=s.past.length-k
 | 0=>rfl
 | k+1=>by rw[z4e,zm1,z6a s k];omega
theorem lay_all(w:World)(b mb:Nat)(es:Array MapEntry)(clk:Nat)(bv pv:Value)(bs:List Blk)(s:St)(k v:ByteArray)(t:Bool)(h:SAt w b mb es clk bv pv bs s)(hb:s.ents.length<1000000000000) :
  Calls Tryz.prog 146 #[.pointer (some ⟨b,0,none⟩),.string k,.string v,.bool t] w fun e w'=>(∃ u,e= .returned u)/\Laid w b mb bv pv bs (s.lay k v t) w':=by
 cases t with
 | true =>
  cases hk:(getE s.ents k).isSome with
  | false=>exact(zd9 w b mb es clk bv pv bs s k v h hb hk).mono fun e w' h1=>⟨⟨_,h1.1⟩,h1.2⟩
  | true=>exact(zdn w b mb es clk bv pv bs s k v h hk).mono fun e w' h1=>⟨⟨_,h1.1⟩,h1.2⟩
 | false =>
  cases hk:(getE s.ents k).isSome with
  | false=>exact(zsh w b mb es clk bv pv bs s k v h hk).mono fun e w' h1=>⟨⟨_,h1.1⟩,h1.2⟩
  | true=>exact(zpw w b mb es clk bv pv bs s k v h hb hk).mono fun e w' h1=>⟨⟨_,h1.1⟩,h1.2⟩
theorem zqu(p:List Was):(p.flatMap z0i).length=p.length*3:=by
 induction p with
 | nil=>rfl
 | cons a t ih=>rw[List.flatMap_cons,List.length_append,ih];simp[z0i];omega
def zzb(w:World)(b:Nat)(L:List Nat)(s:St)(wr:World):Prop:=∃ (last g c:Nat) (x:Was),s.past.length=last+1/\wr.cell? ⟨b,3,none⟩=some (.slice (some ⟨g,0,none⟩) (last+1) c)/\last<c /\
 wr.cell? ⟨g,last*3,none⟩=some (.string x.key)/\wr.cell? ⟨g,last*3+1,none⟩=some (.string x.val)/\wr.cell? ⟨g,last*3+2,none⟩=some (.bool x.there)/\wr.frozen? ⟨b,3,none⟩=false/\b<wr.heap.size /\
 Calls Tryz.prog 146 #[.pointer (some ⟨b,0,none⟩),.string x.key,.string x.val,.bool x.there] ((wr.alloc (.cells (z0i x).toArray 198)).setCell ⟨b,3,none⟩ (.slice (some ⟨g,0,none⟩) last last)) fun e w'=>(∃ u,e= .returned u)/\On w b L (z8t s) w'
theorem zlt{w:World}{b:Nat}{L:List Nat}{s:St}{wr:World}(h:On w b L s wr)(hz:s.size<1000000000000)(hne:0<s.past.length):zzb w b L s wr:=by
 obtain⟨L',⟨mb,es,clk,bv,pv,bs,hS,rfl⟩,st⟩:=h;obtain⟨p,x,hp⟩:∃ p x,s.past=p ++ [x]:=⟨s.past.dropLast,s.past.getLast (by intro e;rw[e]at hne;exact absurd hne (by decide)),(List.dropLast_concat_getLast _).symm⟩;have hlen:s.past.length=p.length+1:=by rw[hp];simp
 have hps:=hS.ps;rw[hlen,hp]at hps;obtain⟨_,h0 | ⟨g,cap,cur,rfl,hg,h1,h2,h3,h4⟩⟩:=hps
 ·exact absurd h0.2 (by omega)
 obtain⟨_,_,_,c3,hfz⟩:=z0q hS.hd;have hlt:=hS.lt;have hbw:=z02 hS.hd;have hnd:=hS.nd;simp only[sids,Value.ownBlock,Option.toList,List.nodup_cons,List.mem_cons,List.mem_append,not_or,List.nodup_append,List.not_mem_nil,or_false]at hnd;have hgb:g≠b:=fun e=>hnd.1.2.1 e.symm
 have hpl:=zqu p;have hfl:(p ++ [x]).flatMap z0i=p.flatMap z0i++z0i x:=by simp
 rw[hfl]at h4;have hcell:∀ i v,(z0i x)[i]?=some v->wr.cell? ⟨g,p.length*3+i,none⟩=some v:=fun i v hi=>by
  have hi3:i<3:=by have:=(List.getElem?_eq_some_iff.1 hi).1;simpa [z0i]using this
  rw[cell_of_row _ _ _ _ _ _ hg];have h5:=congrArg (fun l=>l[p.length*3+i]?) h4;simp only[List.getElem?_take,if_pos (show p.length*3+i<(p.length+1)*3 by omega)]at h5;rw[List.getElem?_append_right (by omega),hpl,Nat.add_sub_cancel_left,hi]at h5
  simpa using h5
 refine⟨p.length,g,cap,x,hlen,c3,by omega,hcell 0 _ rfl,hcell 1 _ rfl,hcell 2 _ rfl,hfz 3,hbw,?_⟩;have hu:z8t s=(⟨s.ents,p⟩:St).lay x.key x.val x.there:=by
  unfold z8t;rw[hp];simp
 have hoth:∀ k,k<wr.heap.size->k≠b->((wr.alloc (.cells (z0i x).toArray 198)).setCell ⟨b,3,none⟩ (.slice (some ⟨g,0,none⟩) p.length p.length)).heap[k]?=wr.heap[k]?:=fun k hk hn=>by
  rw[Below.heap_setCell _ _ _ _ hn,heap_alloc_old wr _ hk]
 have hS2:SAt ((wr.alloc (.cells (z0i x).toArray 198)).setCell ⟨b,3,none⟩ (.slice (some ⟨g,0,none⟩) p.length p.length)) b mb es clk bv (.slice (some ⟨g,0,none⟩) p.length p.length) bs ⟨s.ents,p⟩:=by
  refine⟨zhh (by rw[heap_alloc_old wr _ hbw];exact hS.hd) _,?_,?_,?_,hS.me,hS.fl,hS.srt,hS.nd⟩
  ·rw[hoth mb (hlt mb (by simp[sids])) (fun e=>hnd.1.1 e.symm)];exact hS.mp
  ·refine hS.ks.frame fun k hk=>hoth k (hlt k (by simp[sids,hk])) (fun e=>hnd.1.2.2 (e▸hk))
  ·refine⟨hpl,.inr ⟨g,p.length,cur,rfl,?_,Nat.le_refl _,by omega,by omega,?_⟩⟩
   ·rw[hoth g (z02 hg) hgb];exact hg
   ·have h5:(cur.toList.take ((p.length+1)*3)).take (p.length*3)=(p.flatMap z0i++z0i x).take (p.length*3):=by rw[h4]
    rw[List.take_take,Nat.min_eq_left (by omega),List.take_left' hpl]at h5;exact h5
 have hz2:s.ents.length<1000000000000:=by unfold St.size at hz;omega
 rw[hu];refine(lay_all _ b mb es clk bv _ bs ⟨s.ents,p⟩ x.key x.val x.there hS2 hz2).mono fun e w' ⟨he,es',clk',bv',bs',hS3,hF,hI⟩=>⟨he,_,⟨mb,es',clk',bv',_,bs',hS3,rfl⟩,?_⟩
 have stA:Step wr (sids b mb bv (.slice (some ⟨g,0,none⟩) (p.length+1) cap) bs) ((wr.alloc (.cells (z0i x).toArray 198)).setCell ⟨b,3,none⟩ (.slice (some ⟨g,0,none⟩) p.length p.length)) (sids b mb bv (.slice (some ⟨g,0,none⟩) p.length p.length) bs):=
  ⟨((Fr.refl _ wr).alloc _).setCell _ _ (.inr (by simp[sids])),fun k hk => .inl hk⟩
 exact(st.trans stA).trans ⟨hF,hI⟩
theorem On.past{w:World}{b:Nat}{L:List Nat}{s:St}{wr:World}(h:On w b L s wr):(∃ a c,wr.cell? ⟨b,3,none⟩=some (.slice a s.past.length c))/\wr.cell? ⟨b,0,none⟩=some (.bool true):=by
 obtain⟨L',⟨mb,es,clk,bv,pv,bs,hS,rfl⟩,st⟩:=h;obtain⟨a,c,rfl,_⟩:=hS.ps.form;obtain⟨c0,_,_,c3,_⟩:=z0q hS.hd;exact⟨⟨a,c,c3⟩,c0⟩
def zhr(b:Nat)(w:World):Nat:=match w.cell? ⟨b,3,none⟩with
 | some (.slice _ n _)=>n
 | _=>0
theorem On.zhr{w:World}{b:Nat}{L:List Nat}{s:St}{wr:World}(h:On w b L s wr):zhr b wr=s.past.length:=by
 obtain⟨⟨a,c,hc⟩,_⟩:=h.past;unfold Proofs.YtnkilceibkkjlaaGreat.zhr;rw[hc]
theorem zt9(w:World)(b:Nat)(s:St)(L:List Nat)(m:Nat)(h:SRep w b s L)(hm:m<=s.past.length)(hz:∀ k,(z4e s k).size<1000000000000) :
  Calls Tryz.prog 74 #[.pointer (some ⟨b,0,none⟩),.int .i64 m] w fun e w'=>e= .returned (.bool true)/\On w b L (s.undo m) w':=by
 have hO0:=On.start h;have hlen:s.past.length<1000000000000:=by have:=hz 0;unfold z4e St.size at this;omega
 have HI:=zh (z9h w b true h.cell0)
 have HR:Hid (∀ k wr,k<s.past.length-m->On w b L (z4e s k) wr->∃ (last g c:Nat) (x:Was),s.past.length-k=last+1/\wr.cell? ⟨b,3,none⟩=some (.slice (some ⟨g,0,none⟩) (last+1) c)/\last<c /\
   wr.cell? ⟨g,last*3,none⟩=some (.string x.key)/\wr.cell? ⟨g,last*3+1,none⟩=some (.string x.val)/\wr.cell? ⟨g,last*3+2,none⟩=some (.bool x.there)/\wr.frozen? ⟨b,3,none⟩=false/\b<wr.heap.size /\
   Calls Tryz.prog 146 #[.pointer (some ⟨b,0,none⟩),.string x.key,.string x.val,.bool x.there] ((wr.setCell ⟨b,3,none⟩ (.slice (some ⟨g,0,none⟩) last last)).alloc (.cells #[.string x.key,.string x.val,.bool x.there] 198)) fun e w'=>(∃ u,e= .returned u)/\On w b L (z4e s (k+1)) w'):=fun k wr hk hO=>by
  have hp:=z6a s k;obtain⟨last,g,c,x,h1,c3,h2,e0,e1,e2,f3,hbw,hC⟩:=zlt hO (hz k) (by omega);rw[World.setCell_alloc_past _ b 3 _ hbw]at hC;exact⟨last,g,c,x,by omega,c3,h2,e0,e1,e2,f3,hbw,hC⟩
 have HP:Hid (∀ k wr,On w b L (z4e s k) wr->(∃ a c,wr.cell? ⟨b,3,none⟩=some (.slice a (s.past.length-k) c))/\zhr b wr=s.past.length-k):=fun k wr hO=>by
  have h1:=hO.past.1;have h2:=hO.zhr;rw[z6a]at h1 h2;exact⟨h1,h2⟩
 have HE:Hid (s.undo m=z4e s (s.past.length-m)):=rfl;obtain⟨⟨a0,c0,hc0⟩,_⟩:=HP.out 0 w hO0;rw[Nat.sub_zero]at hc0;have HO0:=zh hO0;have hd1:decide ((m:Int)<0)=false:=decide_eq_false (by omega);have hd2:decide (((s.past.length:Nat):Int)<(m:Int))=false:=decide_eq_false (by omega);have hd3:decide (s.past.length<m)=false:=decide_eq_false (by omega);rw[HE.out];clear h hO0 hz HE;generalize s.past.length=n at *
 go_enter Tryz.func74,Tryz.ntmps74;go_wp2_with (go_at_call 142;refine HI.out.mono ?_;rintro e w' ⟨rfl,rfl⟩)
 go_loopw [5] (fun _ wr=>∃ k:Nat,k<=n-m/\On w b L (z4e s k) wr) (fun _ wr=>zhr b wr)
 case atStart=>exact⟨0,Nat.zero_le _,HO0.out⟩
 case round =>
  obtain⟨k,hk,hO⟩:=hrel;have HO:=zh hO;have HPN:=zh (HP.out k wr hO);clear hO HO0
  by_cases hlt:k<n-m
  ·obtain⟨last,g,c,x,h1,c3,hcap,e0,e1,e2,f3,hbw,hL⟩:=HR.out k wr hlt HO.out;have HL:=zh hL;have hne:=Nat.ne_of_lt hbw;have hne2:=Ne.symm hne;have hgt:decide ((m:Int)<(((last+1:Nat):Nat):Int))=true:=decide_eq_true (by omega);have hlast:((last+1:Nat):Int)-1=(last:Int):=by omega
   clear hL HR;go_wp2_with fail;refine zm HL.out ?_;rintro e w2 ⟨⟨u,rfl⟩,hO2⟩;have hO3:On w b L (z4e s (k+1)) w2:=hO2;have HO3:=zh hO3;have HP3:=zh (HP.out (k+1) w2 hO3);clear hO2 hO3 HL;go_wp2_with fail;go_roundw
   case rel=>exact⟨k+1,by omega,HO3.out⟩
   case measure=>rw[HP3.out.2,HPN.out.2];omega
  ·obtain rfl:k=n-m:=by omega
   obtain⟨⟨a1,c1,hc1⟩,_⟩:=HPN.out;have hnm:n-(n-m)=m:=by omega
   rw[hnm]at hc1;go_wp2_with fail;go_ret;exact⟨rfl,HO.out⟩
theorem z8f:∀ {l m:List Ent},Sorted l->Sorted m->(∀ k,getE l k=getE m k)->l=m
 | [],[],_,_,_=>rfl
 | [],y::m,_,hm,h=>by
  have:=h y.1
  rw[z1o hm (k:=y.1) (v:=y.2) (by simp)]at this
  cases this
 | x::l,[],hl,_,h=>by
  have:=h x.1
  rw[z1o hl (k:=x.1) (v:=x.2) (by simp)]at this
  cases this
 | x::l,y::m,hl,hm,h=>by
  have hx:(x.1,x.2)∈y::m:=z2q (by rw[<- h x.1];exact z1o hl (by simp))
  have hy:(y.1,y.2)∈x::l:=z2q (by rw[h y.1];exact z1o hm (by simp))
  have hxy:x=y:=by
   rcases List.mem_cons.1 hx with e | hx
   ·exact e
   ·rcases List.mem_cons.1 hy with e | hy
    ·exact e.symm
    ·exact absurd ((List.pairwise_cons.1 hm).1 _ hx) (KLt.asymm ((List.pairwise_cons.1 hl).1 _ hy))
  subst hxy;congr 1;have hl':=(List.pairwise_cons.1 hl).2;have hm':=(List.pairwise_cons.1 hm).2;refine z8f hl' hm' fun k => ?_
  by_cases hk:x.1=k
  ·subst hk;have n1:getE l x.1=none:=z4r.2 fun hk=>by
    obtain⟨z,hz,he⟩:=List.mem_map.1 hk;exact KLt.ne ((List.pairwise_cons.1 hl).1 z hz) he.symm
   have n2:getE m x.1=none:=z4r.2 fun hk=>by
    obtain⟨z,hz,he⟩:=List.mem_map.1 hk;exact KLt.ne ((List.pairwise_cons.1 hm).1 z hz) he.symm
   rw[n1,n2]
  ·have e1:∀ v,getE l k=some v↔getE (x::l) k=some v:=fun v=>by
    constructor
    ·intro h1;exact z1o hl (List.mem_cons_of_mem _ (z2q h1))
    ·intro h1;rcases List.mem_cons.1 (z2q h1)with e | h2
     ·exact absurd (congrArg Prod.fst e).symm hk
     ·exact z1o hl' h2
   have e2:∀ v,getE m k=some v↔getE (x::m) k=some v:=fun v=>by
    constructor
    ·intro h1;exact z1o hm (List.mem_cons_of_mem _ (z2q h1))
    ·intro h1;rcases List.mem_cons.1 (z2q h1)with e | h2
     ·exact absurd (congrArg Prod.fst e).symm hk
     ·exact z1o hm' h2
   apply Option.ext;intro v;rw[e1,e2,h k]
theorem zrx{s:St}(hs:Sorted s.ents)(k:ByteArray)(l:List Ent)(hl:Sorted l)(hg:∀ j,j≠k->getE l j=getE s.ents j):layE l k (s.val k) (getE s.ents k).isSome=s.ents:=by
 unfold layE;cases hk:getE s.ents k with
 | none =>
  simp only[Option.isSome_none,Bool.false_eq_true,if_false];refine z8f (z5h hl k) hs fun j => ?_
  rw[z9m _ hl]
  by_cases hj:k=j
  ·subst hj;rw[if_pos rfl,hk]
  ·rw[if_neg hj,hg j (Ne.symm hj)]
 | some v =>
  simp only[Option.isSome_some,if_true];refine z8f (z5n hl k _) hs fun j => ?_
  rw[z9r _ hl]
  by_cases hj:k=j
  ·subst hj;rw[if_pos rfl,hk];unfold St.val;rw[hk];rfl
  ·rw[if_neg hj,hg j (Ne.symm hj)]
theorem zpp{s:St}(hs:Sorted s.ents)(k v:ByteArray):s.put k v=s\/(z8t (s.put k v)=s/\(s.put k v).past.length=s.past.length+1):=by
 have one:∀ (l:List Ent),Sorted l->(∀ j,j≠k->getE l j=getE s.ents j)->z8t ⟨l,s.past ++ [s.was k]⟩=s:=fun l hl hg=>by
  unfold z8t;simp only[List.getLast?_append,List.getLast?_singleton,Option.some_or,List.dropLast_concat];unfold St.lay St.was;simp only;rw[zrx hs k l hl hg]
 unfold St.put;split
 ·unfold St.del;split
  ·refine .inr ⟨one _ (z5h hs k) fun j hj => ?_,by simp⟩;rw[z9m _ hs,if_neg (Ne.symm hj)]
  ·exact .inl rfl
 ·split
  ·exact .inl rfl
  ·unfold St.set;split
   ·exact .inl rfl
   ·refine .inr ⟨one _ (z5n hs k v) fun j hj => ?_,by simp⟩;rw[z9r _ hs,if_neg (Ne.symm hj)]
theorem zi6(s:St)(a:Nat):∀ b,z4e s (a+b)=z4e (z4e s a) b
 | 0=>rfl
 | b+1=>by rw[<- Nat.add_assoc,z4e,zi6 s a b];rfl
def Und(s s':St):Prop:=s.past.length<=s'.past.length/\s'.undo s.past.length=s
theorem Und.refl(s:St):Und s s:=⟨Nat.le_refl _,by unfold St.undo;rw[Nat.sub_self];rfl⟩
theorem Und.put{s s':St}(h:Und s s')(hs:Sorted s'.ents)(k v:ByteArray):Und s (s'.put k v):=by
 rcases zpp hs k v with e | ⟨e,hl⟩
 ·rw[e];exact h
 ·refine⟨by rw[hl];have:=h.1;omega,?_⟩;have:=h.1;unfold St.undo;rw[hl,show s'.past.length+1-s.past.length=1+(s'.past.length-s.past.length)by omega,zi6]
  show z4e (z8t (s'.put k v)) _=s
  rw[e];exact h.2
theorem z6u{s:St}(hs:Sorted s.ents)(k v:ByteArray):Sorted (s.put k v).ents:=by
 unfold St.put;split
 ·exact St.zej hs _
 ·split
  ·exact hs
  ·exact St.ze6 hs _ _
theorem zti(l:List Ent)(k v:ByteArray)(t:Bool):(layE l k v t).length<=l.length+1:=by
 unfold layE;split
 ·exact zdq l k v
 ·exact Nat.le_succ_of_le (zci l k)
theorem zal{s:St}:∀ k,(z4e s k).size<=s.size
 | 0=>Nat.le_refl _
 | k+1=>by
  refine Nat.le_trans ?_ (zal k)
  show(z8t (z4e s k)).size<=_
  generalize z4e s k=u
  unfold z8t
  split
  ·rename_i x hx
   unfold St.lay St.size
   simp only[List.length_dropLast]
   have hp:0<u.past.length:=by
    cases hq:u.past with
    | nil=>rw[hq]at hx;cases hx
    | cons _ _=>simp
   have:=zti u.ents x.key x.val x.there;omega
  ·exact Nat.le_refl _
theorem zxy(w:World)(h:Hand)(s:St)(m:Nat)(hq:QSt w h s)(hm:m<=s.past.length)(hz:s.size<1000000000000) :
  Calls Tryz.prog 74 #[.pointer h.ptr,.int .i64 m] w fun e w'=>(∃ b,e= .returned (.bool b))/\QOn w h (h.st s (s.undo m)) w':=by
 unfold Hand.st;rcases hq with⟨hon,b,hp,hS⟩ | ⟨hon,hN,hs,hl⟩
 ·rw[hp,if_pos hon];exact(zt9 w b s h.L m hS hm fun k=>Nat.lt_of_le_of_lt (zal k) hz).mono fun e w' ⟨he,L',hS',st⟩=>⟨⟨_,he⟩,L',.inl ⟨hon,b,hp,hS'⟩,st⟩
 ·rw[if_neg (by rw[hon];decide)];have HI:Hid (Calls Tryz.prog 142 #[.pointer h.ptr] w fun e w'=>e= .returned (.bool false)/\w=w'):=by
   rcases hN with h1 | ⟨b,h1,_,hc⟩
   ·rw[h1];exact is_nil w
   ·rw[h1];exact z9h w b false hc
  have HQ:Hid (QOn w h s w):=QOn.start (.inr ⟨hon,hN,hs,hl⟩);generalize h.ptr=q at *
  clear hN hl hs hm hz;go_enter Tryz.func74,Tryz.ntmps74;go_wp2_with (go_at_call 142;refine HI.out.mono ?_;rintro e w' ⟨rfl,rfl⟩);go_ret;exact⟨⟨_,rfl⟩,HQ.out⟩
def z5d(l:List Int):List UInt8:=l.flatMap fun n=>be8 n.toNat
def rowB(l:List Int):ByteArray:=⟨(z5d l).toArray⟩
theorem z6h(l:List Int):(z5d l).length=8*l.length:=by
 unfold z5d
 induction l with
 | nil=>rfl
 | cons x l ih=>simp only[List.flatMap_cons,List.length_cons,List.length_append,z5z,ih];omega
theorem zey(l:List Int)(n:Int):z5d (l ++ [n])=z5d l++be8 n.toNat:=by simp[z5d]
theorem zgy:∀ (l:List Int),(∀ n∈l,0<=n/\n<9223372036854775808)->numsL (z5d l)=some (l.map (·.toNat))
 | [],_=>rfl
 | n::l,h=>by
  have hn:=h n (by simp)
  have e:z5d (n::l)=be8 n.toNat++z5d l:=by simp[z5d]
  have h8:(be8 n.toNat).length=8:=rfl
  rw[e,z3q _ (by rw[List.length_append,h8];omega),List.take_append_of_le_length (by omega),List.take_of_length_le (by omega),List.drop_append_of_le_length (by omega),List.drop_of_length_le (by omega),List.nil_append,zgy l fun m hm=>h m (by simp[hm])]
  have h2:=z6b n.toNat (by omega)
  rw[zdm,z3q _ (by omega),List.take_of_length_le (by omega),List.drop_of_length_le (by omega)]at h2
  split at h2
  ·next hb =>
   simp[numsL]at h2
   rw[if_pos hb,h2];rfl
  ·cases h2
theorem z7k(l:List Int)(h:∀ n∈l,0<=n/\n<9223372036854775808):rowOf (rowB l)=l.map (·.toNat):=by
 unfold rowOf;rw[show(rowB l).data.toList=z5d l by simp[rowB],zgy l h];rfl
theorem zx3{l:List Int}(h:l≠[]):rowB l≠z05:=fun e=>by
 have:=congrArg (fun b:ByteArray=>b.data.toList) e
 have h2:z5d l = []:=by simpa [rowB,z05]using this
 have h3:=z6h l
 rw[h2]at h3
 exact h (List.eq_nil_of_length_eq_zero (by simp at h3;omega))
def zh8(l:List Int)(w:World)(k:Nat)(wr:World):Prop:=k<=l.length/\IsB wr w.heap.size w.heap.size (z5d (l.take k))/\Below w.heap.size w wr
theorem zex(w:World)(b:Nat)(s:St)(L:List Nat)(key:ByteArray)(v:Value)(l:List Int)(h:SRep w b s L)(hb:s.size<1000000000000)(hv:z0w w v l)(hl:l.length<1000000000)(hne:l≠[])(hr:∀ n∈l,0<=n/\n<9223372036854775808) :
  Calls Tryz.prog 107 #[.pointer (some ⟨b,0,none⟩),.string key,v] w (z2m w b L (.tuple #[]) (s.put key (rowB l))):=by
 obtain⟨ad,c,hve⟩:∃ ad c,v= .slice ad l.length c:=by
  rcases hv with⟨rfl,rfl⟩ | ⟨a,c,h1,_⟩
  ·exact⟨none,0,rfl⟩
  ·exact⟨some a,c,h1⟩
 have HC:Hid (∀ wr k (n:Int),zh8 l w k wr->l[k]?=some n->∃ a,ad=some a/\wr.cell? (a.add k)=some (.int .i64 n)):=fun wr k n hb0 hk=>by
  have hb:=hb0.2.2;rcases hv with⟨_,rfl⟩ | ⟨a,c',h1,h3⟩
  ·simp at hk
  ·have:ad=some a:=by rw[hve]at h1;cases h1;rfl
   exact⟨a,this,by rw[hb.cell (p:=a.add k) (World.block_lt_of_cell? w _ (h3 k n hk))];exact h3 k n hk⟩
 subst hve;clear hv;have hB0:IsB (w.alloc (.cells #[.pointer none,.slice none 0 0] 211)) w.heap.size w.heap.size []:=
  .inl ⟨Nat.le_refl _,_,heap_alloc_new w _,⟨by simp[Lib.byteCells],.inl ⟨rfl,rfl⟩⟩,by simp[Value.ownBlock]⟩
 have H0:Hid (zh8 l w 0 (w.alloc (.cells #[.pointer none,.slice none 0 0] 211))):=⟨by omega,by simpa [z5d]using hB0,(Below.refl _ w).alloc (Nat.le_refl _) _⟩;have HN:Hid (∀ wr k,zh8 l w k wr->∀ n:Nat,l[k]?=some (n:Int)->Calls Tryz.prog 162 #[.int .i64 n] wr fun e w'=>e= .returned (.string (numB n))/\zh8 l w k w'):=fun wr k hk n hn=>by
  have hn2:=hr _ (List.mem_of_getElem? hn);refine(zjq n wr (by omega)).mono fun e w' ⟨he,hb⟩=>⟨he,hk.1,zhb hk.2.1 hb,hk.2.2.trans (hb.mono hk.2.2.size)⟩
 have HS:Hid (∀ wr k,zh8 l w k wr->∀ n:Nat,l[k]?=some (n:Int)->Calls Tryz.prog 161 #[.pointer (some ⟨w.heap.size,0,none⟩),.string (numB n)] wr fun e w'=>e= .returned (.tuple #[.int .i64 8,.nilIface])/\zh8 l w (k+1) w'):=fun wr k hk n hn=>by
  have hkl:k<l.length:=(List.getElem?_eq_some_iff.1 hn).1;have hln:(z5d (l.take k)).length+(numB n).size<1000000000000:=by
   rw[z6h,show(numB n).size=8 from rfl,List.length_take];omega
  refine(zb5 w.heap.size w.heap.size _ (numB n) wr hk.2.1 hln (by rw[show(numB n).size=8 from rfl];omega) hk.2.2.size).mono fun e w' ⟨he,h1,h2⟩=>⟨he,by omega,?_,hk.2.2.trans h2⟩
  rw[z2h l k _ hn,zey];exact h1
 have HT:Hid (∀ wr,zh8 l w l.length wr->Calls Tryz.prog 163 #[.pointer (some ⟨w.heap.size,0,none⟩)] wr fun e w'=>e= .returned (.string (rowB l))/\Below w.heap.size w w'):=fun wr hk=>by
  obtain⟨_,h2,h3⟩:=hk;rw[List.take_length]at h2
  exact(zez w.heap.size w.heap.size _ wr h2 (fun e=>by
   have:=z6h l;rw[e]at this
   exact hne (List.eq_nil_of_length_eq_zero (by simp at this;omega)))).mono fun e w' ⟨he,hb⟩=>⟨he,h3.trans hb⟩
 have HP:Hid (∀ w1,Below w.heap.size w w1->Calls Tryz.prog 149 #[.pointer (some ⟨b,0,none⟩),.string key,.string (rowB l)] w1 fun e w'=>e= .returned (.tuple #[])/\z2m w b L (.tuple #[]) (s.put key (rowB l)) e w'):=fun w1 h1 =>
  (zbk w1 b s L key (rowB l) (h.fr (Fr.of_below h1 (fun _=>False)) (fun _ _=>id)) hb).mono fun e w' h2=>⟨h2.1,h2.of_below h1⟩
 have hget:∀ k,k<l.length->∃ n:Nat,l[k]?=some (n:Int):=fun k hk=>⟨(l[k]).toNat,by
  have:=hr l[k] (List.getElem_mem hk);rw[List.getElem?_eq_getElem hk]
  congr 1;omega⟩
 have HGET:=zh hget;have hln:(l.length:Int)<9223372036854775807:=by omega
 clear hB0 hget hr h hb hne;generalize hm:l.length=m at *
 generalize rowB l=rb at *
 generalize hKT:zh8 l w=KT at *
 generalize z2m w b L (.tuple #[]) (s.put key rb)=R at *
 clear hKT;have HM:=zh hm;clear hm;go_enter Tryz.func107,Tryz.ntmps107;go_wp2_with fail
 go_loopw [11] (fun i wr=>∃ k:Nat,i= .int .i64 k/\k<=m/\KT k wr) (fun i _=>m-(intOf i).toNat)
 case atStart=>exact⟨0,rfl,by omega,H0.out⟩
 case round =>
  obtain⟨k,rfl,hk,hN⟩:=hrel;have HK:=zh hN;clear hN H0
  by_cases hlt:k<m
  ·obtain⟨n,hn⟩:=HGET.out k hlt;obtain⟨a,rfl,hc⟩:=HC.out wr k n HK.out hn;have HNk:=zh hn;have hd:decide ((n:Int)<0)=false:=by simp
   clear hn;go_wp2_with fail;refine(HN.out wr k HK.out n HNk.out).mono ?_;rintro e w1 ⟨rfl,hK1⟩;have HK1:=zh hK1;clear hK1;go_wp2_with fail;refine(HS.out w1 k HK1.out n HNk.out).mono ?_;rintro e w2 ⟨rfl,hK2⟩;have HK2:=zh hK2;clear hK2;go_wp2_with fail;go_roundw
   case rel=>exact⟨k+1,by go_num,by omega,HK2.out⟩
   case measure=>simp[intOf];omega
  ·obtain rfl:k=m:=by omega
   have HTT:=zh (HT.out wr HK.out);go_wp2_with fail;refine HTT.out.mono ?_;rintro e w1 ⟨rfl,hb1⟩;go_wp2_with fail;refine(HP.out w1 hb1).mono ?_;rintro e w2 ⟨rfl,hR⟩;go_wp2_with fail
   go_end0
   exact hR
def z8m(l:List Int)(w:World)(k:Nat)(s:ByteArray)(wr:World):Prop:=k<=l.length/\s=⟨(z5d (l.take k)).toArray⟩/\Below w.heap.size w wr
theorem z8m.next{l:List Int}{w:World}{k:Nat}{s:ByteArray}{wr:World}(h:z8m l w k s wr){n:Nat}(hn:l[k]?=some (n:Int)):z8m l w (k+1) (s++numB n) wr:=by
 obtain⟨h1,h2,h3⟩:=h;have hlt:k<l.length:=(List.getElem?_eq_some_iff.1 hn).1;refine⟨by omega,?_,h3⟩;subst h2;have hx:=z2h l k _ hn;apply zhl;rw[hx,zey];rw[show((⟨(z5d (List.take k l)).toArray⟩:ByteArray)++numB n).data=(z5d (List.take k l)).toArray++(numB n).data from ByteArray.data_append]
 simp[numB]
theorem zii(w:World)(b:Nat)(s:St)(L:List Nat)(key:ByteArray)(v:Value)(l:List Int)(h:RRep w b s L)(hb:s.size<1000000000000)(hkey:key≠z05)(hv:z0w w v l)(hl:l.length<1000000000)(hne:l≠[])(hr:∀ n∈l,0<=n/\n<9223372036854775808) :
  Calls Tryz.prog 187 #[.pointer (some ⟨b,0,none⟩),.string key,v] w (RetR w b L (.tuple #[]) (s.put key (rowB l))):=by
 obtain⟨ad,c,hve⟩:∃ ad c,v= .slice ad l.length c:=by
  rcases hv with⟨rfl,rfl⟩ | ⟨a,c,h1,_⟩
  ·exact⟨none,0,rfl⟩
  ·exact⟨some a,c,h1⟩
 have HC:Hid (∀ wr k sb (n:Int),z8m l w k sb wr->l[k]?=some n->∃ a,ad=some a/\wr.cell? (a.add k)=some (.int .i64 n)):=fun wr k sb n hb0 hk=>by
  have hb:=hb0.2.2;rcases hv with⟨_,rfl⟩ | ⟨a,c',h1,h3⟩
  ·simp at hk
  ·have:ad=some a:=by rw[hve]at h1;cases h1;rfl
   exact⟨a,this,by rw[hb.cell (p:=a.add k) (World.block_lt_of_cell? w _ (h3 k n hk))];exact h3 k n hk⟩
 subst hve;clear hv;have H0:Hid (z8m l w 0 ⟨#[]⟩ w):=⟨by omega,by simp[z5d],Below.refl _ _⟩;have HN:Hid (∀ wr k sb,z8m l w k sb wr->∀ n:Nat,l[k]?=some (n:Int)->Calls Tryz.prog 166 #[.int .i64 n] wr fun e w'=>e= .returned (.string (numB n))/\z8m l w (k+1) (sb++numB n) w'):=fun wr k sb hk n hn=>by
  have hn2:=hr _ (List.mem_of_getElem? hn);refine(zff n wr (by omega)).mono fun e w' ⟨he,hb⟩=>⟨he,?_⟩
  have:=hk.next hn;exact⟨this.1,this.2.1,this.2.2.trans (hb.mono this.2.2.size)⟩
 have HT:Hid (∀ wr sb,z8m l w l.length sb wr->sb=rowB l/\Below w.heap.size w wr):=fun wr sb hk=>by
  obtain⟨_,h2,h3⟩:=hk;rw[List.take_length]at h2;exact⟨h2,h3⟩
 have HP:Hid (∀ w1,Below w.heap.size w w1->Calls Tryz.prog 198 #[.pointer (some ⟨b,0,none⟩),.string key,.string (rowB l)] w1 fun e w'=>∃ x:Int,e= .returned (.int .i64 x)/\RetR w b L (.tuple #[]) (s.put key (rowB l)) (.returned (.tuple #[])) w'):=fun w1 h1=>by
  have e:s.put key (rowB l)=s.set key (rowB l):=by unfold St.put;rw[if_neg (zx3 hne),if_neg hkey]
  rw[e];exact(zg3 w1 b s L key (rowB l) (h.below h1) hkey hb).mono fun e w' h2=>⟨0,h2.1,RetR.of_below h1 ⟨rfl,h2.2⟩⟩
 have HSZ:Hid (∀ wr k sb,z8m l w k sb wr->sb.size<10000000000):=fun wr k sb hk=>by
  rw[hk.2.1];show(z5d (l.take k)).toArray.size<_
  rw[List.size_toArray,z6h,List.length_take];omega
 have hget:∀ k,k<l.length->∃ n:Nat,l[k]?=some (n:Int):=fun k hk=>⟨(l[k]).toNat,by
  have:=hr l[k] (List.getElem_mem hk);rw[List.getElem?_eq_getElem hk]
  congr 1;omega⟩
 have HGET:=zh hget;have hln:(l.length:Int)<9223372036854775807:=by omega
 have hemp:(rowB l).toList.isEmpty=false:=by
  have h2:=z6h l;rw[ByteArray.toList_eq];show(z5d l).toArray.toList.isEmpty=false
  cases h3:z5d l with
  | nil=>rw[h3]at h2;exact absurd (List.eq_nil_of_length_eq_zero (by simp at h2;omega)) hne
  | cons x r=>rfl
 clear hget hr h hb hne hkey;generalize hm:l.length=m at *
 generalize rowB l=rb at *
 generalize hKT:z8m l w=KT at *
 generalize RetR w b L (.tuple #[]) (s.put key rb)=R at *
 clear hKT;have HM:=zh hm;clear hm;go_enter Tryz.func187,Tryz.ntmps187;go_wp2_with fail
 go_loopw [6,11] (fun sv i wr=>∃ (k:Nat) (sb:ByteArray),i= .int .i64 k/\sv= .string sb/\k<=m/\KT k sb wr) (fun _ i _=>m-(intOf i).toNat)
 case atStart=>exact⟨0,_,rfl,rfl,by omega,H0.out⟩
 case round =>
  obtain⟨k,sb,rfl,rfl,hk,hN⟩:=hrel;have HK:=zh hN;have hsz:=HSZ.out _ _ _ hN;clear hN H0
  by_cases hlt:k<m
  ·obtain⟨n,hn⟩:=HGET.out k hlt;obtain⟨a,rfl,hc⟩:=HC.out wr k sb n HK.out hn;have HNk:=zh hn;have hd:decide ((n:Int)<0)=false:=by simp
   have hsn:(numB n).size=8:=rfl;clear hn;go_wp2_with fail;refine(HN.out wr k sb HK.out n HNk.out).mono ?_;rintro e w1 ⟨rfl,hK1⟩;have HK1:=zh hK1;clear hK1;go_wp2_with fail;go_roundw
   case rel=>exact⟨k+1,_,by go_num,rfl,by omega,HK1.out⟩
   case measure=>simp[intOf];omega
  ·obtain rfl:k=m:=by omega
   obtain⟨rfl,hb1⟩:=HT.out wr sb HK.out;have HPP:=zh (HP.out wr hb1);clear hb1;go_wp2_with fail;refine HPP.out.mono ?_;rintro e w2 ⟨x,rfl,hR⟩;go_wp2_with fail
   go_end0
   exact hR
end Go.Proofs.YtnkilceibkkjlaaGreat
