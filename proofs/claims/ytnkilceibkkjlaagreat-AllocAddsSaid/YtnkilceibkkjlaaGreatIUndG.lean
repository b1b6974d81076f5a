/- What is proved here: the store's Undo, of the program. Its conditions: sizes. what is put is undone; holding.undo of the program as a deferred call. Their conditions: sizes, keys in order. -/
import Derived.Test.YtnkilceibkkjlaaGreatIHandG
import Derived.Test.YtnkilceibkkjlaaGreatIHoldB
import Derived.Defers
set_option maxRecDepth 100000
set_option maxHeartbeats 16000000
namespace Go.Proofs.YtnkilceibkkjlaaGreat
open Go.RowKit
def undo1 (s:St):St:=match s.past.getLast? with
 | some x=>(⟨s.ents,s.past.dropLast⟩:St).lay x.key x.val x.there
 | none=>s
def undoK (s:St):Nat→St
 | 0=>s
 | k+1=>undo1 (undoK s k)
def St.undo (s:St) (m:Nat):St:=undoK s (s.past.length - m)
theorem undo1_past (s:St):(undo1 s).past.length=s.past.length - 1:=by
 unfold undo1
 split
 ·simp [St.lay]
 ·rename_i h
  rw [List.getLast?_eq_none_iff] at h
  rw [h]; rfl
theorem undoK_past (s:St):∀ k,(undoK s k).past.length=s.past.length - k
 | 0=>rfl
 | k+1=>by rw [undoK,undo1_past,undoK_past s k]; omega
theorem lay_all (w:World) (b mb:Nat) (es:Array MapEntry) (clk:Nat) (bv pv:Value) (bs:List Blk) (s:St) (k v:ByteArray) (t:Bool) (h:SAt w b mb es clk bv pv bs s) (hb:s.ents.length < 1000000000000) :
  Calls Tryz.prog 146 #[.pointer (some ⟨b,0,none⟩),.string k,.string v,.bool t] w fun e w'=>(∃ u,e = .returned u)∧Laid w b mb bv pv bs (s.lay k v t) w':=by
 cases t with
 | true =>
  cases hk:(getE s.ents k).isSome with
  | false=>exact (lay_put_new w b mb es clk bv pv bs s k v h hb hk).mono fun e w' h1=>⟨⟨_,h1.1⟩,h1.2⟩
  | true=>exact (lay_put_old w b mb es clk bv pv bs s k v h hk).mono fun e w' h1=>⟨⟨_,h1.1⟩,h1.2⟩
 | false =>
  cases hk:(getE s.ents k).isSome with
  | false=>exact (lay_none w b mb es clk bv pv bs s k v h hk).mono fun e w' h1=>⟨⟨_,h1.1⟩,h1.2⟩
  | true=>exact (lay_del w b mb es clk bv pv bs s k v h hb hk).mono fun e w' h1=>⟨⟨_,h1.1⟩,h1.2⟩
theorem was_len (p:List Was):(p.flatMap wasCells).length=p.length*3:=by
 induction p with
 | nil=>rfl
 | cons a t ih=>rw [List.flatMap_cons,List.length_append,ih]; simp [wasCells]; omega
def UndoR (w:World) (b:Nat) (L:List Nat) (s:St) (wr:World):Prop:=∃ (last g c:Nat) (x:Was),s.past.length=last+1∧wr.cell? ⟨b,3,none⟩=some (.slice (some ⟨g,0,none⟩) (last+1) c)∧last < c ∧
 wr.cell? ⟨g,last*3,none⟩=some (.string x.key)∧wr.cell? ⟨g,last*3+1,none⟩=some (.string x.val)∧wr.cell? ⟨g,last*3+2,none⟩=some (.bool x.there)∧wr.frozen? ⟨b,3,none⟩=false∧b < wr.heap.size ∧
 Calls Tryz.prog 146 #[.pointer (some ⟨b,0,none⟩),.string x.key,.string x.val,.bool x.there] ((wr.alloc (.cells (wasCells x).toArray 198)).setCell ⟨b,3,none⟩ (.slice (some ⟨g,0,none⟩) last last)) fun e w'=>(∃ u,e = .returned u)∧On w b L (undo1 s) w'
theorem undo_round {w:World} {b:Nat} {L:List Nat} {s:St} {wr:World} (h:On w b L s wr) (hz:s.size < 1000000000000) (hne:0 < s.past.length):UndoR w b L s wr:=by
 obtain ⟨L',⟨mb,es,clk,bv,pv,bs,hS,rfl⟩,st⟩:=h
 obtain ⟨p,x,hp⟩:∃ p x,s.past=p ++ [x]:=⟨s.past.dropLast,s.past.getLast (by intro e; rw [e] at hne; exact absurd hne (by decide)),(List.dropLast_concat_getLast _).symm⟩
 have hlen:s.past.length=p.length+1:=by rw [hp]; simp
 have hps:=hS.ps
 rw [hlen,hp] at hps
 obtain ⟨_,h0 | ⟨g,cap,cur,rfl,hg,h1,h2,h3,h4⟩⟩:=hps
 ·exact absurd h0.2 (by omega)
 obtain ⟨_,_,_,c3,hfz⟩:=head_cell hS.hd
 have hlt:=hS.lt
 have hbw:=lt_of_at hS.hd
 have hnd:=hS.nd
 simp only [sids,Value.ownBlock,Option.toList,List.nodup_cons,List.mem_cons,List.mem_append,not_or,List.nodup_append,List.not_mem_nil,or_false] at hnd
 have hgb:g≠b:=fun e=>hnd.1.2.1 e.symm
 have hpl:=was_len p
 have hfl:(p ++ [x]).flatMap wasCells=p.flatMap wasCells ++ wasCells x:=by simp
 rw [hfl] at h4
 have hcell:∀ i v,(wasCells x)[i]? = some v→wr.cell? ⟨g,p.length*3+i,none⟩=some v:=fun i v hi=>by
  have hi3:i < 3:=by have:=(List.getElem?_eq_some_iff.1 hi).1; simpa [wasCells] using this
  rw [cell_of_row _ _ _ _ _ _ hg]
  have h5:=congrArg (fun l=>l[p.length*3+i]?) h4
  simp only [List.getElem?_take,if_pos (show p.length*3+i < (p.length+1)*3 by omega)] at h5
  rw [List.getElem?_append_right (by omega),hpl,Nat.add_sub_cancel_left,hi] at h5
  simpa using h5
 refine ⟨p.length,g,cap,x,hlen,c3,by omega,hcell 0 _ rfl,hcell 1 _ rfl,hcell 2 _ rfl,hfz 3,hbw,?_⟩
 have hu:undo1 s=(⟨s.ents,p⟩:St).lay x.key x.val x.there:=by
  unfold undo1
  rw [hp]
  simp
 have hoth:∀ k,k < wr.heap.size→k≠b→((wr.alloc (.cells (wasCells x).toArray 198)).setCell ⟨b,3,none⟩ (.slice (some ⟨g,0,none⟩) p.length p.length)).heap[k]? = wr.heap[k]?:=fun k hk hn=>by
  rw [Below.heap_setCell _ _ _ _ hn,heap_alloc_old wr _ hk]
 have hS2:SAt ((wr.alloc (.cells (wasCells x).toArray 198)).setCell ⟨b,3,none⟩ (.slice (some ⟨g,0,none⟩) p.length p.length)) b mb es clk bv (.slice (some ⟨g,0,none⟩) p.length p.length) bs ⟨s.ents,p⟩:=by
  refine ⟨head_set3 (by rw [heap_alloc_old wr _ hbw]; exact hS.hd) _,?_,?_,?_,hS.me,hS.fl,hS.srt,hS.nd⟩
  ·rw [hoth mb (hlt mb (by simp [sids])) (fun e=>hnd.1.1 e.symm)]; exact hS.mp
  ·refine hS.ks.frame fun k hk=>hoth k (hlt k (by simp [sids,hk])) (fun e=>hnd.1.2.2 (e ▸ hk))
  ·refine ⟨hpl,.inr ⟨g,p.length,cur,rfl,?_,Nat.le_refl _,by omega,by omega,?_⟩⟩
   ·rw [hoth g (lt_of_at hg) hgb]; exact hg
   ·have h5:(cur.toList.take ((p.length+1)*3)).take (p.length*3)=(p.flatMap wasCells ++ wasCells x).take (p.length*3):=by rw [h4]
    rw [List.take_take,Nat.min_eq_left (by omega),List.take_left' hpl] at h5
    exact h5
 have hz2:s.ents.length < 1000000000000:=by unfold St.size at hz; omega
 rw [hu]
 refine (lay_all _ b mb es clk bv _ bs ⟨s.ents,p⟩ x.key x.val x.there hS2 hz2).mono fun e w' ⟨he,es',clk',bv',bs',hS3,hF,hI⟩=>⟨he,_,⟨mb,es',clk',bv',_,bs',hS3,rfl⟩,?_⟩
 have stA:Step wr (sids b mb bv (.slice (some ⟨g,0,none⟩) (p.length+1) cap) bs) ((wr.alloc (.cells (wasCells x).toArray 198)).setCell ⟨b,3,none⟩ (.slice (some ⟨g,0,none⟩) p.length p.length)) (sids b mb bv (.slice (some ⟨g,0,none⟩) p.length p.length) bs) :=
  ⟨((Fr.refl _ wr).alloc _).setCell _ _ (.inr (by simp [sids])),fun k hk => .inl hk⟩
 exact (st.trans stA).trans ⟨hF,hI⟩
theorem On.past {w:World} {b:Nat} {L:List Nat} {s:St} {wr:World} (h:On w b L s wr):(∃ a c,wr.cell? ⟨b,3,none⟩=some (.slice a s.past.length c))∧wr.cell? ⟨b,0,none⟩=some (.bool true):=by
 obtain ⟨L',⟨mb,es,clk,bv,pv,bs,hS,rfl⟩,st⟩:=h
 obtain ⟨a,c,rfl,_⟩:=hS.ps.form
 obtain ⟨c0,_,_,c3,_⟩:=head_cell hS.hd
 exact ⟨⟨a,c,c3⟩,c0⟩
def pastN (b:Nat) (w:World):Nat:=match w.cell? ⟨b,3,none⟩ with
 | some (.slice _ n _)=>n
 | _=>0
theorem On.pastN {w:World} {b:Nat} {L:List Nat} {s:St} {wr:World} (h:On w b L s wr):pastN b wr=s.past.length:=by
 obtain ⟨⟨a,c,hc⟩,_⟩:=h.past
 unfold Proofs.YtnkilceibkkjlaaGreat.pastN
 rw [hc]
theorem undo_any (w:World) (b:Nat) (s:St) (L:List Nat) (m:Nat) (h:SRep w b s L) (hm:m≤s.past.length) (hz:∀ k,(undoK s k).size < 1000000000000) :
  Calls Tryz.prog 74 #[.pointer (some ⟨b,0,none⟩),.int .i64 m] w fun e w'=>e = .returned (.bool true)∧On w b L (s.undo m) w':=by
 have hO0:=On.start h
 have hlen:s.past.length < 1000000000000:=by have:=hz 0; unfold undoK St.size at this; omega
 have HI:=Lib.hid (is_at w b true h.cell0)
 have HR:Hid (∀ k wr,k < s.past.length - m→On w b L (undoK s k) wr→∃ (last g c:Nat) (x:Was),s.past.length - k=last+1∧wr.cell? ⟨b,3,none⟩=some (.slice (some ⟨g,0,none⟩) (last+1) c)∧last < c ∧
   wr.cell? ⟨g,last*3,none⟩=some (.string x.key)∧wr.cell? ⟨g,last*3+1,none⟩=some (.string x.val)∧wr.cell? ⟨g,last*3+2,none⟩=some (.bool x.there)∧wr.frozen? ⟨b,3,none⟩=false∧b < wr.heap.size ∧
   Calls Tryz.prog 146 #[.pointer (some ⟨b,0,none⟩),.string x.key,.string x.val,.bool x.there] ((wr.setCell ⟨b,3,none⟩ (.slice (some ⟨g,0,none⟩) last last)).alloc (.cells #[.string x.key,.string x.val,.bool x.there] 198)) fun e w'=>(∃ u,e = .returned u)∧On w b L (undoK s (k+1)) w'):=fun k wr hk hO=>by
  have hp:=undoK_past s k
  obtain ⟨last,g,c,x,h1,c3,h2,e0,e1,e2,f3,hbw,hC⟩:=undo_round hO (hz k) (by omega)
  rw [World.setCell_alloc_past _ b 3 _ hbw] at hC
  exact ⟨last,g,c,x,by omega,c3,h2,e0,e1,e2,f3,hbw,hC⟩
 have HP:Hid (∀ k wr,On w b L (undoK s k) wr→(∃ a c,wr.cell? ⟨b,3,none⟩=some (.slice a (s.past.length - k) c))∧pastN b wr=s.past.length - k):=fun k wr hO=>by
  have h1:=hO.past.1
  have h2:=hO.pastN
  rw [undoK_past] at h1 h2
  exact ⟨h1,h2⟩
 have HE:Hid (s.undo m=undoK s (s.past.length - m)):=rfl
 obtain ⟨⟨a0,c0,hc0⟩,_⟩:=HP.out 0 w hO0
 rw [Nat.sub_zero] at hc0
 have HO0:=Lib.hid hO0
 have hd1:decide ((m:Int) < 0)=false:=decide_eq_false (by omega)
 have hd2:decide (((s.past.length:Nat):Int) < (m:Int))=false:=decide_eq_false (by omega)
 have hd3:decide (s.past.length < m)=false:=decide_eq_false (by omega)
 rw [HE.out]
 clear h hO0 hz HE
 generalize s.past.length=n at *
 go_enter Tryz.func74,Tryz.ntmps74
 go_wp2_with (go_at_call 142; refine HI.out.mono ?_; rintro e w' ⟨rfl,rfl⟩)
 go_loopw [5] (fun _ wr=>∃ k:Nat,k≤n - m∧On w b L (undoK s k) wr) (fun _ wr=>pastN b wr)
 case atStart=>exact ⟨0,Nat.zero_le _,HO0.out⟩
 case round =>
  obtain ⟨k,hk,hO⟩:=hrel
  have HO:=Lib.hid hO
  have HPN:=Lib.hid (HP.out k wr hO)
  clear hO HO0
  by_cases hlt:k < n - m
  ·obtain ⟨last,g,c,x,h1,c3,hcap,e0,e1,e2,f3,hbw,hL⟩:=HR.out k wr hlt HO.out
   have HL:=Lib.hid hL
   have hne:=Nat.ne_of_lt hbw
   have hne2:=Ne.symm hne
   have hgt:decide ((m:Int) < (((last+1:Nat):Nat):Int))=true:=decide_eq_true (by omega)
   have hlast:((last+1:Nat):Int) - 1=(last:Int):=by omega
   clear hL HR
   go_wp2_with fail
   refine Calls.mono HL.out ?_
   rintro e w2 ⟨⟨u,rfl⟩,hO2⟩
   have hO3:On w b L (undoK s (k+1)) w2:=hO2
   have HO3:=Lib.hid hO3
   have HP3:=Lib.hid (HP.out (k+1) w2 hO3)
   clear hO2 hO3 HL
   go_wp2_with fail
   go_roundw
   case rel=>exact ⟨k+1,by omega,HO3.out⟩
   case measure=>rw [HP3.out.2,HPN.out.2]; omega
  ·obtain rfl:k=n - m:=by omega
   obtain ⟨⟨a1,c1,hc1⟩,_⟩:=HPN.out
   have hnm:n - (n - m)=m:=by omega
   rw [hnm] at hc1
   go_wp2_with fail
   go_ret
   exact ⟨rfl,HO.out⟩
theorem sorted_ext:∀ {l m:List Ent},Sorted l→Sorted m→(∀ k,getE l k=getE m k)→l=m
 | [],[],_,_,_=>rfl
 | [],y :: m,_,hm,h=>by
  have:=h y.1
  rw [getE_of_mem hm (k:=y.1) (v:=y.2) (by simp)] at this
  cases this
 | x :: l,[],hl,_,h=>by
  have:=h x.1
  rw [getE_of_mem hl (k:=x.1) (v:=x.2) (by simp)] at this
  cases this
 | x :: l,y :: m,hl,hm,h=>by
  have hx:(x.1,x.2)∈y :: m:=getE_mem (by rw [← h x.1]; exact getE_of_mem hl (by simp))
  have hy:(y.1,y.2)∈x :: l:=getE_mem (by rw [h y.1]; exact getE_of_mem hm (by simp))
  have hxy:x=y:=by
   rcases List.mem_cons.1 hx with e | hx
   ·exact e
   ·rcases List.mem_cons.1 hy with e | hy
    ·exact e.symm
    ·exact absurd ((List.pairwise_cons.1 hm).1 _ hx) (KLt.asymm ((List.pairwise_cons.1 hl).1 _ hy))
  subst hxy
  congr 1
  have hl':=(List.pairwise_cons.1 hl).2
  have hm':=(List.pairwise_cons.1 hm).2
  refine sorted_ext hl' hm' fun k => ?_
  by_cases hk:x.1=k
  ·subst hk
   have n1:getE l x.1=none:=getE_none.2 fun hk=>by
    obtain ⟨z,hz,he⟩:=List.mem_map.1 hk
    exact KLt.ne ((List.pairwise_cons.1 hl).1 z hz) he.symm
   have n2:getE m x.1=none:=getE_none.2 fun hk=>by
    obtain ⟨z,hz,he⟩:=List.mem_map.1 hk
    exact KLt.ne ((List.pairwise_cons.1 hm).1 z hz) he.symm
   rw [n1,n2]
  ·have e1:∀ v,getE l k=some v↔getE (x :: l) k=some v:=fun v=>by
    constructor
    ·intro h1; exact getE_of_mem hl (List.mem_cons_of_mem _ (getE_mem h1))
    ·intro h1
     rcases List.mem_cons.1 (getE_mem h1) with e | h2
     ·exact absurd (congrArg Prod.fst e).symm hk
     ·exact getE_of_mem hl' h2
   have e2:∀ v,getE m k=some v↔getE (x :: m) k=some v:=fun v=>by
    constructor
    ·intro h1; exact getE_of_mem hm (List.mem_cons_of_mem _ (getE_mem h1))
    ·intro h1
     rcases List.mem_cons.1 (getE_mem h1) with e | h2
     ·exact absurd (congrArg Prod.fst e).symm hk
     ·exact getE_of_mem hm' h2
   apply Option.ext
   intro v
   rw [e1,e2,h k]
theorem lay_back {s:St} (hs:Sorted s.ents) (k:ByteArray) (l:List Ent) (hl:Sorted l) (hg:∀ j,j≠k→getE l j=getE s.ents j):layE l k (s.val k) (getE s.ents k).isSome=s.ents:=by
 unfold layE
 cases hk:getE s.ents k with
 | none =>
  simp only [Option.isSome_none,Bool.false_eq_true,if_false]
  refine sorted_ext (delE_sorted hl k) hs fun j => ?_
  rw [getE_delE _ hl]
  by_cases hj:k=j
  ·subst hj; rw [if_pos rfl,hk]
  ·rw [if_neg hj,hg j (Ne.symm hj)]
 | some v =>
  simp only [Option.isSome_some,if_true]
  refine sorted_ext (putE_sorted hl k _) hs fun j => ?_
  rw [getE_putE _ hl]
  by_cases hj:k=j
  ·subst hj
   rw [if_pos rfl,hk]
   unfold St.val; rw [hk]; rfl
  ·rw [if_neg hj,hg j (Ne.symm hj)]
theorem put_undo1 {s:St} (hs:Sorted s.ents) (k v:ByteArray):s.put k v=s∨(undo1 (s.put k v)=s∧(s.put k v).past.length=s.past.length+1):=by
 have one:∀ (l:List Ent),Sorted l→(∀ j,j≠k→getE l j=getE s.ents j)→undo1 ⟨l,s.past ++ [s.was k]⟩=s:=fun l hl hg=>by
  unfold undo1
  simp only [List.getLast?_append,List.getLast?_singleton,Option.some_or,List.dropLast_concat]
  unfold St.lay St.was
  simp only
  rw [lay_back hs k l hl hg]
 unfold St.put
 split
 ·unfold St.del
  split
  ·refine .inr ⟨one _ (delE_sorted hs k) fun j hj => ?_,by simp⟩
   rw [getE_delE _ hs,if_neg (Ne.symm hj)]
  ·exact .inl rfl
 ·split
  ·exact .inl rfl
  ·unfold St.set
   split
   ·exact .inl rfl
   ·refine .inr ⟨one _ (putE_sorted hs k v) fun j hj => ?_,by simp⟩
    rw [getE_putE _ hs,if_neg (Ne.symm hj)]
theorem undoK_add (s:St) (a:Nat):∀ b,undoK s (a+b)=undoK (undoK s a) b
 | 0=>rfl
 | b+1=>by rw [← Nat.add_assoc,undoK,undoK_add s a b]; rfl
def Und (s s':St):Prop:=s.past.length≤s'.past.length∧s'.undo s.past.length=s
theorem Und.refl (s:St):Und s s:=⟨Nat.le_refl _,by unfold St.undo; rw [Nat.sub_self]; rfl⟩
theorem Und.put {s s':St} (h:Und s s') (hs:Sorted s'.ents) (k v:ByteArray):Und s (s'.put k v):=by
 rcases put_undo1 hs k v with e | ⟨e,hl⟩
 ·rw [e]; exact h
 ·refine ⟨by rw [hl]; have:=h.1; omega,?_⟩
  have:=h.1
  unfold St.undo
  rw [hl,show s'.past.length+1 - s.past.length=1+(s'.past.length - s.past.length) by omega,undoK_add]
  show undoK (undo1 (s'.put k v)) _=s
  rw [e]; exact h.2
theorem Und.setAmt {s s':St} (h:Und s s') (hs:Sorted s'.ents) (k:ByteArray) (x:W4):Und s (s'.setAmt k x):=h.put hs _ _
theorem put_srt {s:St} (hs:Sorted s.ents) (k v:ByteArray):Sorted (s.put k v).ents:=by
 unfold St.put
 split
 ·exact St.del_sorted hs _
 ·split
  ·exact hs
  ·exact St.set_sorted hs _ _
theorem layE_len (l:List Ent) (k v:ByteArray) (t:Bool):(layE l k v t).length≤l.length+1:=by
 unfold layE
 split
 ·exact putE_length l k v
 ·exact Nat.le_succ_of_le (delE_length l k)
theorem undoK_size {s:St}:∀ k,(undoK s k).size≤s.size
 | 0=>Nat.le_refl _
 | k+1=>by
  refine Nat.le_trans ?_ (undoK_size k)
  show (undo1 (undoK s k)).size≤_
  generalize undoK s k=u
  unfold undo1
  split
  ·rename_i x hx
   unfold St.lay St.size
   simp only [List.length_dropLast]
   have hp:0 < u.past.length:=by
    cases hq:u.past with
    | nil=>rw [hq] at hx; cases hx
    | cons _ _=>simp
   have:=layE_len u.ents x.key x.val x.there
   omega
  ·exact Nat.le_refl _
theorem undo_q (w:World) (h:Hand) (s:St) (m:Nat) (hq:QSt w h s) (hm:m≤s.past.length) (hz:s.size < 1000000000000) :
  Calls Tryz.prog 74 #[.pointer h.ptr,.int .i64 m] w fun e w'=>(∃ b,e = .returned (.bool b))∧QOn w h (h.st s (s.undo m)) w':=by
 unfold Hand.st
 rcases hq with ⟨hon,b,hp,hS⟩ | ⟨hon,hN,hs,hl⟩
 ·rw [hp,if_pos hon]
  exact (undo_any w b s h.L m hS hm fun k=>Nat.lt_of_le_of_lt (undoK_size k) hz).mono fun e w' ⟨he,L',hS',st⟩=>⟨⟨_,he⟩,L',.inl ⟨hon,b,hp,hS'⟩,st⟩
 ·rw [if_neg (by rw [hon]; decide)]
  have HI:Hid (Calls Tryz.prog 142 #[.pointer h.ptr] w fun e w'=>e = .returned (.bool false)∧w=w'):=by
   rcases hN with h1 | ⟨b,h1,_,hc⟩
   ·rw [h1]; exact is_nil w
   ·rw [h1]; exact is_at w b false hc
  have HQ:Hid (QOn w h s w):=QOn.start (.inr ⟨hon,hN,hs,hl⟩)
  generalize h.ptr=q at *
  clear hN hl hs hm hz
  go_enter Tryz.func74,Tryz.ntmps74
  go_wp2_with (go_at_call 142; refine HI.out.mono ?_; rintro e w' ⟨rfl,rfl⟩)
  go_ret
  exact ⟨⟨_,rfl⟩,HQ.out⟩
end Go.Proofs.YtnkilceibkkjlaaGreat
