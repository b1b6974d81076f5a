/- What is proved here: the store's Undo, of the program. Its conditions: sizes. what is put is undone; holding.undo of the program as a deferred call. Their conditions: sizes, keys in order. an error's cell, a deferred call among rows, results in cells. No condition. cell.SetRow and Next, and the reference's own: a row is written; a number is one more. Their conditions: numbers from nought to 2^63, sizes. -/
import Derived.Test.YtnkilceibkkjlaaGreatFHandG
import Derived.Test.YtnkilceibkkjlaaGreatFHoldB
import Derived.Defers
import Derived.Test.YtnkilceibkkjlaaGreatFCell
set_option maxRecDepth 100000
set_option maxHeartbeats 16000000
namespace Go.Proofs.YtnkilceibkkjlaaGreat
open Go.RowKit
def undo1 (s:St):St:=match s.past.getLast? with
 | some x=>(⟨s.ents,s.past.dropLast⟩:St).lay x.key x.val x.there
 | none=>s
def undoK (s:St):Nat→St
 | 0=>s
 | k+1=>undo1 (undoK s k)
def St.undo (s:St) (m:Nat):St:=undoK s (s.past.length - m)
theorem undo1_past (s:St):(undo1 s).past.length=s.past.length - 1:=by
 unfold undo1
 split
 ·simp [St.lay]
 ·rename_i h
  rw [List.getLast?_eq_none_iff] at h
  rw [h]; rfl
theorem undoK_past (s:St):∀ k,(undoK s k).past.length=s.past.length - k
 | 0=>rfl
 | k+1=>by rw [undoK,undo1_past,undoK_past s k]; omega
theorem lay_all (w:World) (b mb:Nat) (es:Array MapEntry) (clk:Nat) (bv pv:Value) (bs:List Blk) (s:St) (k v:ByteArray) (t:Bool) (h:SAt w b mb es clk bv pv bs s) (hb:s.ents.length < 1000000000000) :
  Calls Tryz.prog 146 #[.pointer (some ⟨b,0,none⟩),.string k,.string v,.bool t] w fun e w'=>(∃ u,e = .returned u)∧Laid w b mb bv pv bs (s.lay k v t) w':=by
 cases t with
 | true =>
  cases hk:(getE s.ents k).isSome with
  | false=>exact (lay_put_new w b mb es clk bv pv bs s k v h hb hk).mono fun e w' h1=>⟨⟨_,h1.1⟩,h1.2⟩
  | true=>exact (lay_put_old w b mb es clk bv pv bs s k v h hk).mono fun e w' h1=>⟨⟨_,h1.1⟩,h1.2⟩
 | false =>
  cases hk:(getE s.ents k).isSome with
  | false=>exact (lay_none w b mb es clk bv pv bs s k v h hk).mono fun e w' h1=>⟨⟨_,h1.1⟩,h1.2⟩
  | true=>exact (lay_del w b mb es clk bv pv bs s k v h hb hk).mono fun e w' h1=>⟨⟨_,h1.1⟩,h1.2⟩
theorem was_len (p:List Was):(p.flatMap wasCells).length=p.length*3:=by
 induction p with
 | nil=>rfl
 | cons a t ih=>rw [List.flatMap_cons,List.length_append,ih]; simp [wasCells]; omega
def UndoR (w:World) (b:Nat) (L:List Nat) (s:St) (wr:World):Prop:=∃ (last g c:Nat) (x:Was),s.past.length=last+1∧wr.cell? ⟨b,3,none⟩=some (.slice (some ⟨g,0,none⟩) (last+1) c)∧last < c ∧
 wr.cell? ⟨g,last*3,none⟩=some (.string x.key)∧wr.cell? ⟨g,last*3+1,none⟩=some (.string x.val)∧wr.cell? ⟨g,last*3+2,none⟩=some (.bool x.there)∧wr.frozen? ⟨b,3,none⟩=false∧b < wr.heap.size ∧
 Calls Tryz.prog 146 #[.pointer (some ⟨b,0,none⟩),.string x.key,.string x.val,.bool x.there] ((wr.alloc (.cells (wasCells x).toArray 198)).setCell ⟨b,3,none⟩ (.slice (some ⟨g,0,none⟩) last last)) fun e w'=>(∃ u,e = .returned u)∧On w b L (undo1 s) w'
theorem undo_round {w:World} {b:Nat} {L:List Nat} {s:St} {wr:World} (h:On w b L s wr) (hz:s.size < 1000000000000) (hne:0 < s.past.length):UndoR w b L s wr:=by
 obtain ⟨L',⟨mb,es,clk,bv,pv,bs,hS,rfl⟩,st⟩:=h
 obtain ⟨p,x,hp⟩:∃ p x,s.past=p ++ [x]:=⟨s.past.dropLast,s.past.getLast (by intro e; rw [e] at hne; exact absurd hne (by decide)),(List.dropLast_concat_getLast _).symm⟩
 have hlen:s.past.length=p.length+1:=by rw [hp]; simp
 have hps:=hS.ps
 rw [hlen,hp] at hps
 obtain ⟨_,h0 | ⟨g,cap,cur,rfl,hg,h1,h2,h3,h4⟩⟩:=hps
 ·exact absurd h0.2 (by omega)
 obtain ⟨_,_,_,c3,hfz⟩:=head_cell hS.hd
 have hlt:=hS.lt
 have hbw:=lt_of_at hS.hd
 have hnd:=hS.nd
 simp only [sids,Value.ownBlock,Option.toList,List.nodup_cons,List.mem_cons,List.mem_append,not_or,List.nodup_append,List.not_mem_nil,or_false] at hnd
 have hgb:g≠b:=fun e=>hnd.1.2.1 e.symm
 have hpl:=was_len p
 have hfl:(p ++ [x]).flatMap wasCells=p.flatMap wasCells ++ wasCells x:=by simp
 rw [hfl] at h4
 have hcell:∀ i v,(wasCells x)[i]? = some v→wr.cell? ⟨g,p.length*3+i,none⟩=some v:=fun i v hi=>by
  have hi3:i < 3:=by have:=(List.getElem?_eq_some_iff.1 hi).1; simpa [wasCells] using this
  rw [cell_of_row _ _ _ _ _ _ hg]
  have h5:=congrArg (fun l=>l[p.length*3+i]?) h4
  simp only [List.getElem?_take,if_pos (show p.length*3+i < (p.length+1)*3 by omega)] at h5
  rw [List.getElem?_append_right (by omega),hpl,Nat.add_sub_cancel_left,hi] at h5
  simpa using h5
 refine ⟨p.length,g,cap,x,hlen,c3,by omega,hcell 0 _ rfl,hcell 1 _ rfl,hcell 2 _ rfl,hfz 3,hbw,?_⟩
 have hu:undo1 s=(⟨s.ents,p⟩:St).lay x.key x.val x.there:=by
  unfold undo1
  rw [hp]
  simp
 have hoth:∀ k,k < wr.heap.size→k≠b→((wr.alloc (.cells (wasCells x).toArray 198)).setCell ⟨b,3,none⟩ (.slice (some ⟨g,0,none⟩) p.length p.length)).heap[k]? = wr.heap[k]?:=fun k hk hn=>by
  rw [Below.heap_setCell _ _ _ _ hn,heap_alloc_old wr _ hk]
 have hS2:SAt ((wr.alloc (.cells (wasCells x).toArray 198)).setCell ⟨b,3,none⟩ (.slice (some ⟨g,0,none⟩) p.length p.length)) b mb es clk bv (.slice (some ⟨g,0,none⟩) p.length p.length) bs ⟨s.ents,p⟩:=by
  refine ⟨head_set3 (by rw [heap_alloc_old wr _ hbw]; exact hS.hd) _,?_,?_,?_,hS.me,hS.fl,hS.srt,hS.nd⟩
  ·rw [hoth mb (hlt mb (by simp [sids])) (fun e=>hnd.1.1 e.symm)]; exact hS.mp
  ·refine hS.ks.frame fun k hk=>hoth k (hlt k (by simp [sids,hk])) (fun e=>hnd.1.2.2 (e ▸ hk))
  ·refine ⟨hpl,.inr ⟨g,p.length,cur,rfl,?_,Nat.le_refl _,by omega,by omega,?_⟩⟩
   ·rw [hoth g (lt_of_at hg) hgb]; exact hg
   ·have h5:(cur.toList.take ((p.length+1)*3)).take (p.length*3)=(p.flatMap wasCells ++ wasCells x).take (p.length*3):=by rw [h4]
    rw [List.take_take,Nat.min_eq_left (by omega),List.take_left' hpl] at h5
    exact h5
 have hz2:s.ents.length < 1000000000000:=by unfold St.size at hz; omega
 rw [hu]
 refine (lay_all _ b mb es clk bv _ bs ⟨s.ents,p⟩ x.key x.val x.there hS2 hz2).mono fun e w' ⟨he,es',clk',bv',bs',hS3,hF,hI⟩=>⟨he,_,⟨mb,es',clk',bv',_,bs',hS3,rfl⟩,?_⟩
 have stA:Step wr (sids b mb bv (.slice (some ⟨g,0,none⟩) (p.length+1) cap) bs) ((wr.alloc (.cells (wasCells x).toArray 198)).setCell ⟨b,3,none⟩ (.slice (some ⟨g,0,none⟩) p.length p.length)) (sids b mb bv (.slice (some ⟨g,0,none⟩) p.length p.length) bs) :=
  ⟨((Fr.refl _ wr).alloc _).setCell _ _ (.inr (by simp [sids])),fun k hk => .inl hk⟩
 exact (st.trans stA).trans ⟨hF,hI⟩
theorem On.past {w:World} {b:Nat} {L:List Nat} {s:St} {wr:World} (h:On w b L s wr):(∃ a c,wr.cell? ⟨b,3,none⟩=some (.slice a s.past.length c))∧wr.cell? ⟨b,0,none⟩=some (.bool true):=by
 obtain ⟨L',⟨mb,es,clk,bv,pv,bs,hS,rfl⟩,st⟩:=h
 obtain ⟨a,c,rfl,_⟩:=hS.ps.form
 obtain ⟨c0,_,_,c3,_⟩:=head_cell hS.hd
 exact ⟨⟨a,c,c3⟩,c0⟩
def pastN (b:Nat) (w:World):Nat:=match w.cell? ⟨b,3,none⟩ with
 | some (.slice _ n _)=>n
 | _=>0
theorem On.pastN {w:World} {b:Nat} {L:List Nat} {s:St} {wr:World} (h:On w b L s wr):pastN b wr=s.past.length:=by
 obtain ⟨⟨a,c,hc⟩,_⟩:=h.past
 unfold Proofs.YtnkilceibkkjlaaGreat.pastN
 rw [hc]
theorem undo_any (w:World) (b:Nat) (s:St) (L:List Nat) (m:Nat) (h:SRep w b s L) (hm:m≤s.past.length) (hz:∀ k,(undoK s k).size < 1000000000000) :
  Calls Tryz.prog 74 #[.pointer (some ⟨b,0,none⟩),.int .i64 m] w fun e w'=>e = .returned (.bool true)∧On w b L (s.undo m) w':=by
 have hO0:=On.start h
 have hlen:s.past.length < 1000000000000:=by have:=hz 0; unfold undoK St.size at this; omega
 have HI:=Lib.hid (is_at w b true h.cell0)
 have HR:Hid (∀ k wr,k < s.past.length - m→On w b L (undoK s k) wr→∃ (last g c:Nat) (x:Was),s.past.length - k=last+1∧wr.cell? ⟨b,3,none⟩=some (.slice (some ⟨g,0,none⟩) (last+1) c)∧last < c ∧
   wr.cell? ⟨g,last*3,none⟩=some (.string x.key)∧wr.cell? ⟨g,last*3+1,none⟩=some (.string x.val)∧wr.cell? ⟨g,last*3+2,none⟩=some (.bool x.there)∧wr.frozen? ⟨b,3,none⟩=false∧b < wr.heap.size ∧
   Calls Tryz.prog 146 #[.pointer (some ⟨b,0,none⟩),.string x.key,.string x.val,.bool x.there] ((wr.setCell ⟨b,3,none⟩ (.slice (some ⟨g,0,none⟩) last last)).alloc (.cells #[.string x.key,.string x.val,.bool x.there] 198)) fun e w'=>(∃ u,e = .returned u)∧On w b L (undoK s (k+1)) w'):=fun k wr hk hO=>by
  have hp:=undoK_past s k
  obtain ⟨last,g,c,x,h1,c3,h2,e0,e1,e2,f3,hbw,hC⟩:=undo_round hO (hz k) (by omega)
  rw [World.setCell_alloc_past _ b 3 _ hbw] at hC
  exact ⟨last,g,c,x,by omega,c3,h2,e0,e1,e2,f3,hbw,hC⟩
 have HP:Hid (∀ k wr,On w b L (undoK s k) wr→(∃ a c,wr.cell? ⟨b,3,none⟩=some (.slice a (s.past.length - k) c))∧pastN b wr=s.past.length - k):=fun k wr hO=>by
  have h1:=hO.past.1
  have h2:=hO.pastN
  rw [undoK_past] at h1 h2
  exact ⟨h1,h2⟩
 have HE:Hid (s.undo m=undoK s (s.past.length - m)):=rfl
 obtain ⟨⟨a0,c0,hc0⟩,_⟩:=HP.out 0 w hO0
 rw [Nat.sub_zero] at hc0
 have HO0:=Lib.hid hO0
 have hd1:decide ((m:Int) < 0)=false:=decide_eq_false (by omega)
 have hd2:decide (((s.past.length:Nat):Int) < (m:Int))=false:=decide_eq_false (by omega)
 have hd3:decide (s.past.length < m)=false:=decide_eq_false (by omega)
 rw [HE.out]
 clear h hO0 hz HE
 generalize s.past.length=n at *
 go_enter Tryz.func74,Tryz.ntmps74
 go_wp2_with (go_at_call 142; refine HI.out.mono ?_; rintro e w' ⟨rfl,rfl⟩)
 go_loopw [5] (fun _ wr=>∃ k:Nat,k≤n - m∧On w b L (undoK s k) wr) (fun _ wr=>pastN b wr)
 case atStart=>exact ⟨0,Nat.zero_le _,HO0.out⟩
 case round =>
  obtain ⟨k,hk,hO⟩:=hrel
  have HO:=Lib.hid hO
  have HPN:=Lib.hid (HP.out k wr hO)
  clear hO HO0
  by_cases hlt:k < n - m
  ·obtain ⟨last,g,c,x,h1,c3,hcap,e0,e1,e2,f3,hbw,hL⟩:=HR.out k wr hlt HO.out
   have HL:=Lib.hid hL
   have hne:=Nat.ne_of_lt hbw
   have hne2:=Ne.symm hne
   have hgt:decide ((m:Int) < (((last+1:Nat):Nat):Int))=true:=decide_eq_true (by omega)
   have hlast:((last+1:Nat):Int) - 1=(last:Int):=by omega
   clear hL HR
   go_wp2_with fail
   refine Calls.mono HL.out ?_
   rintro e w2 ⟨⟨u,rfl⟩,hO2⟩
   have hO3:On w b L (undoK s (k+1)) w2:=hO2
   have HO3:=Lib.hid hO3
   have HP3:=Lib.hid (HP.out (k+1) w2 hO3)
   clear hO2 hO3 HL
   go_wp2_with fail
   go_roundw
   case rel=>exact ⟨k+1,by omega,HO3.out⟩
   case measure=>rw [HP3.out.2,HPN.out.2]; omega
  ·obtain rfl:k=n - m:=by omega
   obtain ⟨⟨a1,c1,hc1⟩,_⟩:=HPN.out
   have hnm:n - (n - m)=m:=by omega
   rw [hnm] at hc1
   go_wp2_with fail
   go_ret
   exact ⟨rfl,HO.out⟩
theorem sorted_ext:∀ {l m:List Ent},Sorted l→Sorted m→(∀ k,getE l k=getE m k)→l=m
 | [],[],_,_,_=>rfl
 | [],y :: m,_,hm,h=>by
  have:=h y.1
  rw [getE_of_mem hm (k:=y.1) (v:=y.2) (by simp)] at this
  cases this
 | x :: l,[],hl,_,h=>by
  have:=h x.1
  rw [getE_of_mem hl (k:=x.1) (v:=x.2) (by simp)] at this
  cases this
 | x :: l,y :: m,hl,hm,h=>by
  have hx:(x.1,x.2)∈y :: m:=getE_mem (by rw [← h x.1]; exact getE_of_mem hl (by simp))
  have hy:(y.1,y.2)∈x :: l:=getE_mem (by rw [h y.1]; exact getE_of_mem hm (by simp))
  have hxy:x=y:=by
   rcases List.mem_cons.1 hx with e | hx
   ·exact e
   ·rcases List.mem_cons.1 hy with e | hy
    ·exact e.symm
    ·exact absurd ((List.pairwise_cons.1 hm).1 _ hx) (KLt.asymm ((List.pairwise_cons.1 hl).1 _ hy))
  subst hxy
  congr 1
  have hl':=(List.pairwise_cons.1 hl).2
  have hm':=(List.pairwise_cons.1 hm).2
  refine sorted_ext hl' hm' fun k => ?_
  by_cases hk:x.1=k
  ·subst hk
   have n1:getE l x.1=none:=getE_none.2 fun hk=>by
    obtain ⟨z,hz,he⟩:=List.mem_map.1 hk
    exact KLt.ne ((List.pairwise_cons.1 hl).1 z hz) he.symm
   have n2:getE m x.1=none:=getE_none.2 fun hk=>by
    obtain ⟨z,hz,he⟩:=List.mem_map.1 hk
    exact KLt.ne ((List.pairwise_cons.1 hm).1 z hz) he.symm
   rw [n1,n2]
  ·have e1:∀ v,getE l k=some v↔getE (x :: l) k=some v:=fun v=>by
    constructor
    ·intro h1; exact getE_of_mem hl (List.mem_cons_of_mem _ (getE_mem h1))
    ·intro h1
     rcases List.mem_cons.1 (getE_mem h1) with e | h2
     ·exact absurd (congrArg Prod.fst e).symm hk
     ·exact getE_of_mem hl' h2
   have e2:∀ v,getE m k=some v↔getE (x :: m) k=some v:=fun v=>by
    constructor
    ·intro h1; exact getE_of_mem hm (List.mem_cons_of_mem _ (getE_mem h1))
    ·intro h1
     rcases List.mem_cons.1 (getE_mem h1) with e | h2
     ·exact absurd (congrArg Prod.fst e).symm hk
     ·exact getE_of_mem hm' h2
   apply Option.ext
   intro v
   rw [e1,e2,h k]
theorem lay_back {s:St} (hs:Sorted s.ents) (k:ByteArray) (l:List Ent) (hl:Sorted l) (hg:∀ j,j≠k→getE l j=getE s.ents j):layE l k (s.val k) (getE s.ents k).isSome=s.ents:=by
 unfold layE
 cases hk:getE s.ents k with
 | none =>
  simp only [Option.isSome_none,Bool.false_eq_true,if_false]
  refine sorted_ext (delE_sorted hl k) hs fun j => ?_
  rw [getE_delE _ hl]
  by_cases hj:k=j
  ·subst hj; rw [if_pos rfl,hk]
  ·rw [if_neg hj,hg j (Ne.symm hj)]
 | some v =>
  simp only [Option.isSome_some,if_true]
  refine sorted_ext (putE_sorted hl k _) hs fun j => ?_
  rw [getE_putE _ hl]
  by_cases hj:k=j
  ·subst hj
   rw [if_pos rfl,hk]
   unfold St.val; rw [hk]; rfl
  ·rw [if_neg hj,hg j (Ne.symm hj)]
theorem put_undo1 {s:St} (hs:Sorted s.ents) (k v:ByteArray):s.put k v=s∨(undo1 (s.put k v)=s∧(s.put k v).past.length=s.past.length+1):=by
 have one:∀ (l:List Ent),Sorted l→(∀ j,j≠k→getE l j=getE s.ents j)→undo1 ⟨l,s.past ++ [s.was k]⟩=s:=fun l hl hg=>by
  unfold undo1
  simp only [List.getLast?_append,List.getLast?_singleton,Option.some_or,List.dropLast_concat]
  unfold St.lay St.was
  simp only
  rw [lay_back hs k l hl hg]
 unfold St.put
 split
 ·unfold St.del
  split
  ·refine .inr ⟨one _ (delE_sorted hs k) fun j hj => ?_,by simp⟩
   rw [getE_delE _ hs,if_neg (Ne.symm hj)]
  ·exact .inl rfl
 ·split
  ·exact .inl rfl
  ·unfold St.set
   split
   ·exact .inl rfl
   ·refine .inr ⟨one _ (putE_sorted hs k v) fun j hj => ?_,by simp⟩
    rw [getE_putE _ hs,if_neg (Ne.symm hj)]
theorem undoK_add (s:St) (a:Nat):∀ b,undoK s (a+b)=undoK (undoK s a) b
 | 0=>rfl
 | b+1=>by rw [← Nat.add_assoc,undoK,undoK_add s a b]; rfl
def Und (s s':St):Prop:=s.past.length≤s'.past.length∧s'.undo s.past.length=s
theorem Und.refl (s:St):Und s s:=⟨Nat.le_refl _,by unfold St.undo; rw [Nat.sub_self]; rfl⟩
theorem Und.put {s s':St} (h:Und s s') (hs:Sorted s'.ents) (k v:ByteArray):Und s (s'.put k v):=by
 rcases put_undo1 hs k v with e | ⟨e,hl⟩
 ·rw [e]; exact h
 ·refine ⟨by rw [hl]; have:=h.1; omega,?_⟩
  have:=h.1
  unfold St.undo
  rw [hl,show s'.past.length+1 - s.past.length=1+(s'.past.length - s.past.length) by omega,undoK_add]
  show undoK (undo1 (s'.put k v)) _=s
  rw [e]; exact h.2
theorem Und.setAmt {s s':St} (h:Und s s') (hs:Sorted s'.ents) (k:ByteArray) (x:W4):Und s (s'.setAmt k x):=h.put hs _ _
theorem put_srt {s:St} (hs:Sorted s.ents) (k v:ByteArray):Sorted (s.put k v).ents:=by
 unfold St.put
 split
 ·exact St.del_sorted hs _
 ·split
  ·exact hs
  ·exact St.set_sorted hs _ _
theorem layE_len (l:List Ent) (k v:ByteArray) (t:Bool):(layE l k v t).length≤l.length+1:=by
 unfold layE
 split
 ·exact putE_length l k v
 ·exact Nat.le_succ_of_le (delE_length l k)
theorem undoK_size {s:St}:∀ k,(undoK s k).size≤s.size
 | 0=>Nat.le_refl _
 | k+1=>by
  refine Nat.le_trans ?_ (undoK_size k)
  show (undo1 (undoK s k)).size≤_
  generalize undoK s k=u
  unfold undo1
  split
  ·rename_i x hx
   unfold St.lay St.size
   simp only [List.length_dropLast]
   have hp:0 < u.past.length:=by
    cases hq:u.past with
    | nil=>rw [hq] at hx; cases hx
    | cons _ _=>simp
   have:=layE_len u.ents x.key x.val x.there
   omega
  ·exact Nat.le_refl _
theorem undo_q (w:World) (h:Hand) (s:St) (m:Nat) (hq:QSt w h s) (hm:m≤s.past.length) (hz:s.size < 1000000000000) :
  Calls Tryz.prog 74 #[.pointer h.ptr,.int .i64 m] w fun e w'=>(∃ b,e = .returned (.bool b))∧QOn w h (h.st s (s.undo m)) w':=by
 unfold Hand.st
 rcases hq with ⟨hon,b,hp,hS⟩ | ⟨hon,hN,hs,hl⟩
 ·rw [hp,if_pos hon]
  exact (undo_any w b s h.L m hS hm fun k=>Nat.lt_of_le_of_lt (undoK_size k) hz).mono fun e w' ⟨he,L',hS',st⟩=>⟨⟨_,he⟩,L',.inl ⟨hon,b,hp,hS'⟩,st⟩
 ·rw [if_neg (by rw [hon]; decide)]
  have HI:Hid (Calls Tryz.prog 142 #[.pointer h.ptr] w fun e w'=>e = .returned (.bool false)∧w=w'):=by
   rcases hN with h1 | ⟨b,h1,_,hc⟩
   ·rw [h1]; exact is_nil w
   ·rw [h1]; exact is_at w b false hc
  have HQ:Hid (QOn w h s w):=QOn.start (.inr ⟨hon,hN,hs,hl⟩)
  generalize h.ptr=q at *
  clear hN hl hs hm hz
  go_enter Tryz.func74,Tryz.ntmps74
  go_wp2_with (go_at_call 142; refine HI.out.mono ?_; rintro e w' ⟨rfl,rfl⟩)
  go_ret
  exact ⟨⟨_,rfl⟩,HQ.out⟩
abbrev eO (e:Int):Obj:=.cells #[.int .i64 e] 49
theorem QV.callD {R:World→List Nat→St→Prop} {w W:World} {L:List Nat} {s s':St} {rs:List (Nat × Obj)} (h:QV R w L s rs W) {f:FuncId} {args:Array Value} {u:FrameMode} {v:Value} (hC:∀ L',R W L' s→CallsD Tryz.prog f args u W fun e u' W'=>u'=u∧(e = .returned v∧∃ L'',R W' L'' s'∧Step W L' W' L'')) :
  CallsD Tryz.prog f args u W fun e u' W'=>u'=u∧(e = .returned v∧QV R w L s' rs W'):=by
 obtain ⟨L',h1,h2,h3⟩:=h.on
 refine (hC L' h1).mono fun e u' W' ⟨hu,he,L2,hR2,st⟩=>⟨hu,he,h.ok,⟨L2,hR2,h2.trans st,fun g o hm hk => ?_⟩,fun g o hm=>⟨h.le hm,(st.fr.block g (lt_of_at (h.row hm)) (h3 g o hm)).trans (h.row hm)⟩⟩
 rcases st.own g hk with h4 | h4
 ·exact h3 g o hm h4
 ·exact absurd (lt_of_at (h.row hm)) (Nat.not_lt.2 h4)
theorem row1 {w:World} {g:Nat} {e:Int} (h:w.heap[g]? = some (eO e)):w.cell? ⟨g,0,none⟩=some (.int .i64 e)∧w.frozen? ⟨g,0,none⟩=false:=by
 refine ⟨by rw [cell_of_row _ _ _ _ _ _ h]; rfl,frozen_of_row _ _ _ _ _ h⟩
theorem put1 {w:World} {g:Nat} {e:Int} (h:w.heap[g]? = some (eO e)) (n:Int):(w.setCell ⟨g,0,none⟩ (.int .i64 n)).heap[g]? = some (eO n):=setCell_row _ h
theorem QV.put1 {R:World→List Nat→St→Prop} {w W:World} {L:List Nat} {s:St} {rs:List (Nat × Obj)} (h:QV R w L s rs W) {g:Nat} {e:Int} (n:Int) (hm:(g,eO e)∈rs) (qs:List (Nat × Obj)) (hqs:∀ x,x∈qs→x∈rs∧x.1≠g):QV R w L s ((g,eO n) :: qs) (W.setCell ⟨g,0,none⟩ (.int .i64 n)) :=
 h.turn hm (Proofs.YtnkilceibkkjlaaGreat.put1 (h.row hm) n) (by simp) (fun _ hk=>Below.heap_setCell _ _ _ _ hk) ⟨rfl,rfl,rfl⟩ qs hqs
theorem QSt.srt {w:World} {h:Hand} {s:St} (hq:QSt w h s):Sorted s.ents:=by
 rcases hq with ⟨_,b,_,mb,es,clk,bv,pv,bs,hS,_⟩ | ⟨_,_,hs,_⟩
 ·exact hS.srt
 ·rw [hs]; exact List.Pairwise.nil
def rowBy (l:List Int):List UInt8:=l.flatMap fun n=>be8 n.toNat
def rowB (l:List Int):ByteArray:=⟨(rowBy l).toArray⟩
theorem rowBy_len (l:List Int):(rowBy l).length=8*l.length:=by
 unfold rowBy
 induction l with
 | nil=>rfl
 | cons x l ih=>simp only [List.flatMap_cons,List.length_cons,List.length_append,be8_len,ih]; omega
theorem rowBy_snoc (l:List Int) (n:Int):rowBy (l ++ [n])=rowBy l ++ be8 n.toNat:=by simp [rowBy]
def RowTo (l:List Int) (w:World) (k:Nat) (wr:World):Prop:=k≤l.length∧IsB wr w.heap.size w.heap.size (rowBy (l.take k))∧Below w.heap.size w wr
theorem setRow_any (w:World) (b:Nat) (s:St) (L:List Nat) (key:ByteArray) (v:Value) (l:List Int) (h:SRep w b s L) (hb:s.size < 1000000000000) (hv:IntsAt w v l) (hl:l.length < 1000000000) (hne:l≠[]) (hr:∀ n∈l,0≤n∧n < 9223372036854775808) :
  Calls Tryz.prog 107 #[.pointer (some ⟨b,0,none⟩),.string key,v] w (RetSt w b L (.tuple #[]) (s.put key (rowB l))):=by
 obtain ⟨ad,c,hve⟩:∃ ad c,v = .slice ad l.length c:=by
  rcases hv with ⟨rfl,rfl⟩ | ⟨a,c,h1,_⟩
  ·exact ⟨none,0,rfl⟩
  ·exact ⟨some a,c,h1⟩
 have HC:Hid (∀ wr k (n:Int),RowTo l w k wr→l[k]? = some n→∃ a,ad=some a∧wr.cell? (a.add k)=some (.int .i64 n)):=fun wr k n hb0 hk=>by
  have hb:=hb0.2.2
  rcases hv with ⟨_,rfl⟩ | ⟨a,c',h1,h3⟩
  ·simp at hk
  ·have:ad=some a:=by rw [hve] at h1; cases h1; rfl
   exact ⟨a,this,by rw [hb.cell (p:=a.add k) (World.block_lt_of_cell? w _ (h3 k n hk))]; exact h3 k n hk⟩
 subst hve
 clear hv
 have hB0:IsB (w.alloc (.cells #[.pointer none,.slice none 0 0] 211)) w.heap.size w.heap.size [] :=
  .inl ⟨Nat.le_refl _,_,heap_alloc_new w _,⟨by simp [Lib.byteCells],.inl ⟨rfl,rfl⟩⟩,by simp [Value.ownBlock]⟩
 have H0:Hid (RowTo l w 0 (w.alloc (.cells #[.pointer none,.slice none 0 0] 211))):=⟨by omega,by simpa [rowBy] using hB0,(Below.refl _ w).alloc (Nat.le_refl _) _⟩
 have HN:Hid (∀ wr k,RowTo l w k wr→∀ n:Nat,l[k]? = some (n:Int)→Calls Tryz.prog 162 #[.int .i64 n] wr fun e w'=>e = .returned (.string (numB n))∧RowTo l w k w'):=fun wr k hk n hn=>by
  have hn2:=hr _ (List.mem_of_getElem? hn)
  refine (num_any n wr (by omega)).mono fun e w' ⟨he,hb⟩=>⟨he,hk.1,isB_below hk.2.1 hb,hk.2.2.trans (hb.mono hk.2.2.size)⟩
 have HS:Hid (∀ wr k,RowTo l w k wr→∀ n:Nat,l[k]? = some (n:Int)→Calls Tryz.prog 161 #[.pointer (some ⟨w.heap.size,0,none⟩),.string (numB n)] wr fun e w'=>e = .returned (.tuple #[.int .i64 8,.nilIface])∧RowTo l w (k+1) w'):=fun wr k hk n hn=>by
  have hkl:k < l.length:=(List.getElem?_eq_some_iff.1 hn).1
  have hln:(rowBy (l.take k)).length+(numB n).size < 1000000000000:=by
   rw [rowBy_len,show (numB n).size=8 from rfl,List.length_take]; omega
  refine (writeStr_any w.heap.size w.heap.size _ (numB n) wr hk.2.1 hln (by rw [show (numB n).size=8 from rfl]; omega) hk.2.2.size).mono fun e w' ⟨he,h1,h2⟩=>⟨he,by omega,?_,hk.2.2.trans h2⟩
  rw [take_one_more l k _ hn,rowBy_snoc]
  exact h1
 have HT:Hid (∀ wr,RowTo l w l.length wr→Calls Tryz.prog 163 #[.pointer (some ⟨w.heap.size,0,none⟩)] wr fun e w'=>e = .returned (.string (rowB l))∧Below w.heap.size w w'):=fun wr hk=>by
  obtain ⟨_,h2,h3⟩:=hk
  rw [List.take_length] at h2
  exact (string_any w.heap.size w.heap.size _ wr h2 (fun e=>by
   have:=rowBy_len l
   rw [e] at this
   exact hne (List.eq_nil_of_length_eq_zero (by simp at this; omega)))).mono fun e w' ⟨he,hb⟩=>⟨he,h3.trans hb⟩
 have HP:Hid (∀ w1,Below w.heap.size w w1→Calls Tryz.prog 149 #[.pointer (some ⟨b,0,none⟩),.string key,.string (rowB l)] w1 fun e w'=>e = .returned (.tuple #[])∧RetSt w b L (.tuple #[]) (s.put key (rowB l)) e w'):=fun w1 h1 =>
  (putG_any w1 b s L key (rowB l) (h.fr (Fr.of_below h1 (fun _=>False)) (fun _ _=>id)) hb).mono fun e w' h2=>⟨h2.1,h2.of_below h1⟩
 have hget:∀ k,k < l.length→∃ n:Nat,l[k]? = some (n:Int):=fun k hk=>⟨(l[k]).toNat,by
  have:=hr l[k] (List.getElem_mem hk)
  rw [List.getElem?_eq_getElem hk]
  congr 1; omega⟩
 have HGET:=Lib.hid hget
 have hln:(l.length:Int) < 9223372036854775807:=by omega
 clear hB0 hget hr h hb hne
 generalize hm:l.length=m at *
 generalize rowB l=rb at *
 generalize hKT:RowTo l w=KT at *
 generalize RetSt w b L (.tuple #[]) (s.put key rb)=R at *
 clear hKT
 have HM:=Lib.hid hm
 clear hm
 go_enter Tryz.func107,Tryz.ntmps107
 go_wp2_with fail
 go_loopw [11] (fun i wr=>∃ k:Nat,i = .int .i64 k∧k≤m∧KT k wr) (fun i _=>m - (intOf i).toNat)
 case atStart=>exact ⟨0,rfl,by omega,H0.out⟩
 case round =>
  obtain ⟨k,rfl,hk,hN⟩:=hrel
  have HK:=Lib.hid hN
  clear hN H0
  by_cases hlt:k < m
  ·obtain ⟨n,hn⟩:=HGET.out k hlt
   obtain ⟨a,rfl,hc⟩:=HC.out wr k n HK.out hn
   have HNk:=Lib.hid hn
   have hd:decide ((n:Int) < 0)=false:=by simp
   clear hn
   go_wp2_with fail
   refine (HN.out wr k HK.out n HNk.out).mono ?_
   rintro e w1 ⟨rfl,hK1⟩
   have HK1:=Lib.hid hK1
   clear hK1
   go_wp2_with fail
   refine (HS.out w1 k HK1.out n HNk.out).mono ?_
   rintro e w2 ⟨rfl,hK2⟩
   have HK2:=Lib.hid hK2
   clear hK2
   go_wp2_with fail
   go_roundw
   case rel=>exact ⟨k+1,by go_num,by omega,HK2.out⟩
   case measure=>simp [intOf]; omega
  ·obtain rfl:k=m:=by omega
   have HTT:=Lib.hid (HT.out wr HK.out)
   go_wp2_with fail
   refine HTT.out.mono ?_
   rintro e w1 ⟨rfl,hb1⟩
   go_wp2_with fail
   refine (HP.out w1 hb1).mono ?_
   rintro e w2 ⟨rfl,hR⟩
   go_wp2_with fail
   go_end0
   exact hR
def RRowTo (l:List Int) (w:World) (k:Nat) (s:ByteArray) (wr:World):Prop:=k≤l.length∧s=⟨(rowBy (l.take k)).toArray⟩∧Below w.heap.size w wr
theorem RRowTo.next {l:List Int} {w:World} {k:Nat} {s:ByteArray} {wr:World} (h:RRowTo l w k s wr) {n:Nat} (hn:l[k]? = some (n:Int)):RRowTo l w (k+1) (s ++ numB n) wr:=by
 obtain ⟨h1,h2,h3⟩:=h
 have hlt:k < l.length:=(List.getElem?_eq_some_iff.1 hn).1
 refine ⟨by omega,?_,h3⟩
 subst h2
 have hx:=take_one_more l k _ hn
 apply ba_ext
 rw [hx,rowBy_snoc]
 rw [show ((⟨(rowBy (List.take k l)).toArray⟩:ByteArray) ++ numB n).data=(rowBy (List.take k l)).toArray ++ (numB n).data from ByteArray.data_append]
 simp [numB]
theorem next_any (w:World) (b:Nat) (s:St) (L:List Nat) (key:ByteArray) (h:SRep w b s L) (hb:s.size < 1000000000000) (hv:(s.val key).size < 1000000000000) (hn:s.int key < 1000000000000) :
  Calls Tryz.prog 106 #[.pointer (some ⟨b,0,none⟩),.string key] w (RetSt w b L (.int .i64 ((s.int key:Nat)+1:Int)) (s.setInt key ((s.int key:Nat)+1:Int))):=by
 have HI:=Lib.hid (int_at w b s L key h hv)
 have HS:Hid (∀ w1,Below w.heap.size w w1→Calls Tryz.prog 114 #[.pointer (some ⟨b,0,none⟩),.string key,.int .i64 ((s.int key:Nat)+1:Int)] w1 fun e w'=>e = .returned (.tuple #[])∧RetSt w b L (.int .i64 ((s.int key:Nat)+1:Int)) (s.setInt key ((s.int key:Nat)+1:Int)) (.returned (.int .i64 ((s.int key:Nat)+1:Int))) w'):=fun w1 h1 =>
  (setIntG_any w1 b s L key _ (by omega) (h.below h1) hb).mono fun e w' h2=>⟨h2.1,RetSt.of_below h1 ⟨rfl,h2.2⟩⟩
 generalize RetSt w b L (.int .i64 ((s.int key:Nat)+1:Int)) (s.setInt key ((s.int key:Nat)+1:Int))=R at *
 clear h hb hv
 generalize s.int key=n at *
 have hd:decide ((n:Int) < 9223372036854775807)=true:=decide_eq_true (by omega)
 have hdn:decide (n < 9223372036854775807)=true:=decide_eq_true (by omega)
 have hw:wrap64 ((n:Int)+1)=(n:Int)+1:=by unfold wrap64; omega
 clear hn
 go_enter Tryz.func106,Tryz.ntmps106
 go_wp2_with (first | (go_at_call 99; refine HI.out.mono ?_; rintro e w1 ⟨rfl,h1⟩) | (go_at_call 114; refine (HS.out _ h1).mono ?_; rintro e w2 ⟨rfl,hR⟩))
 exact hR
end Go.Proofs.YtnkilceibkkjlaaGreat
