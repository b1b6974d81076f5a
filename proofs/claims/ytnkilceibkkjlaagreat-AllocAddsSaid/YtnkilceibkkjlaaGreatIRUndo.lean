/- What is proved here: the reference's store's Undo. Its conditions: sizes. -/
import Derived.Test.YtnkilceibkkjlaaGreatIRExD
import Derived.Test.YtnkilceibkkjlaaGreatIUndG
import Derived.Test.YtnkilceibkkjlaaGreatIRelyC
set_option maxRecDepth 100000
set_option maxHeartbeats 16000000
namespace Go.Proofs.YtnkilceibkkjlaaGreat
open Go.RowKit
theorem rg_nil {ops:Array Oper} {o:Oper} {a:Act} {w:World} {K:Value→World→Prop} {x:Operand} {ad:Addr} (hg:Region.wanted o (yielded ops a.tmps)=true) (ho:o.op = .nilCheck x) (hx:a.eval x = .pointer (some ad)) (hk:K (.pointer (some ad)) w):rgDo Tryz.prog ops o a w K:=by
 refine rg_value hg ?_ hk
 clear hg hk
 generalize a.eval=ev at hx ⊢
 unfold execOp
 simp only [ho,hx]
 go_simp
theorem rg_fa1 {ops:Array Oper} {o:Oper} {a:Act} {w:World} {K:Value→World→Prop} {x:Operand} {b:Nat} (hg:Region.wanted o (yielded ops a.tmps)=true) (ho:o.op = .fieldAddr 45 x 1) (hx:a.eval x = .pointer (some ⟨b,0,none⟩)) (hk:K (.pointer (some ⟨b,1,none⟩)) w):rgDo Tryz.prog ops o a w K:=by
 refine rg_value hg ?_ hk
 clear hg hk
 generalize a.eval=ev at hx ⊢
 unfold execOp
 simp only [ho,hx]
 go_simp
theorem rg_loadP {ops:Array Oper} {o:Oper} {a:Act} {w:World} {K:Value→World→Prop} {x:Operand} {b:Nat} {ad:Option Addr} {n c:Nat} (hg:Region.wanted o (yielded ops a.tmps)=true) (ho:o.op = .load 43 x) (hx:a.eval x = .pointer (some ⟨b,1,none⟩)) (hc:w.cell? ⟨b,1,none⟩=some (.slice ad n c)) (hk:K (.slice ad n c) w):rgDo Tryz.prog ops o a w K:=by
 refine rg_value hg ?_ hk
 clear hg hk
 generalize a.eval=ev at hx ⊢
 unfold execOp
 simp only [ho,hx]
 go_simp
theorem rg_lenP {ops:Array Oper} {o:Oper} {a:Act} {w:World} {K:Value→World→Prop} {x:Operand} {ad:Option Addr} {n c:Nat} (hg:Region.wanted o (yielded ops a.tmps)=true) (ho:o.op = .call ⟨.builtin .len,#[x],#[43]⟩) (hx:a.eval x = .slice ad n c) (hk:K (.int .i64 n) w):rgDo Tryz.prog ops o a w K:=by
 refine rg_value hg ?_ hk
 clear hg hk
 generalize a.eval=ev at hx ⊢
 unfold execOp
 simp only [ho]
 go_simp
theorem rg_sub1 {ops:Array Oper} {o:Oper} {a:Act} {w:World} {K:Value→World→Prop} {x:Operand} {n m:Int} (hg:Region.wanted o (yielded ops a.tmps)=true) (ho:o.op = .binOp .sub 3 x (.const (.int .i64 1)) 3) (hx:a.eval x = .int .i64 n) (hw:IntKind.i64.wrap (n - 1)=m) (hk:K (.int .i64 m) w):rgDo Tryz.prog ops o a w K:=by
 subst hw
 refine rg_value hg ?_ hk
 clear hg hk
 have hc:a.eval (.const (.int .i64 1)) = .int .i64 1:=rfl
 generalize a.eval=ev at hx hc ⊢
 unfold execOp
 simp only [ho,hx,hc]
 go_simp
theorem rg_idxP {ops:Array Oper} {o:Oper} {a:Act} {w:World} {K:Value→World→Prop} {x y:Operand} {g n c k:Nat} (hg:Region.wanted o (yielded ops a.tmps)=true) (ho:o.op = .indexAddr 43 x y) (hx:a.eval x = .slice (some ⟨g,0,none⟩) n c) (hy:a.eval y = .int .i64 k) (hkn:k < n)
  (hk:K (.pointer (some ⟨g,k*3,none⟩)) w):rgDo Tryz.prog ops o a w K:=by
 refine rg_value hg ?_ hk
 clear hg hk
 have h1:(k:Int) < (n:Int):=by omega
 have h2:¬ (k:Int) < 0:=by omega
 have h3:((k:Int)).toNat=k:=by omega
 generalize a.eval=ev at hx hy ⊢
 unfold execOp
 simp only [ho,hx,hy]
 go_simp
theorem rg_loadW {ops:Array Oper} {o:Oper} {a:Act} {w:World} {K:Value→World→Prop} {x:Operand} {g i:Nat} {k v:ByteArray} {t:Bool} (hg:Region.wanted o (yielded ops a.tmps)=true) (ho:o.op = .load 244 x) (hx:a.eval x = .pointer (some ⟨g,i*3,none⟩))
  (h0:w.cell? ⟨g,i*3,none⟩=some (.string k)) (h1:w.cell? ⟨g,i*3+1,none⟩=some (.string v)) (h2:w.cell? ⟨g,i*3+2,none⟩=some (.bool t)) (hk:K (.agg #[.string k,.string v,.bool t]) w):rgDo Tryz.prog ops o a w K:=by
 refine rg_value hg ?_ hk
 clear hg hk
 generalize a.eval=ev at hx ⊢
 unfold execOp
 simp only [ho,hx]
 go_simp
theorem rg_allocW {ops:Array Oper} {o:Oper} {a:Act} {w:World} {K:Value→World→Prop} (hgd:Region.wanted o (yielded ops a.tmps)=true) (ho:o.op = .alloc 244) (hk:K (.pointer (some ⟨w.heap.size,0,none⟩)) (w.alloc (.cells #[.string emptyB,.string emptyB,.bool false] 244))):rgDo Tryz.prog ops o a w K:=by
 refine rg_value' hgd ?_ hk
 unfold execOp
 simp only [ho]
 go_simp
 rfl
theorem rg_sliceP {ops:Array Oper} {o:Oper} {a:Act} {w:World} {K:Value→World→Prop} {x y:Operand} {g n c k:Nat} (hg:Region.wanted o (yielded ops a.tmps)=true) (ho:o.op = .slice 43 x none (some y) none) (hx:a.eval x = .slice (some ⟨g,0,none⟩) n c) (hy:a.eval y = .int .i64 k) (hkn:k≤c)
  (hk:K (.slice (some ⟨g,0,none⟩) k c) w):rgDo Tryz.prog ops o a w K:=by
 refine rg_value hg ?_ hk
 clear hg hk
 have h1:(k:Int)≤(c:Int):=by omega
 have h0:(0:Int)≤(k:Int):=by omega
 have h3:((k:Int)).toNat=k:=by omega
 generalize a.eval=ev at hx hy ⊢
 unfold execOp
 simp only [ho,hx,hy,Option.map]
 go_simp
theorem rg_storeP {ops:Array Oper} {o:Oper} {a:Act} {w:World} {K:Value→World→Prop} {x y:Operand} {b:Nat} {u v:Value} (hg:Region.wanted o (yielded ops a.tmps)=true) (ho:o.op = .store 43 x y) (hx:a.eval x = .pointer (some ⟨b,1,none⟩)) (hy:a.eval y=v) (hv:∃ ad n c,v = .slice ad n c)
  (hc:w.cell? ⟨b,1,none⟩=some u) (hz:w.frozen? ⟨b,1,none⟩=false) (hk:K undef (w.setCell ⟨b,1,none⟩ v)):rgDo Tryz.prog ops o a w K:=by
 obtain ⟨ad,n,c,rfl⟩:=hv
 refine rg_skip hg ?_ hk
 clear hg hk
 generalize a.eval=ev at hx hy ⊢
 unfold execOp
 simp only [ho,hx,hy]
 go_simp
def RuA (wr:World) (x:Was):Nat→World→Prop
 | 0,W=>Below wr.heap.size wr W∧W.heap.size=wr.heap.size
 | 1,W=>Below wr.heap.size wr W∧W.heap[wr.heap.size]? = some (.cells #[.string emptyB,.string emptyB,.bool false] 244 (0,0))
 | _+2,W=>Below wr.heap.size wr W∧W.heap[wr.heap.size]? = some (.cells (wasCells x).toArray 244 (0,0))
theorem RuA.below {wr:World} {x:Was}:∀ {p:Nat} {W:World},RuA wr x p W→Below wr.heap.size wr W
 | 0,_,h=>h.1
 | 1,_,h=>h.1
 | _+2,_,h=>h.1
theorem ROn.start {w:World} {b:Nat} {L:List Nat} {s:St} (h:RRep w b s L):ROn w b L s w:=⟨L,h,Step.refl _ _⟩
def RUndoR (w:World) (b:Nat) (L:List Nat) (s:St) (wr:World):Prop:=∃ (last g c:Nat) (x:Was),s.past.length=last+1∧wr.cell? ⟨b,1,none⟩=some (.slice (some ⟨g,0,none⟩) (last+1) c)∧last < c ∧
 wr.cell? ⟨g,last*3,none⟩=some (.string x.key)∧wr.cell? ⟨g,last*3+1,none⟩=some (.string x.val)∧wr.cell? ⟨g,last*3+2,none⟩=some (.bool x.there)∧wr.frozen? ⟨b,1,none⟩=false∧b < wr.heap.size ∧
 ∀ W,Below wr.heap.size wr W→Calls Tryz.prog 197 #[.pointer (some ⟨b,0,none⟩),.string x.key,.string x.val,.bool x.there] (W.setCell ⟨b,1,none⟩ (.slice (some ⟨g,0,none⟩) last c)) fun e w'=>e = .returned (.tuple #[])∧ROn w b L (undo1 s) w'
theorem rundo_round {w:World} {b:Nat} {L:List Nat} {s:St} {wr:World} (h:ROn w b L s wr) (hz:s.size < 1000000000000) (hne:0 < s.past.length):RUndoR w b L s wr:=by
 obtain ⟨L',⟨lv,pv,hS,rfl⟩,st⟩:=h
 obtain ⟨p,x,hp⟩:∃ p x,s.past=p ++ [x]:=⟨s.past.dropLast,s.past.getLast (by intro e; rw [e] at hne; exact absurd hne (by decide)),(List.dropLast_concat_getLast _).symm⟩
 have hlen:s.past.length=p.length+1:=by rw [hp]; simp
 have hps:=hS.ps
 rw [hlen,hp] at hps
 obtain ⟨_,h0 | ⟨g,cap,cur,rfl,hg,h1,h2,h3,h4⟩⟩:=hps
 ·exact absurd h0.2 (by omega)
 have c3:wr.cell? ⟨b,1,none⟩=some (.slice (some ⟨g,0,none⟩) (p.length+1) cap):=by rw [cell_of_row _ _ _ _ _ _ hS.hd]; rfl
 have hfz:wr.frozen? ⟨b,1,none⟩=false:=frozen_of_row _ _ _ _ _ hS.hd
 have hlt:=hS.lt
 have hbw:=lt_of_at hS.hd
 have hnd:=hS.nd
 simp only [Value.ownBlock,Option.toList,List.nodup_cons,List.mem_append,not_or,List.nodup_append,List.mem_cons,List.not_mem_nil,or_false] at hnd
 have hgb:g≠b:=fun e=>hnd.1.2 e.symm
 have hpl:=was_len p
 have hfl:(p ++ [x]).flatMap wasCells=p.flatMap wasCells ++ wasCells x:=by simp
 rw [hfl] at h4
 have hcell:∀ i v,(wasCells x)[i]? = some v→wr.cell? ⟨g,p.length*3+i,none⟩=some v:=fun i v hi=>by
  have hi3:i < 3:=by have:=(List.getElem?_eq_some_iff.1 hi).1; simpa [wasCells] using this
  rw [cell_of_row _ _ _ _ _ _ hg]
  have h5:=congrArg (fun l=>l[p.length*3+i]?) h4
  simp only [List.getElem?_take,if_pos (show p.length*3+i < (p.length+1)*3 by omega)] at h5
  rw [List.getElem?_append_right (by omega),hpl,Nat.add_sub_cancel_left,hi] at h5
  simpa using h5
 refine ⟨p.length,g,cap,x,hlen,c3,by omega,hcell 0 _ rfl,hcell 1 _ rfl,hcell 2 _ rfl,hfz,hbw,fun W hW => ?_⟩
 have hu:undo1 s=(⟨s.ents,p⟩:St).lay x.key x.val x.there:=by
  unfold undo1
  rw [hp]
  simp
 have hoth:∀ k,k < wr.heap.size→k≠b→(W.setCell ⟨b,1,none⟩ (.slice (some ⟨g,0,none⟩) p.length cap)).heap[k]? = wr.heap[k]?:=fun k hk hn=>by
  rw [Below.heap_setCell _ _ _ _ hn,hW.block k hk]
 have hhd:W.heap[b]? = some (.cells #[lv,.slice (some ⟨g,0,none⟩) (p.length+1) cap] 45 (0,0)):=by rw [hW.block b hbw]; exact hS.hd
 have hS2:RAt (W.setCell ⟨b,1,none⟩ (.slice (some ⟨g,0,none⟩) p.length cap)) b lv (.slice (some ⟨g,0,none⟩) p.length cap) ⟨s.ents,p⟩:=by
  refine ⟨?_,?_,?_,hS.srt,hS.nd⟩
  ·exact setCell_row (off:=1) _ hhd
  ·refine hS.ls.frame fun k hk=>hoth k (hlt k (by simp [rids,hk])) (fun e => ?_)
   exact (List.nodup_cons.1 hS.nd).1 (List.mem_append.2 (.inl (by rw [hk,e]; exact List.mem_singleton.2 rfl)))
  ·refine ⟨hpl,.inr ⟨g,cap,cur,rfl,?_,by show p.length≤cap; omega,h2,h3,?_⟩⟩
   ·rw [hoth g (lt_of_at hg) hgb]; exact hg
   ·have h5:(cur.toList.take ((p.length+1)*3)).take (p.length*3)=(p.flatMap wasCells ++ wasCells x).take (p.length*3):=by rw [h4]
    rw [List.take_take,Nat.min_eq_left (by omega),List.take_left' hpl] at h5
    exact h5
 have hz2:s.ents.length < 1000000000000:=by unfold St.size at hz; omega
 rw [hu]
 have stA:Step wr (rids b lv (.slice (some ⟨g,0,none⟩) (p.length+1) cap)) (W.setCell ⟨b,1,none⟩ (.slice (some ⟨g,0,none⟩) p.length cap)) (rids b lv (.slice (some ⟨g,0,none⟩) p.length cap)) :=
  ⟨(Fr.of_below hW _).setCell _ _ (.inr (by simp [rids])),fun k hk => .inl hk⟩
 exact (rlay_at _ b ⟨s.ents,p⟩ lv _ x.key x.val x.there hS2 hz2).mono fun e w' hR=>⟨hR.1,rlay_step (st.trans stA) hR⟩
theorem ROn.past {w:World} {b:Nat} {L:List Nat} {s:St} {wr:World} (h:ROn w b L s wr):∃ a c,wr.cell? ⟨b,1,none⟩=some (.slice a s.past.length c):=by
 obtain ⟨L',⟨lv,pv,hS,rfl⟩,st⟩:=h
 obtain ⟨a,c,rfl,_⟩:=hS.ps.form
 exact ⟨a,c,by rw [cell_of_row _ _ _ _ _ _ hS.hd]; rfl⟩
def rpastN (b:Nat) (w:World):Nat:=match w.cell? ⟨b,1,none⟩ with
 | some (.slice _ n _)=>n
 | _=>0
theorem ROn.pastN {w:World} {b:Nat} {L:List Nat} {s:St} {wr:World} (h:ROn w b L s wr):rpastN b wr=s.past.length:=by
 obtain ⟨a,c,hc⟩:=h.past
 unfold rpastN
 rw [hc]
theorem rundo_any (w:World) (b:Nat) (s:St) (L:List Nat) (m:Nat) (h:RRep w b s L) (hm:m≤s.past.length) (hz:∀ k,(undoK s k).size < 1000000000000) :
  Calls Tryz.prog 133 #[.pointer (some ⟨b,0,none⟩),.int .i64 m] w fun e w'=>e = .returned (.bool true)∧ROn w b L (s.undo m) w':=by
 have hO0:=ROn.start h
 have hlen:s.past.length < 1000000000000:=by have:=hz 0; unfold undoK St.size at this; omega
 have HR:Hid (∀ k wr,k < s.past.length - m→ROn w b L (undoK s k) wr→∃ (last g c:Nat) (x:Was),s.past.length - k=last+1∧wr.cell? ⟨b,1,none⟩=some (.slice (some ⟨g,0,none⟩) (last+1) c)∧last < c ∧
   wr.cell? ⟨g,last*3,none⟩=some (.string x.key)∧wr.cell? ⟨g,last*3+1,none⟩=some (.string x.val)∧wr.cell? ⟨g,last*3+2,none⟩=some (.bool x.there)∧wr.frozen? ⟨b,1,none⟩=false∧b < wr.heap.size ∧
   ∀ W,Below wr.heap.size wr W→Calls Tryz.prog 197 #[.pointer (some ⟨b,0,none⟩),.string x.key,.string x.val,.bool x.there] (W.setCell ⟨b,1,none⟩ (.slice (some ⟨g,0,none⟩) last c)) fun e w'=>e = .returned (.tuple #[])∧ROn w b L (undoK s (k+1)) w'):=fun k wr hk hO=>by
  have hp:=undoK_past s k
  obtain ⟨last,g,c,x,h1,c3,h2,e0,e1,e2,f3,hbw,hC⟩:=rundo_round hO (hz k) (by omega)
  exact ⟨last,g,c,x,by omega,c3,h2,e0,e1,e2,f3,hbw,hC⟩
 have HP:Hid (∀ k wr,ROn w b L (undoK s k) wr→(∃ a c,wr.cell? ⟨b,1,none⟩=some (.slice a (s.past.length - k) c))∧rpastN b wr=s.past.length - k):=fun k wr hO=>by
  have h1:=hO.past
  have h2:=hO.pastN
  rw [undoK_past] at h1 h2
  exact ⟨h1,h2⟩
 have HE:Hid (s.undo m=undoK s (s.past.length - m)):=rfl
 obtain ⟨⟨a0,c0,hc0⟩,_⟩:=HP.out 0 w hO0
 rw [Nat.sub_zero] at hc0
 have HO0:=Lib.hid hO0
 have hd1:decide ((m:Int) < 0)=false:=decide_eq_false (by omega)
 have hd2:decide (((s.past.length:Nat):Int) < (m:Int))=false:=decide_eq_false (by omega)
 have hd3:decide (s.past.length < m)=false:=decide_eq_false (by omega)
 rw [HE.out]
 clear h hO0 hz HE
 generalize s.past.length=n at *
 go_enter Tryz.func133,Tryz.ntmps133
 go_wp2_with fail
 go_loopw [5] (fun _ wr=>∃ k:Nat,k≤n - m∧ROn w b L (undoK s k) wr) (fun _ wr=>rpastN b wr)
 case atStart=>exact ⟨0,Nat.zero_le _,HO0.out⟩
 case round =>
  obtain ⟨k,hk,hO⟩:=hrel
  have HO:=Lib.hid hO
  have HPN:=Lib.hid (HP.out k wr hO)
  clear hO HO0
  by_cases hlt:k < n - m
  ·obtain ⟨last,g,c,x,h1,c3,hcap,e0,e1,e2,f3,hbw,hL⟩:=HR.out k wr hlt HO.out
   have HL:=Lib.hid hL
   have hne:=Nat.ne_of_lt hbw
   have hne2:=Ne.symm hne
   have hgt:decide ((m:Int) < (((last+1:Nat):Nat):Int))=true:=decide_eq_true (by omega)
   have hlast:((last+1:Nat):Int) - 1=(last:Int):=by omega
   have hwq:IntKind.i64.wrap (((last+1:Nat):Int) - 1)=(last:Int):=by rw [IntKind.wrap_i64]; omega
   have HWQ:=Lib.hid hwq
   have HCAP:=Lib.hid hcap
   have CB:Hid (∀ W,Below wr.heap.size wr W→W.cell? ⟨b,1,none⟩=some (.slice (some ⟨g,0,none⟩) (last+1) c)):=fun W hW=>by rw [hW.cell (p:=⟨b,1,none⟩) hbw]; exact c3
   have CF:Hid (∀ W,Below wr.heap.size wr W→W.frozen? ⟨b,1,none⟩=false):=fun W hW=>by rw [World.frozen?_of_block (hW.block b hbw)]; exact f3
   have CX:Hid (∀ W,Below wr.heap.size wr W→W.cell? ⟨g,last*3,none⟩=some (.string x.key)∧W.cell? ⟨g,last*3+1,none⟩=some (.string x.val)∧W.cell? ⟨g,last*3+2,none⟩=some (.bool x.there)):=fun W hW=>by
    rw [hW.cell (p:=⟨g,last*3,none⟩) (World.block_lt_of_cell? wr _ e0),hW.cell (p:=⟨g,last*3+1,none⟩) (World.block_lt_of_cell? wr _ e1),hW.cell (p:=⟨g,last*3+2,none⟩) (World.block_lt_of_cell? wr _ e2)]
    exact ⟨e0,e1,e2⟩
   have HA0:Hid (RuA wr x 0 wr.drew):=⟨bl_drew (Below.refl _ wr),rfl⟩
   have HBW:=Lib.hid hbw
   clear hL HR hwq hcap e0 e1 e2 f3 hbw hlast
   go_upto_region 4 with fail
   clear c3
   refine wp_region_const2 [[],[0],[0,1],[0,1,2],[],[4],[4,5],[4,5,6],[4,5,6,7],[4,5,6,7,8],[0,1,2,3,4,5,6,7,8,9],[0,1,2,3,4,5,6,7,8,9,10],[],[0,1,2,3,4,5,6,7,8,9,10,11,12]]
    [.pointer (some ⟨b,0,none⟩),.pointer (some ⟨b,0,none⟩),.pointer (some ⟨b,1,none⟩),.slice (some ⟨g,0,none⟩) (last+1) c,.pointer (some ⟨b,0,none⟩),.pointer (some ⟨b,0,none⟩),.pointer (some ⟨b,1,none⟩),.slice (some ⟨g,0,none⟩) (last+1) c,.int .i64 ((last+1:Nat):Int),.int .i64 last,.pointer (some ⟨g,last*3,none⟩),.agg #[.string x.key,.string x.val,.bool x.there],.pointer (some ⟨wr.heap.size,0,none⟩),undef]
    [12,13] (RuA wr x) _ (by kernel_rfl) (by kernel_rfl) (by kernel_rfl)
    (fun vs=>by simp only [rgAct,rgPut,List.setIfInBounds_toArray,List.set_cons_zero,List.set_cons_succ]; exact rfl)
    (by simp only [List.getD_cons_zero,List.getD_cons_succ]; exact rfl) HA0.out ?_ ?_
   ·refine ⟨?_,?_,?_,?_,?_,?_,?_,?_,?_,?_,?_,?_,?_,?_,trivial⟩
    ·intro vs p w1 hA hP hq
     exact rg_move rfl (.inl rfl) rfl ⟨rfl,hP⟩
    ·intro vs p w1 hA hP hq
     obtain ⟨e0,_⟩:=hA
     have e0:vs 0 = .pointer (some ⟨b,0,none⟩):=e0
     exact rg_nil rfl rfl e0 ⟨rfl,hP⟩
    ·intro vs p w1 hA hP hq
     obtain ⟨_,e1,_⟩:=hA
     have e1:vs 1 = .pointer (some ⟨b,0,none⟩):=e1
     exact rg_fa1 rfl rfl e1 ⟨rfl,hP⟩
    ·intro vs p w1 hA hP hq
     obtain ⟨_,_,e2,_⟩:=hA
     have e2:vs 2 = .pointer (some ⟨b,1,none⟩):=e2
     exact rg_loadP rfl rfl e2 (CB.out _ (RuA.below hP)) ⟨rfl,hP⟩
    ·intro vs p w1 hA hP hq
     exact rg_move rfl (.inl rfl) rfl ⟨rfl,hP⟩
    ·intro vs p w1 hA hP hq
     obtain ⟨e4,_⟩:=hA
     have e4:vs 4 = .pointer (some ⟨b,0,none⟩):=e4
     exact rg_nil rfl rfl e4 ⟨rfl,hP⟩
    ·intro vs p w1 hA hP hq
     obtain ⟨_,e5,_⟩:=hA
     have e5:vs 5 = .pointer (some ⟨b,0,none⟩):=e5
     exact rg_fa1 rfl rfl e5 ⟨rfl,hP⟩
    ·intro vs p w1 hA hP hq
     obtain ⟨_,_,e6,_⟩:=hA
     have e6:vs 6 = .pointer (some ⟨b,1,none⟩):=e6
     exact rg_loadP rfl rfl e6 (CB.out _ (RuA.below hP)) ⟨rfl,hP⟩
    ·intro vs p w1 hA hP hq
     obtain ⟨_,_,_,e7,_⟩:=hA
     have e7:vs 7 = .slice (some ⟨g,0,none⟩) (last+1) c:=e7
     exact rg_lenP rfl rfl e7 ⟨rfl,hP⟩
    ·intro vs p w1 hA hP hq
     obtain ⟨_,_,_,_,e8,_⟩:=hA
     have e8:vs 8 = .int .i64 ((last+1:Nat):Int):=e8
     exact rg_sub1 rfl rfl e8 HWQ.out ⟨rfl,hP⟩
    ·intro vs p w1 hA hP hq
     obtain ⟨_,_,_,e3,_,_,_,_,_,e9,_⟩:=hA
     have e3:vs 3 = .slice (some ⟨g,0,none⟩) (last+1) c:=e3
     have e9:vs 9 = .int .i64 last:=e9
     exact rg_idxP rfl rfl e3 e9 (Nat.lt_succ_self _) ⟨rfl,hP⟩
    ·intro vs p w1 hA hP hq
     obtain ⟨_,_,_,_,_,_,_,_,_,_,e10,_⟩:=hA
     have e10:vs 10 = .pointer (some ⟨g,last*3,none⟩):=e10
     exact rg_loadW rfl rfl e10 (CX.out _ (RuA.below hP)).1 (CX.out _ (RuA.below hP)).2.1 (CX.out _ (RuA.below hP)).2.2 ⟨rfl,hP⟩
    ·intro vs p w1 hA hP hq
     have hp:=hq 0 rfl
     subst hp
     exact rg_allocW rfl rfl ⟨by rw [hP.2]; rfl,bl_alloc hP.1 _,by have h:=heap_alloc_new w1 (.cells #[.string emptyB,.string emptyB,.bool false] 244); rw [hP.2] at h; exact h⟩
    ·intro vs p w1 hA hP hq
     obtain ⟨_,_,_,_,_,_,_,_,_,_,_,e11,e12,_⟩:=hA
     have e11:vs 11 = .agg #[.string x.key,.string x.val,.bool x.there]:=e11
     have e12:vs 12 = .pointer (some ⟨wr.heap.size,0,none⟩):=e12
     have hp:=hq 1 rfl
     subst hp
     exact rg_store rfl rfl e12 e11 hP.2 (by kernel_rfl) rfl (by simp [Value.oneCell']) ⟨rfl,bput hP.1 (Nat.le_refl _),setRow_heap _ _ _ _ _ _ hP.2⟩
   ·intro w4 hw4
    have HW4:Hid (Below wr.heap.size wr w4∧w4.heap[wr.heap.size]? = some (.cells (wasCells x).toArray 244 (0,0))):=hw4
    have HB0:=Lib.hid (bl_drew (Below.refl w4.heap.size w4))
    clear hw4 HA0 CX
    go_upto_region 5 with fail
    refine wp_region_rely_tail 12 [[],[],[1],[1,2],[1,2,3],[],[5],[5,6],[5,6,7],[5,6,7,8],[5,6,7,8,9],[1,2,3,4,5,6,7,8,9,10],[0,1,2,3,4,5,6,7,8,9,10,11],[0,1,2,3,4,5,6,7,8,9,10,11,12],[0,1,2,3,4,5,6,7,8,9,10,11,12,13]]
     [rgC (Below w4.heap.size w4),rgV 0 (.pointer (some ⟨b,0,none⟩)),rgV 1 (.pointer (some ⟨b,0,none⟩)),rgV 2 (.pointer (some ⟨b,0,none⟩)),rgV 3 (.pointer (some ⟨b,1,none⟩)),rgV 4 (.slice (some ⟨g,0,none⟩) (last+1) c),rgV 5 (.pointer (some ⟨b,0,none⟩)),rgV 6 (.pointer (some ⟨b,0,none⟩)),rgV 7 (.pointer (some ⟨b,1,none⟩)),rgV 8 (.slice (some ⟨g,0,none⟩) (last+1) c),rgV 9 (.int .i64 ((last+1:Nat):Int)),rgV 10 (.int .i64 (last:Int)),rgV 11 (.slice (some ⟨g,0,none⟩) last c)] _ (by kernel_rfl) (by kernel_rfl) (by decide) (by kernel_rfl) (by kernel_rfl)
     (fun vs=>by simp only [rgAct,rgPut,List.setIfInBounds_toArray,List.set_cons_zero,List.set_cons_succ]; exact rfl)
     ⟨fun _ _ _ hb h=>bl_then h hb,rgV_st,rgV_st,rgV_st,rgV_st,rgV_st,rgV_st,rgV_st,rgV_st,rgV_st,rgV_st,rgV_st,rgV_st,trivial⟩ ?_ ?_ ?_
    ·refine rgAll_yes rfl HB0.out ?_
     iterate 12 refine rgAll_no rfl ?_
     exact trivial
    ·refine ⟨?_,?_,?_,?_,?_,?_,?_,?_,?_,?_,?_,?_,trivial⟩
     ·intro vs w5 hA K hK
      obtain ⟨_,_⟩:=hA
      refine rg_move rfl (.inl rfl) rfl (hK _ _ (.inl (Below.refl _ _)) ?_)
      exact rgNew_one 1 rfl fun _=>rfl
     ·intro vs w5 hA K hK
      obtain ⟨_,_⟩:=hA
      refine rg_move rfl (.inl rfl) rfl (hK _ _ (.inl (Below.refl _ _)) ?_)
      exact rgNew_one 2 rfl fun _=>rfl
     ·intro vs w5 hA K hK
      obtain ⟨_,e1,_⟩:=hA
      refine rg_nil rfl rfl (rg1 e1) (hK _ _ (.inl (Below.refl _ _)) ?_)
      exact rgNew_one 3 rfl fun _=>rfl
     ·intro vs w5 hA K hK
      obtain ⟨_,_,e2,_⟩:=hA
      refine rg_fa1 rfl rfl (rg1 e2) (hK _ _ (.inl (Below.refl _ _)) ?_)
      exact rgNew_one 4 rfl fun _=>rfl
     ·intro vs w5 hA K hK
      obtain ⟨hC,_,_,e3,_⟩:=hA
      refine rg_loadP rfl rfl (rg1 e3) (CB.out _ (bl_then HW4.out.1 hC)) (hK _ _ (.inl (Below.refl _ _)) ?_)
      exact rgNew_one 5 rfl fun _=>rfl
     ·intro vs w5 hA K hK
      obtain ⟨_,_⟩:=hA
      refine rg_move rfl (.inl rfl) rfl (hK _ _ (.inl (Below.refl _ _)) ?_)
      exact rgNew_one 6 rfl fun _=>rfl
     ·intro vs w5 hA K hK
      obtain ⟨_,e5,_⟩:=hA
      refine rg_nil rfl rfl (rg1 e5) (hK _ _ (.inl (Below.refl _ _)) ?_)
      exact rgNew_one 7 rfl fun _=>rfl
     ·intro vs w5 hA K hK
      obtain ⟨_,_,e6,_⟩:=hA
      refine rg_fa1 rfl rfl (rg1 e6) (hK _ _ (.inl (Below.refl _ _)) ?_)
      exact rgNew_one 8 rfl fun _=>rfl
     ·intro vs w5 hA K hK
      obtain ⟨hC,_,_,e7,_⟩:=hA
      refine rg_loadP rfl rfl (rg1 e7) (CB.out _ (bl_then HW4.out.1 hC)) (hK _ _ (.inl (Below.refl _ _)) ?_)
      exact rgNew_one 9 rfl fun _=>rfl
     ·intro vs w5 hA K hK
      obtain ⟨_,_,_,_,e8,_⟩:=hA
      refine rg_lenP rfl rfl (rg1 e8) (hK _ _ (.inl (Below.refl _ _)) ?_)
      exact rgNew_one 10 rfl fun _=>rfl
     ·intro vs w5 hA K hK
      obtain ⟨_,_,_,_,_,e9,_⟩:=hA
      refine rg_sub1 rfl rfl (rg1 e9) HWQ.out (hK _ _ (.inl (Below.refl _ _)) ?_)
      exact rgNew_one 11 rfl fun _=>rfl
     ·intro vs w5 hA K hK
      obtain ⟨_,_,_,_,e4,_,_,_,_,_,e10,_⟩:=hA
      refine rg_sliceP rfl rfl (rg1 e4) (rg1 e10) (Nat.le_of_lt HCAP.out) (hK _ _ (.inl (Below.refl _ _)) ?_)
      exact rgNew_one 12 rfl fun _=>rfl
    ·intro vs w5 hA
     obtain ⟨hC,e0,e1,e2,e3,e4,e5,e6,e7,e8,e9,e10,e11,_⟩:=hA
     have e0:=rg1 e0
     have e1:=rg1 e1
     have e2:=rg1 e2
     have e3:=rg1 e3
     have e4:=rg1 e4
     have e5:=rg1 e5
     have e6:=rg1 e6
     have e7:=rg1 e7
     have e8:=rg1 e8
     have e9:=rg1 e9
     have e10:=rg1 e10
     have e11:=rg1 e11
     refine rgTail_cons ?_
     refine rg_nil rfl rfl e0 ?_
     refine rgTail_cons ?_
     refine rg_fa1 rfl rfl rfl ?_
     refine rgTail_cons ?_
     refine rg_storeP rfl rfl rfl e11 ⟨_,_,_,rfl⟩ (CB.out _ (bl_then HW4.out.1 hC)) (CF.out _ (bl_then HW4.out.1 hC)) ?_
     refine rgTail_nil ?_
     simp only [rgSet,Nat.reduceEqDiff,↓reduceIte,e0,e1,e2,e3,e4,e5,e6,e7,e8,e9,e10,e11]
     have hW5:=hC
     have HW5:Hid (Below wr.heap.size wr w5):=bl_then HW4.out.1 hW5
     have hrow:w5.heap[wr.heap.size]? = some (.cells (wasCells x).toArray 244 (0,0)):=(hW5.block _ (lt_of_at HW4.out.2)).trans HW4.out.2
     have hcs:∀ i v,(wasCells x)[i]? = some v→(w5.setCell ⟨b,1,none⟩ (.slice (some ⟨g,0,none⟩) last c)).cell? ⟨wr.heap.size,i,none⟩=some v:=fun i v hi=>by
      have hne3:wr.heap.size≠b:=(Nat.ne_of_lt HBW.out).symm
      rw [cell_of_row _ _ _ _ _ _ ((Below.heap_setCell _ _ _ _ hne3).trans hrow)]
      simpa using hi
     have y0:=hcs 0 _ rfl
     have y1:=hcs 1 _ rfl
     have y2:=hcs 2 _ rfl
     have HLW:=Lib.hid (HL.out _ HW5.out)
     clear hW5 HW5 hrow hcs CB CF HB0 HW4 HL hC e0 e1 e2 e3 e4 e5 e6 e7 e8 e9 e10 e11
     generalize w5.setCell ⟨b,1,none⟩ (.slice (some ⟨g,0,none⟩) last c)=w6 at *
     go_wp2_with fail
     refine Calls.mono HLW.out ?_
     rintro e w2 ⟨rfl,hO2⟩
     have hO3:ROn w b L (undoK s (k+1)) w2:=hO2
     have HO3:=Lib.hid hO3
     have HP3:=Lib.hid (HP.out (k+1) w2 hO3)
     clear hO2 hO3 HLW
     go_wp2_with fail
     go_roundw
     case rel=>exact ⟨k+1,by omega,HO3.out⟩
     case measure=>rw [HP3.out.2,HPN.out.2]; omega
  ·obtain rfl:k=n - m:=by omega
   obtain ⟨⟨a1,c1,hc1⟩,_⟩:=HPN.out
   have hnm:n - (n - m)=m:=by omega
   rw [hnm] at hc1
   go_wp2_with fail
   go_ret
   exact ⟨rfl,HO.out⟩
end Go.Proofs.YtnkilceibkkjlaaGreat
