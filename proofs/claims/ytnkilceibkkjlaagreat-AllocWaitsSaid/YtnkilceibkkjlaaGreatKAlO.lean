/- What is proved here: the reference's store's Undo. Its co -/
import Derived.Test.YtnkilceibkkjlaaGreatKRExD
import Derived.Shelf.SlIterI.Nil
import Derived.Shelf.SortM.Plain
import Derived.Shelf.SortM.SortNone
import Derived.Ground.GgzProg
import Derived.Ground.SlgmProg
import Derived.Test.YtnkilceibkkjlaaGreatKAlJ
set_option maxRecDepth 100000
set_option maxHeartbeats 16000000
namespace Go.Proofs.YtnkilceibkkjlaaGreat
open Go.RowKit
theorem zh6{ops:Array Oper}{o:Oper}{a:Act}{w:World}{K:Value->World->Prop}{x:Operand}{ad:Addr}(hg:Region.wanted o (yielded ops a.tmps)=true)(ho:o.op= .nilCheck x)(hx:a.eval x= .pointer (some ad))(hk:K (.pointer (some ad)) w):rgDo Tryz.prog ops o a w K:=by
 refine z0n hg ?_ hk;clear hg hk;generalize a.eval=ev at hx ⊢;unfold execOp;simp only[ho,hx]
 go_simp
theorem zhe{ops:Array Oper}{o:Oper}{a:Act}{w:World}{K:Value->World->Prop}{x:Operand}{b:Nat}(hg:Region.wanted o (yielded ops a.tmps)=true)(ho:o.op= .fieldAddr 45 x 1)(hx:a.eval x= .pointer (some ⟨b,0,none⟩))(hk:K (.pointer (some ⟨b,1,none⟩)) w):rgDo Tryz.prog ops o a w K:=by
 refine z0n hg ?_ hk;clear hg hk;generalize a.eval=ev at hx ⊢;unfold execOp;simp only[ho,hx]
 go_simp
theorem zbj{ops:Array Oper}{o:Oper}{a:Act}{w:World}{K:Value->World->Prop}{x:Operand}{b:Nat}{ad:Option Addr}{n c:Nat}(hg:Region.wanted o (yielded ops a.tmps)=true)(ho:o.op= .load 43 x)(hx:a.eval x= .pointer (some ⟨b,1,none⟩))(hc:w.cell? ⟨b,1,none⟩=some (.slice ad n c))(hk:K (.slice ad n c) w):rgDo Tryz.prog ops o a w K:=by
 refine z0n hg ?_ hk;clear hg hk;generalize a.eval=ev at hx ⊢;unfold execOp;simp only[ho,hx]
 go_simp
theorem zp5{ops:Array Oper}{o:Oper}{a:Act}{w:World}{K:Value->World->Prop}{x:Operand}{ad:Option Addr}{n c:Nat}(hg:Region.wanted o (yielded ops a.tmps)=true)(ho:o.op= .call ⟨.builtin .len,#[x],#[43]⟩)(hx:a.eval x= .slice ad n c)(hk:K (.int .i64 n) w):rgDo Tryz.prog ops o a w K:=by
 refine z0n hg ?_ hk;clear hg hk;generalize a.eval=ev at hx ⊢;unfold execOp;simp only[ho]
 go_simp
theorem zpo{ops:Array Oper}{o:Oper}{a:Act}{w:World}{K:Value->World->Prop}{x:Operand}{n m:Int}(hg:Region.wanted o (yielded ops a.tmps)=true)(ho:o.op= .binOp .sub 3 x (.const (.int .i64 1)) 3)(hx:a.eval x= .int .i64 n)(hw:IntKind.i64.wrap (n-1)=m)(hk:K (.int .i64 m) w):rgDo Tryz.prog ops o a w K:=by
 subst hw;refine z0n hg ?_ hk;clear hg hk;have hc:a.eval (.const (.int .i64 1))= .int .i64 1:=rfl;generalize a.eval=ev at hx hc ⊢;unfold execOp;simp only[ho,hx,hc]
 go_simp
theorem zwe{ops:Array Oper}{o:Oper}{a:Act}{w:World}{K:Value->World->Prop}{x y:Operand}{g n c k:Nat}(hg:Region.wanted o (yielded ops a.tmps)=true)(ho:o.op= .indexAddr 43 x y)(hx:a.eval x= .slice (some ⟨g,0,none⟩) n c)(hy:a.eval y= .int .i64 k)(hkn:k<n)
  (hk:K (.pointer (some ⟨g,k*3,none⟩)) w):rgDo Tryz.prog ops o a w K:=by
 refine z0n hg ?_ hk;clear hg hk;have h1:(k:Int)<(n:Int):=by omega
 have h2:¬ (k:Int)<0:=by omega
 have h3:((k:Int)).toNat=k:=by omega
 generalize a.eval=ev at hx hy ⊢;unfold execOp;simp only[ho,hx,hy]
 go_simp
theorem zsr{ops:Array Oper}{o:Oper}{a:Act}{w:World}{K:Value->World->Prop}{x:Operand}{g i:Nat}{k v:ByteArray}{t:Bool}(hg:Region.wanted o (yielded ops a.tmps)=true)(ho:o.op= .load 244 x)(hx:a.eval x= .pointer (some ⟨g,i*3,none⟩))
  (h0:w.cell? ⟨g,i*3,none⟩=some (.string k)) (h1:w.cell? ⟨g,i*3+1,none⟩=some (.string v)) (h2:w.cell? ⟨g,i*3+2,none⟩=some (.bool t)) (hk:K (.agg #[.string k,.string v,.bool t]) w):rgDo Tryz.prog ops o a w K:=by
 refine z0n hg ?_ hk;clear hg hk;generalize a.eval=ev at hx ⊢;unfold execOp;simp only[ho,hx]
 go_simp
theorem zow{ops:Array Oper}{o:Oper}{a:Act}{w:World}{K:Value->World->Prop}(hgd:Region.wanted o (yielded ops a.tmps)=true)(ho:o.op= .alloc 244)(hk:K (.pointer (some ⟨w.heap.size,0,none⟩)) (w.alloc (.cells #[.string z05,.string z05,.bool false] 244))):rgDo Tryz.prog ops o a w K:=by
 refine z7s hgd ?_ hk;unfold execOp;simp only[ho]
 go_simp
 rfl
theorem znf{ops:Array Oper}{o:Oper}{a:Act}{w:World}{K:Value->World->Prop}{x y:Operand}{g n c k:Nat}(hg:Region.wanted o (yielded ops a.tmps)=true)(ho:o.op= .slice 43 x none (some y) none)(hx:a.eval x= .slice (some ⟨g,0,none⟩) n c)(hy:a.eval y= .int .i64 k)(hkn:k<=c)
  (hk:K (.slice (some ⟨g,0,none⟩) k c) w):rgDo Tryz.prog ops o a w K:=by
 refine z0n hg ?_ hk;clear hg hk;have h1:(k:Int)<=(c:Int):=by omega
 have h0:(0:Int)<=(k:Int):=by omega
 have h3:((k:Int)).toNat=k:=by omega
 generalize a.eval=ev at hx hy ⊢;unfold execOp;simp only[ho,hx,hy,Option.map]
 go_simp
theorem zpf{ops:Array Oper}{o:Oper}{a:Act}{w:World}{K:Value->World->Prop}{x y:Operand}{b:Nat}{u v:Value}(hg:Region.wanted o (yielded ops a.tmps)=true)(ho:o.op= .store 43 x y)(hx:a.eval x= .pointer (some ⟨b,1,none⟩))(hy:a.eval y=v)(hv:∃ ad n c,v= .slice ad n c)
  (hc:w.cell? ⟨b,1,none⟩=some u) (hz:w.frozen? ⟨b,1,none⟩=false) (hk:K undef (w.setCell ⟨b,1,none⟩ v)):rgDo Tryz.prog ops o a w K:=by
 obtain⟨ad,n,c,rfl⟩:=hv;refine zpt hg ?_ hk;clear hg hk;generalize a.eval=ev at hx hy ⊢;unfold execOp;simp only[ho,hx,hy]
 go_simp
def RuA(wr:World)(x:Was):Nat->World->Prop
 | 0,W=>Below wr.heap.size wr W/\W.heap.size=wr.heap.size
 | 1,W=>Below wr.heap.size wr W/\W.heap[wr.heap.size]?=some (.cells #[.string z05,.string z05,.bool false] 244 (0,0))
 | _+2,W=>Below wr.heap.size wr W/\W.heap[wr.heap.size]?=some (.cells (z0i x).toArray 244 (0,0))
theorem RuA.below{wr:World}{x:Was}:∀ {p:Nat} {W:World},RuA wr x p W->Below wr.heap.size wr W
 | 0,_,h=>h.1
 | 1,_,h=>h.1
 | _+2,_,h=>h.1
theorem ROn.start{w:World}{b:Nat}{L:List Nat}{s:St}(h:RRep w b s L):ROn w b L s w:=⟨L,h,Step.refl _ _⟩
def zxf(w:World)(b:Nat)(L:List Nat)(s:St)(wr:World):Prop:=∃ (last g c:Nat) (x:Was),s.past.length=last+1/\wr.cell? ⟨b,1,none⟩=some (.slice (some ⟨g,0,none⟩) (last+1) c)/\last<c /\
 wr.cell? ⟨g,last*3,none⟩=some (.string x.key)/\wr.cell? ⟨g,last*3+1,none⟩=some (.string x.val)/\wr.cell? ⟨g,last*3+2,none⟩=some (.bool x.there)/\wr.frozen? ⟨b,1,none⟩=false/\b<wr.heap.size /\
 ∀ W,Below wr.heap.size wr W->Calls Tryz.prog 197 #[.pointer (some ⟨b,0,none⟩),.string x.key,.string x.val,.bool x.there] (W.setCell ⟨b,1,none⟩ (.slice (some ⟨g,0,none⟩) last c)) fun e w'=>e= .returned (.tuple #[])/\ROn w b L (z8t s) w'
theorem zin{w:World}{b:Nat}{L:List Nat}{s:St}{wr:World}(h:ROn w b L s wr)(hz:s.size<1000000000000)(hne:0<s.past.length):zxf w b L s wr:=by
 obtain⟨L',⟨lv,pv,hS,rfl⟩,st⟩:=h;obtain⟨p,x,hp⟩:∃ p x,s.past=p ++ [x]:=⟨s.past.dropLast,s.past.getLast (by intro e;rw[e]at hne;exact absurd hne (by decide)),(List.dropLast_concat_getLast _).symm⟩;have hlen:s.past.length=p.length+1:=by rw[hp];simp
 have hps:=hS.ps;rw[hlen,hp]at hps;obtain⟨_,h0 | ⟨g,cap,cur,rfl,hg,h1,h2,h3,h4⟩⟩:=hps
 ·exact absurd h0.2 (by omega)
 have c3:wr.cell? ⟨b,1,none⟩=some (.slice (some ⟨g,0,none⟩) (p.length+1) cap):=by rw[cell_of_row _ _ _ _ _ _ hS.hd];rfl
 have hfz:wr.frozen? ⟨b,1,none⟩=false:=frozen_of_row _ _ _ _ _ hS.hd;have hlt:=hS.lt;have hbw:=z02 hS.hd;have hnd:=hS.nd;simp only[Value.ownBlock,Option.toList,List.nodup_cons,List.mem_append,not_or,List.nodup_append,List.mem_cons,List.not_mem_nil,or_false]at hnd;have hgb:g≠b:=fun e=>hnd.1.2 e.symm
 have hpl:=zqu p;have hfl:(p ++ [x]).flatMap z0i=p.flatMap z0i++z0i x:=by simp
 rw[hfl]at h4;have hcell:∀ i v,(z0i x)[i]?=some v->wr.cell? ⟨g,p.length*3+i,none⟩=some v:=fun i v hi=>by
  have hi3:i<3:=by have:=(List.getElem?_eq_some_iff.1 hi).1;simpa [z0i]using this
  rw[cell_of_row _ _ _ _ _ _ hg];have h5:=congrArg (fun l=>l[p.length*3+i]?) h4;simp only[List.getElem?_take,if_pos (show p.length*3+i<(p.length+1)*3 by omega)]at h5;rw[List.getElem?_append_right (by omega),hpl,Nat.add_sub_cancel_left,hi]at h5
  simpa using h5
 refine⟨p.length,g,cap,x,hlen,c3,by omega,hcell 0 _ rfl,hcell 1 _ rfl,hcell 2 _ rfl,hfz,hbw,fun W hW => ?_⟩;have hu:z8t s=(⟨s.ents,p⟩:St).lay x.key x.val x.there:=by
  unfold z8t;rw[hp];simp
 have hoth:∀ k,k<wr.heap.size->k≠b->(W.setCell ⟨b,1,none⟩ (.slice (some ⟨g,0,none⟩) p.length cap)).heap[k]?=wr.heap[k]?:=fun k hk hn=>by
  rw[Below.heap_setCell _ _ _ _ hn,hW.block k hk]
 have hhd:W.heap[b]?=some (.cells #[lv,.slice (some ⟨g,0,none⟩) (p.length+1) cap] 45 (0,0)):=by rw[hW.block b hbw];exact hS.hd
 have hS2:RAt (W.setCell ⟨b,1,none⟩ (.slice (some ⟨g,0,none⟩) p.length cap)) b lv (.slice (some ⟨g,0,none⟩) p.length cap) ⟨s.ents,p⟩:=by
  refine⟨?_,?_,?_,hS.srt,hS.nd⟩
  ·exact z0d (off:=1) _ hhd
  ·refine hS.ls.frame fun k hk=>hoth k (hlt k (by simp[rids,hk])) (fun e => ?_)
   exact(List.nodup_cons.1 hS.nd).1 (List.mem_append.2 (.inl (by rw[hk,e];exact List.mem_singleton.2 rfl)))
  ·refine⟨hpl,.inr ⟨g,cap,cur,rfl,?_,by show p.length<=cap;omega,h2,h3,?_⟩⟩
   ·rw[hoth g (z02 hg) hgb];exact hg
   ·have h5:(cur.toList.take ((p.length+1)*3)).take (p.length*3)=(p.flatMap z0i++z0i x).take (p.length*3):=by rw[h4]
    rw[List.take_take,Nat.min_eq_left (by omega),List.take_left' hpl]at h5;exact h5
 have hz2:s.ents.length<1000000000000:=by unfold St.size at hz;omega
 rw[hu];have stA:Step wr (rids b lv (.slice (some ⟨g,0,none⟩) (p.length+1) cap)) (W.setCell ⟨b,1,none⟩ (.slice (some ⟨g,0,none⟩) p.length cap)) (rids b lv (.slice (some ⟨g,0,none⟩) p.length cap)):=
  ⟨(Fr.of_below hW _).setCell _ _ (.inr (by simp[rids])),fun k hk => .inl hk⟩
 exact(zjj _ b ⟨s.ents,p⟩ lv _ x.key x.val x.there hS2 hz2).mono fun e w' hR=>⟨hR.1,zcs (st.trans stA) hR⟩
theorem ROn.past{w:World}{b:Nat}{L:List Nat}{s:St}{wr:World}(h:ROn w b L s wr):∃ a c,wr.cell? ⟨b,1,none⟩=some (.slice a s.past.length c):=by
 obtain⟨L',⟨lv,pv,hS,rfl⟩,st⟩:=h;obtain⟨a,c,rfl,_⟩:=hS.ps.form;exact⟨a,c,by rw[cell_of_row _ _ _ _ _ _ hS.hd];rfl⟩
def zla(b:Nat)(w:World):Nat:=match w.cell? ⟨b,1,none⟩with
 | some (.slice _ n _)=>n
 | _=>0
theorem ROn.zhr{w:World}{b:Nat}{L:List Nat}{s:St}{wr:World}(h:ROn w b L s wr):zla b wr=s.past.length:=by
 obtain⟨a,c,hc⟩:=h.past;unfold zla;rw[hc]
theorem zqd(w:World)(b:Nat)(s:St)(L:List Nat)(m:Nat)(h:RRep w b s L)(hm:m<=s.past.length)(hz:∀ k,(z4e s k).size<1000000000000) :
  Calls Tryz.prog 133 #[.pointer (some ⟨b,0,none⟩),.int .i64 m] w fun e w'=>e= .returned (.bool true)/\ROn w b L (s.undo m) w':=by
 have hO0:=ROn.start h;have hlen:s.past.length<1000000000000:=by have:=hz 0;unfold z4e St.size at this;omega
 have HR:Hid (∀ k wr,k<s.past.length-m->ROn w b L (z4e s k) wr->∃ (last g c:Nat) (x:Was),s.past.length-k=last+1/\wr.cell? ⟨b,1,none⟩=some (.slice (some ⟨g,0,none⟩) (last+1) c)/\last<c /\
   wr.cell? ⟨g,last*3,none⟩=some (.string x.key)/\wr.cell? ⟨g,last*3+1,none⟩=some (.string x.val)/\wr.cell? ⟨g,last*3+2,none⟩=some (.bool x.there)/\wr.frozen? ⟨b,1,none⟩=false/\b<wr.heap.size /\
   ∀ W,Below wr.heap.size wr W->Calls Tryz.prog 197 #[.pointer (some ⟨b,0,none⟩),.string x.key,.string x.val,.bool x.there] (W.setCell ⟨b,1,none⟩ (.slice (some ⟨g,0,none⟩) last c)) fun e w'=>e= .returned (.tuple #[])/\ROn w b L (z4e s (k+1)) w'):=fun k wr hk hO=>by
  have hp:=z6a s k;obtain⟨last,g,c,x,h1,c3,h2,e0,e1,e2,f3,hbw,hC⟩:=zin hO (hz k) (by omega);exact⟨last,g,c,x,by omega,c3,h2,e0,e1,e2,f3,hbw,hC⟩
 have HP:Hid (∀ k wr,ROn w b L (z4e s k) wr->(∃ a c,wr.cell? ⟨b,1,none⟩=some (.slice a (s.past.length-k) c))/\zla b wr=s.past.length-k):=fun k wr hO=>by
  have h1:=hO.past;have h2:=hO.zhr;rw[z6a]at h1 h2;exact⟨h1,h2⟩
 have HE:Hid (s.undo m=z4e s (s.past.length-m)):=rfl;obtain⟨⟨a0,c0,hc0⟩,_⟩:=HP.out 0 w hO0;rw[Nat.sub_zero]at hc0;have HO0:=zh hO0;have hd1:decide ((m:Int)<0)=false:=decide_eq_false (by omega);have hd2:decide (((s.past.length:Nat):Int)<(m:Int))=false:=decide_eq_false (by omega);have hd3:decide (s.past.length<m)=false:=decide_eq_false (by omega);rw[HE.out];clear h hO0 hz HE;generalize s.past.length=n at *
 go_enter Tryz.func133,Tryz.ntmps133;go_wp2_with fail
 go_loopw [5] (fun _ wr=>∃ k:Nat,k<=n-m/\ROn w b L (z4e s k) wr) (fun _ wr=>zla b wr)
 case atStart=>exact⟨0,Nat.zero_le _,HO0.out⟩
 case round =>
  obtain⟨k,hk,hO⟩:=hrel;have HO:=zh hO;have HPN:=zh (HP.out k wr hO);clear hO HO0
  by_cases hlt:k<n-m
  ·obtain⟨last,g,c,x,h1,c3,hcap,e0,e1,e2,f3,hbw,hL⟩:=HR.out k wr hlt HO.out;have HL:=zh hL;have hne:=Nat.ne_of_lt hbw;have hne2:=Ne.symm hne;have hgt:decide ((m:Int)<(((last+1:Nat):Nat):Int))=true:=decide_eq_true (by omega);have hlast:((last+1:Nat):Int)-1=(last:Int):=by omega
   have hwq:IntKind.i64.wrap (((last+1:Nat):Int)-1)=(last:Int):=by rw[IntKind.wrap_i64];omega
   have HWQ:=zh hwq;have HCAP:=zh hcap;have CB:Hid (∀ W,Below wr.heap.size wr W->W.cell? ⟨b,1,none⟩=some (.slice (some ⟨g,0,none⟩) (last+1) c)):=fun W hW=>by rw[hW.cell (p:=⟨b,1,none⟩) hbw];exact c3
   have CF:Hid (∀ W,Below wr.heap.size wr W->W.frozen? ⟨b,1,none⟩=false):=fun W hW=>by rw[World.frozen?_of_block (hW.block b hbw)];exact f3
   have CX:Hid (∀ W,Below wr.heap.size wr W->W.cell? ⟨g,last*3,none⟩=some (.string x.key)/\W.cell? ⟨g,last*3+1,none⟩=some (.string x.val)/\W.cell? ⟨g,last*3+2,none⟩=some (.bool x.there)):=fun W hW=>by
    rw[hW.cell (p:=⟨g,last*3,none⟩) (World.block_lt_of_cell? wr _ e0),hW.cell (p:=⟨g,last*3+1,none⟩) (World.block_lt_of_cell? wr _ e1),hW.cell (p:=⟨g,last*3+2,none⟩) (World.block_lt_of_cell? wr _ e2)];exact⟨e0,e1,e2⟩
   have HA0:Hid (RuA wr x 0 wr.drew):=⟨z0h (Below.refl _ wr),rfl⟩;have HBW:=zh hbw;clear hL HR hwq hcap e0 e1 e2 f3 hbw hlast;go_upto_region 4 with fail;clear c3;refine z06 [[],[0],[0,1],[0,1,2],[],[4],[4,5],[4,5,6],[4,5,6,7],[4,5,6,7,8],[0,1,2,3,4,5,6,7,8,9],[0,1,2,3,4,5,6,7,8,9,10],[],[0,1,2,3,4,5,6,7,8,9,10,11,12]]
    [.pointer (some ⟨b,0,none⟩),.pointer (some ⟨b,0,none⟩),.pointer (some ⟨b,1,none⟩),.slice (some ⟨g,0,none⟩) (last+1) c,.pointer (some ⟨b,0,none⟩),.pointer (some ⟨b,0,none⟩),.pointer (some ⟨b,1,none⟩),.slice (some ⟨g,0,none⟩) (last+1) c,.int .i64 ((last+1:Nat):Int),.int .i64 last,.pointer (some ⟨g,last*3,none⟩),.agg #[.string x.key,.string x.val,.bool x.there],.pointer (some ⟨wr.heap.size,0,none⟩),undef]
    [12,13] (RuA wr x) _ (by kernel_rfl) (by kernel_rfl) (by kernel_rfl)
    (fun vs=>by simp only[z14,z1a,List.setIfInBounds_toArray,List.set_cons_zero,List.set_cons_succ];exact rfl)
    (by simp only[List.getD_cons_zero,List.getD_cons_succ];exact rfl) HA0.out ?_ ?_
   ·refine⟨?_,?_,?_,?_,?_,?_,?_,?_,?_,?_,?_,?_,?_,?_,trivial⟩
    ·intro vs p w1 hA hP hq;exact z0a rfl (.inl rfl) rfl ⟨rfl,hP⟩
    ·intro vs p w1 hA hP hq;obtain⟨e0,_⟩:=hA;have e0:vs 0= .pointer (some ⟨b,0,none⟩):=e0;exact zh6 rfl rfl e0 ⟨rfl,hP⟩
    ·intro vs p w1 hA hP hq;obtain⟨_,e1,_⟩:=hA;have e1:vs 1= .pointer (some ⟨b,0,none⟩):=e1;exact zhe rfl rfl e1 ⟨rfl,hP⟩
    ·intro vs p w1 hA hP hq;obtain⟨_,_,e2,_⟩:=hA;have e2:vs 2= .pointer (some ⟨b,1,none⟩):=e2;exact zbj rfl rfl e2 (CB.out _ (RuA.below hP)) ⟨rfl,hP⟩
    ·intro vs p w1 hA hP hq;exact z0a rfl (.inl rfl) rfl ⟨rfl,hP⟩
    ·intro vs p w1 hA hP hq;obtain⟨e4,_⟩:=hA;have e4:vs 4= .pointer (some ⟨b,0,none⟩):=e4;exact zh6 rfl rfl e4 ⟨rfl,hP⟩
    ·intro vs p w1 hA hP hq;obtain⟨_,e5,_⟩:=hA;have e5:vs 5= .pointer (some ⟨b,0,none⟩):=e5;exact zhe rfl rfl e5 ⟨rfl,hP⟩
    ·intro vs p w1 hA hP hq;obtain⟨_,_,e6,_⟩:=hA;have e6:vs 6= .pointer (some ⟨b,1,none⟩):=e6;exact zbj rfl rfl e6 (CB.out _ (RuA.below hP)) ⟨rfl,hP⟩
    ·intro vs p w1 hA hP hq;obtain⟨_,_,_,e7,_⟩:=hA;have e7:vs 7= .slice (some ⟨g,0,none⟩) (last+1) c:=e7;exact zp5 rfl rfl e7 ⟨rfl,hP⟩
    ·intro vs p w1 hA hP hq;obtain⟨_,_,_,_,e8,_⟩:=hA;have e8:vs 8= .int .i64 ((last+1:Nat):Int):=e8;exact zpo rfl rfl e8 HWQ.out ⟨rfl,hP⟩
    ·intro vs p w1 hA hP hq;obtain⟨_,_,_,e3,_,_,_,_,_,e9,_⟩:=hA;have e3:vs 3= .slice (some ⟨g,0,none⟩) (last+1) c:=e3;have e9:vs 9= .int .i64 last:=e9;exact zwe rfl rfl e3 e9 (Nat.lt_succ_self _) ⟨rfl,hP⟩
    ·intro vs p w1 hA hP hq;obtain⟨_,_,_,_,_,_,_,_,_,_,e10,_⟩:=hA;have e10:vs 10= .pointer (some ⟨g,last*3,none⟩):=e10;exact zsr rfl rfl e10 (CX.out _ (RuA.below hP)).1 (CX.out _ (RuA.below hP)).2.1 (CX.out _ (RuA.below hP)).2.2 ⟨rfl,hP⟩
    ·intro vs p w1 hA hP hq;have hp:=hq 0 rfl;subst hp;exact zow rfl rfl ⟨by rw[hP.2];rfl,z00 hP.1 _,by have h:=heap_alloc_new w1 (.cells #[.string z05,.string z05,.bool false] 244);rw[hP.2]at h;exact h⟩
    ·intro vs p w1 hA hP hq;obtain⟨_,_,_,_,_,_,_,_,_,_,_,e11,e12,_⟩:=hA;have e11:vs 11= .agg #[.string x.key,.string x.val,.bool x.there]:=e11;have e12:vs 12= .pointer (some ⟨wr.heap.size,0,none⟩):=e12;have hp:=hq 1 rfl;subst hp;exact zkk rfl rfl e12 e11 hP.2 (by kernel_rfl) rfl (by simp[Value.oneCell']) ⟨rfl,bput hP.1 (Nat.le_refl _),setRow_heap _ _ _ _ _ _ hP.2⟩
   ·intro w4 hw4;have HW4:Hid (Below wr.heap.size wr w4/\w4.heap[wr.heap.size]?=some (.cells (z0i x).toArray 244 (0,0))):=hw4;have HB0:=zh (z0h (Below.refl w4.heap.size w4));clear hw4 HA0 CX;go_upto_region 5 with fail;refine z94 12 [[],[],[1],[1,2],[1,2,3],[],[5],[5,6],[5,6,7],[5,6,7,8],[5,6,7,8,9],[1,2,3,4,5,6,7,8,9,10],[0,1,2,3,4,5,6,7,8,9,10,11],[0,1,2,3,4,5,6,7,8,9,10,11,12],[0,1,2,3,4,5,6,7,8,9,10,11,12,13]]
     [rgC (Below w4.heap.size w4),rgV 0 (.pointer (some ⟨b,0,none⟩)),rgV 1 (.pointer (some ⟨b,0,none⟩)),rgV 2 (.pointer (some ⟨b,0,none⟩)),rgV 3 (.pointer (some ⟨b,1,none⟩)),rgV 4 (.slice (some ⟨g,0,none⟩) (last+1) c),rgV 5 (.pointer (some ⟨b,0,none⟩)),rgV 6 (.pointer (some ⟨b,0,none⟩)),rgV 7 (.pointer (some ⟨b,1,none⟩)),rgV 8 (.slice (some ⟨g,0,none⟩) (last+1) c),rgV 9 (.int .i64 ((last+1:Nat):Int)),rgV 10 (.int .i64 (last:Int)),rgV 11 (.slice (some ⟨g,0,none⟩) last c)] _ (by kernel_rfl) (by kernel_rfl) (by decide) (by kernel_rfl) (by kernel_rfl)
     (fun vs=>by simp only[z14,z1a,List.setIfInBounds_toArray,List.set_cons_zero,List.set_cons_succ];exact rfl)
     ⟨fun _ _ _ hb h=>z0b h hb,z0e,z0e,z0e,z0e,z0e,z0e,z0e,z0e,z0e,z0e,z0e,z0e,trivial⟩ ?_ ?_ ?_
    ·refine z3k rfl HB0.out ?_;iterate 12 refine z4l rfl ?_
     exact trivial
    ·refine⟨?_,?_,?_,?_,?_,?_,?_,?_,?_,?_,?_,?_,trivial⟩
     ·intro vs w5 hA K hK;obtain⟨_,_⟩:=hA;refine z0a rfl (.inl rfl) rfl (hK _ _ (.inl zb) ?_);exact z07 1
     ·intro vs w5 hA K hK;obtain⟨_,_⟩:=hA;refine z0a rfl (.inl rfl) rfl (hK _ _ (.inl zb) ?_);exact z07 2
     ·intro vs w5 hA K hK;obtain⟨_,e1,_⟩:=hA;refine zh6 rfl rfl (rg1 e1) (hK _ _ (.inl zb) ?_);exact z07 3
     ·intro vs w5 hA K hK;obtain⟨_,_,e2,_⟩:=hA;refine zhe rfl rfl (rg1 e2) (hK _ _ (.inl zb) ?_);exact z07 4
     ·intro vs w5 hA K hK;obtain⟨hC,_,_,e3,_⟩:=hA;refine zbj rfl rfl (rg1 e3) (CB.out _ (z0b HW4.out.1 hC)) (hK _ _ (.inl zb) ?_);exact z07 5
     ·intro vs w5 hA K hK;obtain⟨_,_⟩:=hA;refine z0a rfl (.inl rfl) rfl (hK _ _ (.inl zb) ?_);exact z07 6
     ·intro vs w5 hA K hK;obtain⟨_,e5,_⟩:=hA;refine zh6 rfl rfl (rg1 e5) (hK _ _ (.inl zb) ?_);exact z07 7
     ·intro vs w5 hA K hK;obtain⟨_,_,e6,_⟩:=hA;refine zhe rfl rfl (rg1 e6) (hK _ _ (.inl zb) ?_);exact z07 8
     ·intro vs w5 hA K hK;obtain⟨hC,_,_,e7,_⟩:=hA;refine zbj rfl rfl (rg1 e7) (CB.out _ (z0b HW4.out.1 hC)) (hK _ _ (.inl zb) ?_);exact z07 9
     ·intro vs w5 hA K hK;obtain⟨_,_,_,_,e8,_⟩:=hA;refine zp5 rfl rfl (rg1 e8) (hK _ _ (.inl zb) ?_);exact z07 10
     ·intro vs w5 hA K hK;obtain⟨_,_,_,_,_,e9,_⟩:=hA;refine zpo rfl rfl (rg1 e9) HWQ.out (hK _ _ (.inl zb) ?_);exact z07 11
     ·intro vs w5 hA K hK;obtain⟨_,_,_,_,e4,_,_,_,_,_,e10,_⟩:=hA;refine znf rfl rfl (rg1 e4) (rg1 e10) (Nat.le_of_lt HCAP.out) (hK _ _ (.inl zb) ?_);exact z07 12
    ·intro vs w5 hA;obtain⟨hC,e0,e1,e2,e3,e4,e5,e6,e7,e8,e9,e10,e11,_⟩:=hA;have e0:=rg1 e0;have e1:=rg1 e1;have e2:=rg1 e2;have e3:=rg1 e3;have e4:=rg1 e4;have e5:=rg1 e5;have e6:=rg1 e6;have e7:=rg1 e7;have e8:=rg1 e8;have e9:=rg1 e9;have e10:=rg1 e10;have e11:=rg1 e11;refine z8u ?_;refine zh6 rfl rfl e0 ?_;refine z8u ?_;refine zhe rfl rfl rfl ?_;refine z8u ?_;refine zpf rfl rfl rfl e11 ⟨_,_,_,rfl⟩ (CB.out _ (z0b HW4.out.1 hC)) (CF.out _ (z0b HW4.out.1 hC)) ?_;refine zmo ?_;simp only[z5j,Nat.reduceEqDiff,↓reduceIte,e0,e1,e2,e3,e4,e5,e6,e7,e8,e9,e10,e11];have hW5:=hC;have HW5:Hid (Below wr.heap.size wr w5):=z0b HW4.out.1 hW5;have hrow:w5.heap[wr.heap.size]?=some (.cells (z0i x).toArray 244 (0,0)):=(hW5.block _ (z02 HW4.out.2)).trans HW4.out.2;have hcs:∀ i v,(z0i x)[i]?=some v->(w5.setCell ⟨b,1,none⟩ (.slice (some ⟨g,0,none⟩) last c)).cell? ⟨wr.heap.size,i,none⟩=some v:=fun i v hi=>by
      have hne3:wr.heap.size≠b:=(Nat.ne_of_lt HBW.out).symm;rw[cell_of_row _ _ _ _ _ _ ((Below.heap_setCell _ _ _ _ hne3).trans hrow)]
      simpa using hi
     have y0:=hcs 0 _ rfl;have y1:=hcs 1 _ rfl;have y2:=hcs 2 _ rfl;have HLW:=zh (HL.out _ HW5.out);clear hW5 HW5 hrow hcs CB CF HB0 HW4 HL hC e0 e1 e2 e3 e4 e5 e6 e7 e8 e9 e10 e11;generalize w5.setCell ⟨b,1,none⟩ (.slice (some ⟨g,0,none⟩) last c)=w6 at *
     go_wp2_with fail;refine zm HLW.out ?_;rintro e w2 ⟨rfl,hO2⟩;have hO3:ROn w b L (z4e s (k+1)) w2:=hO2;have HO3:=zh hO3;have HP3:=zh (HP.out (k+1) w2 hO3);clear hO2 hO3 HLW;go_wp2_with fail;go_roundw
     case rel=>exact⟨k+1,by omega,HO3.out⟩
     case measure=>rw[HP3.out.2,HPN.out.2];omega
  ·obtain rfl:k=n-m:=by omega
   obtain⟨⟨a1,c1,hc1⟩,_⟩:=HPN.out;have hnm:n-(n-m)=m:=by omega
   rw[hnm]at hc1;go_wp2_with fail;go_ret;exact⟨rfl,HO.out⟩
end Go.Proofs.YtnkilceibkkjlaaGreat
namespace Go.Proofs.YtnkilceibkkjlaaGreat
open Go.RowKit Go.Maps Go.Sort Go.Shelf
open Go.Maps
end Go.Proofs.YtnkilceibkkjlaaGreat
namespace Go.Proofs.YtnkilceibkkjlaaGreat
open Go.RowKit Go.Maps
end Go.Proofs.YtnkilceibkkjlaaGreat
namespace Go.Proofs.YtnkilceibkkjlaaGreat
open Go.RowKit Go.Maps
theorem zzi{n m:Nat}(hn:n<=255)(hm:m<=255)(h:n≠m):UInt8.ofNat n≠UInt8.ofNat m:=fun e=>by
 have h1:=congrArg UInt8.toNat e
 rw[UInt8.toNat_ofNat',UInt8.toNat_ofNat']at h1
 omega
theorem zxw{n n':Nat}(hn:n<=255)(hn':n'<=255)(hne:n≠n'){l l':List Int}(hl:∀ x∈l,0<=x)(hl':∀ x∈l',0<=x):keyL n l≠keyL n' l':=fun h=>by
 have h1:=z7z (t:=n) (l:=l) (fun x hx=>by have:=hl x hx;omega)
 have h2:=z7z (t:=n') (l:=l') (fun x hx=>by have:=hl' x hx;omega)
 rw[h,h2]at h1
 exact zzi hn hn' hne (Option.some.inj h1).symm
structure XB (s:St):Prop where
 srt:Sorted s.ents
 keys:∀ x∈s.ents,x.1.size<=25
 noE:getE s.ents z05=none
structure XG (k:Nat) (s:St):Prop where
 b:XB s
 rows:∀ (id:Int) v,0<=id->I63 id->getE s.ents (keyL 15 [id])=some v->(rowOf v).length=4
 mono:∀ o t:Int,0<=o->0<=t->I63 o->I63 t->∀ i j:Nat,i<=j->j<s.hlen 16 [o,t]->(s.hpI 16 [o,t] i).1<=(s.hpI 16 [o,t] j).1
 hlen:∀ o t:Int,0<=o->0<=t->I63 o->I63 t->s.hlen 16 [o,t]<=k
 cnt:s.int (keyL 14 [])<=k
 op:∀ n:Int,0<=n->I63 n->s.int (keyL 20 [n])<=16
theorem newB(w:World):Calls Tryz.prog 15 #[] w fun e w1=>∃ b L,e= .returned (.pointer (some ⟨b,0,none⟩))/\SRep w1 b z2g L/\Below w.heap.size w w1/\∀ k∈L,w.heap.size<=k:=
 (new_any w).mono fun _ _ ⟨b,L,he,hS,hF,hL⟩=>⟨b,L,he,hS,hF.below,hL⟩
end Go.Proofs.YtnkilceibkkjlaaGreat
namespace Go.Proofs.YtnkilceibkkjlaaGreat
open Go.RowKit
structure XAct where
 kd:Int
 id:Int
 dl:Int
 x:Ex
 m:W4
 n:W4
def XAct.L(A:XAct):Array Value:=#[.int .i64 A.kd,.int .i64 A.id,.int .i64 A.dl,.int .i64 A.x.st,.int .i64 A.x.op,.int .i64 A.x.sg,.int .i64 A.x.bl,.int .u64 A.x.wo.1,.int .u64 A.x.wo.2.1,.int .u64 A.x.wo.2.2.1,.int .u64 A.x.wo.2.2.2,.int .u64 A.x.mx.1,.int .u64 A.x.mx.2.1,.int .u64 A.x.mx.2.2.1,.int .u64 A.x.mx.2.2.2,.int .u64 A.m.1,.int .u64 A.m.2.1,.int .u64 A.m.2.2.1,.int .u64 A.m.2.2.2,.int .u64 A.n.1,.int .u64 A.n.2.1,.int .u64 A.n.2.2.1,.int .u64 A.n.2.2.2]
structure XAct.Ok (A:XAct):Prop where
 id:I63 A.id
 dl:I63 A.dl
 x:A.x.Ok
 m:A.m.Ok
 n:A.n.Ok
section
variable {s m:St} (h:s.ents=m.ents)
include h
theorem z7p(k:ByteArray):s.val k=m.val k:=by unfold St.val;rw[h]
theorem zgp(k:ByteArray):s.int k=m.int k:=by unfold St.int;rw[z7p h]
theorem zhf(k:ByteArray)(n:Int):(s.z2r k n).ents=(m.z2r k n).ents:=z4c h _ _
theorem zdp(k:ByteArray):(s.del k).ents=(m.del k).ents:=by
 have:=z4c h k z05;unfold St.put at this
 rwa [if_pos rfl,if_pos rfl]at this
end
structure CW where
 st:Nat
 W:Nat
 M:Nat
 c:Nat
def cvS(f:CW × Nat->Nat):List (CW × Nat)->Nat
 | []=>0
 | x::l=>f x+cvS f l
def zzd(L:Nat)(l:List CW):Prop:=∃ ql:List (CW × Nat),ql.map Prod.fst=l/\∃ P,0<P/\(∀ x∈ql,x.2*x.1.M=P)/\cvS (fun x=>x.1.W*x.1.c*x.2) ql<=L*P
end Go.Proofs.YtnkilceibkkjlaaGreat
namespace Go.Proofs.YtnkilceibkkjlaaGreat
open Go.RowKit
end Go.Proofs.YtnkilceibkkjlaaGreat
namespace Go.Proofs.YtnkilceibkkjlaaGreat
open Go.RowKit
structure CE where
 st:Nat
 wo:W4
 mx:W4
 c:W4
def CE.cw(e:CE):CW:=⟨e.st,uN e.wo,uN e.mx,uN e.c⟩
def CE.ex(e:CE)(i:Nat):Ex:=⟨((1+i/8:Nat):Int),9,1,(e.st:Int),e.wo,e.mx⟩
def CE.sd(e:CE):Nat:=uN (sdW e.wo e.mx)
structure CE.Ok (e:CE) (b:Nat):Prop where
 wo:e.wo.Ok
 mx:e.mx.Ok
 c:e.c.Ok
 st:e.st<=b
 pos:1<=uN e.c
 le:uN e.c<=uN e.mx
def ceS(f:CE->Nat):List CE->Nat
 | []=>0
 | x::l=>f x+ceS f l
structure CvSt (k j:Nat) (s:St) (es:List CE):Prop where
 g:XG k s
 cnt:s.int (keyL 14 [])=es.length
 ex:∀ i e,j<=i->es[i]?=some e->s.exIs ((i+1:Nat):Int)=true/\s.ex ((i+1:Nat):Int)=e.ex i
 non:∀ n:Nat,n<9223372036854775808->(n<=j\/es.length<n)->getE s.ents (keyL 15 [(n:Int)])=none
 cv:zzd (uN (s.left 1)) ((es.drop j).map CE.cw)
structure CvM (s:St) (es:List CE) (b d:Nat) (m:W4):Prop where
 ok:∀ e∈es,e.Ok b
 mo:m.Ok
 pos:1<=uN m
 one:uN m<=1000000000000000000
 win:∀ e∈es,b<=e.st+d->e.c=m
 last:uN (s.hlast 16 [9,1])=ceS CE.sd es
 hat:∀ x:Int,uN (s.hat 16 [9,1] x)=ceS (fun e=>if (e.st:Int)<=x then e.sd else 0) es
theorem zj7{x y:W4}(hx:x.Ok)(h:uN y<=uN x):uN (subW x y)=uN x-uN y:=by
 unfold subW;rw[if_pos h,z5f (by have:=z2i hx;omega)]
theorem z6o(s:St)(k:ByteArray):s.del k=s.put k z05:=by unfold St.put;rw[if_pos rfl]
theorem zsy:z2p z05=(0,0,0,0):=by kernel_rfl
theorem zon{s:St}(hs:Sorted s.ents){k:ByteArray}(hk:k≠z05)(x:W4)(hx:x.Ok)(j:ByteArray):(s.z09 k x).amt j=if k=j then x else s.amt j:=by
 unfold St.amt St.z09;rw[z7q s hs k _ j hk]
 by_cases e:k=j
 ·rw[if_pos e,if_pos e]
  by_cases h0:x=(0,0,0,0)
  ·rw[if_pos h0,zsy,h0]
  ·rw[if_neg h0,zmt hx]
 ·rw[if_neg e,if_neg e]
theorem zwo{x y:W4}(h:uN x+uN y<115792089237316195423570985008687907853269984665640564039457584007913129639936):uN (sumW x y)=uN x+uN y:=by
 unfold sumW toW;rw[if_pos (show _<W256 from h),z5f h]
theorem zt0{x y:W4}(hx:x.Ok)(hy:y.Ok):uN (z1b x y)=uN x-uN y:=by
 have e:z1b x y=subW x y:=(zau hx hy).1;rw[e]
 by_cases h:uN y<=uN x
 ·exact zj7 hx h
 ·unfold subW;rw[if_neg h,show uN (0,0,0,0)=0 from rfl];omega
abbrev WD:Nat:=1000000000000000000
abbrev xI(k:Nat):I4:=(7,1,9,k)
theorem za0(t:Nat){l:List Int}(h:∀ x∈l,0<=x):keyL t l≠z05:=z5l t h
theorem zl1{s:St}{k v:ByteArray}{y:Ent}(h:y∈(s.put k v).ents):y.1=k\/y∈s.ents:=by
 unfold St.put at h;split at h
 ·unfold St.del at h;split at h
  ·exact .inr (zfn h)
  ·exact .inr h
 ·split at h
  ·exact .inr h
  ·unfold St.set at h;split at h
   ·exact .inr h
   ·rcases zg7 h with rfl | h
    ·exact .inl rfl
    ·exact .inr h
theorem zod{t u:Nat}(ht:t<=255)(hu:u<=255){l m:List Int}(hl:∀ x∈l,0<=x)(hm:∀ x∈m,0<=x)(h:z2k (keyL t l) (keyL u m)=true):t=u:=by
 have h1:=z7z (t:=t) (l:=l) (fun x hx=>by have:=hl x hx;omega);have h2:=z7z (t:=u) (l:=m) (fun x hx=>by have:=hm x hx;omega);unfold z2k at h;rw[<- Array.getElem?_toList]at h1 h2;cases ha:(keyL t l).data.toList with
 | nil=>rw[ha]at h1;cases h1
 | cons a r =>
  cases hb:(keyL u m).data.toList with
  | nil=>rw[hb]at h2;cases h2
  | cons b q =>
   rw[ha,List.getElem?_cons_zero]at h1;rw[hb,List.getElem?_cons_zero]at h2;rw[ha,hb]at h;simp only[List.isPrefixOf,Bool.and_eq_true,beq_iff_eq]at h;cases h1;cases h2;have e:=congrArg UInt8.toNat h.1;rw[UInt8.toNat_ofNat',UInt8.toNat_ofNat']at e;omega
theorem zd5(n:Nat){l:List Int}(h:l.length<=4):(keyL n l).size<=33:=by
 unfold keyL;split
 ·exact Nat.zero_le _
 ·show(keyBytes n l).toArray.size<=_
  rw[List.size_toArray,z4q];omega
structure AK (s:St):Prop where
 srt:Sorted s.ents
 key:∀ y∈s.ents,y.1.size<=33
 k29:∀ y∈s.ents,z2k (keyL 29 [7,1]) y.1=true->∃ k,k<3/\y.1=aKey 29 (xI k)
 k30:∀ y∈s.ents,z2k (keyL 30 [7,1]) y.1=true->∃ k,k<3/\y.1=aKey 30 (xI k)
theorem zjt(s:St)(x:I4):pend s x=zb0 (rowOf (s.val (aKey 30 x))) (s.amt (aKey 31 x)):=rfl
def Th(s:St)(k:Nat):Nat:=uN (cur s (xI k))+if (pend s (xI k)).1=1 then uN (pend s (xI k)).2.1 else 0
abbrev KA:ByteArray:=keyL 32 [7,1]
structure AN (n:Nat) (s:St):Prop where
 eb:(ends s 33 [7,1]).2<=n
 c27:s.int K27<=n
inductive PK (k:Nat):Nat->St->St->Prop
 | refl (s:St):PK k 0 s s
 | step {m:Nat} {s s1:St} {t:Nat} {l:List Int} {v:ByteArray} (h:PK k m s s1) (ht1:1<=t) (ht:t<=255) (hl:∀ x∈l,0<=x) (hn:l.length<=4) (ho:t=29\/t=30\/t=31->l=(xI k).l) (hv:v.size<=1000000):PK k (m+1) s (s1.put (keyL t l) v)
theorem zr1(x:W4):(if x=(0,0,0,0)then z05 else amtB x).size<=1000000:=by
 split
 ·decide
 ·show(amtL x).toArray.size<=_
  simp[amtL]
theorem zhg(n:Int):(if n<1 then z05 else numB n.toNat).size<=1000000:=by
 split
 ·decide
 ·rw[show(numB n.toNat).size=8 from rfl];decide
theorem zo2(a b:Nat):(z3d [a,b]).2<=b:=by
 unfold z3d;dsimp only;split
 ·exact Nat.le_refl _
 ·exact Nat.zero_le _
structure AV (s:St) (m:W4):Prop where
 mo:m.Ok
 one:uN m<=WD
 way:∀ k,k<3->(pend s (xI k)).1<=2
 less:∀ k,k<3->(pend s (xI k)).1=2->uN (pend s (xI k)).2.1<=uN (cur s (xI k))
 sum:uN (s.amt KA)=Th s 0+Th s 1+Th s 2
 le:uN (s.amt KA)<=uN m
theorem zu1(s:St)(x:I4):(cur s x).Ok:=z4z _
structure AR (n f:Nat) (s:St) (m:W4):Prop where
 k:AK s
 n:AN n s
 v:AV s m
 f:s.Fit f
end Go.Proofs.YtnkilceibkkjlaaGreat
namespace Go.Proofs.YtnkilceibkkjlaaGreat
open Go.RowKit
end Go.Proofs.YtnkilceibkkjlaaGreat
