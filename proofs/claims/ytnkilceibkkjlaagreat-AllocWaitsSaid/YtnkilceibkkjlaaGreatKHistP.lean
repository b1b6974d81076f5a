/- What is proved here: fifo.of, over any store that is read -/
import Derived.Test.YtnkilceibkkjlaaGreatKHist
import Derived.RangeFuncNested
import Derived.RangeFuncBound
import Derived.RangeFuncCalls
import Derived.RangeFuncLeaves
import Derived.RangeFuncBox
import Derived.Shelf.Abstract
import Derived.Shelf.RegionOpen
import Derived.OwnWalkIn
import Derived.TacticsInMore
import Derived.LoopNIn
import Derived.LoopIn
import Derived.Maps.AppendAt
set_option maxRecDepth 100000
set_option maxHeartbeats 16000000
namespace Go.Proofs.YtnkilceibkkjlaaGreat
open Go.RowKit
def z3d(l:List Nat):Nat × Nat:=match l with
 | [a,b]=>if a<=b then(a,b)else(0,0)
 | _=>(0,0)
def ends(s:St)(t:Nat)(l:List Int):Nat × Nat:=z3d (rowOf (s.val (keyL t l)))
def FqAt(w:World)(q:Option Addr)(t:Nat)(v:Value)(W:World):Prop:=Below w.heap.size w W/\W.heap[w.heap.size]?=some (.cells (qL none 0 (.slice none 0 0) 0 0) 188 (0,0))/\W.heap[w.heap.size+1]?=some (.cells (qL q t v 0 0) 188 (0,0))
theorem zk4(w:World)(q:Option Addr)(s:St)(t:Nat)(ht1:1<=t)(ht2:t<=255)(ad:Option Addr)(c:Nat)(l:List Int)(hv:z0w w (.slice ad l.length c) l)(hl:l.length<1000000)(hr:∀ n∈l,n<9223372036854775808)(h:z1c w.heap.size w q s):Calls Tryz.prog 138 #[.pointer q,.int .i64 t,.slice ad l.length c] w fun e w'=>e= .returned (.agg (qL q t (.slice ad l.length c) (ends s t l).1 (ends s t l).2))/\Below w.heap.size w w':=by
 have hb0:=z00 (z00 (Below.refl _ w) (.cells (qL none 0 (.slice none 0 0) 0 0) 188)) (.cells (qL q t (.slice ad l.length c) 0 0) 188)
 have HC:Hid (Calls Tryz.prog 90 #[.int .i64 t,.slice ad l.length c] ((w.alloc (.cells (qL none 0 (.slice none 0 0) 0 0) 188)).alloc (.cells (qL q t (.slice ad l.length c) 0 0) 188)) fun e w1=>e= .returned (.string (keyL t l)) /\
  Calls Tryz.prog 75 #[.pointer q,.string (keyL t l)] w1 fun e w2=>∃ v,e= .returned v/\Own w2 3 1 v (rowOf (s.val (keyL t l))).length (zmx (rowOf (s.val (keyL t l))))/\(∀ g,v.ownBlock=some g->w.heap.size+1<g)/\FqAt w q t (.slice ad l.length c) w2):=by
  have hr0:((w.alloc (.cells (qL none 0 (.slice none 0 0) 0 0) 188)).alloc (.cells (qL q t (.slice ad l.length c) 0 0) 188)).heap[w.heap.size]?=some (.cells (qL none 0 (.slice none 0 0) 0 0) 188 (0,0)):=by
   rw[heap_alloc_old _ _ (by simp)];exact heap_alloc_new w (.cells (qL none 0 (.slice none 0 0) 0 0) 188)
  have hr1:=heap_alloc_new (w.alloc (.cells (qL none 0 (.slice none 0 0) 0 0) 188)) (.cells (qL q t (.slice ad l.length c) 0 0) 188);rw[World.size_alloc]at hr1;refine(z5g t ht1 ht2 _ l _ (hv.below hb0) (by omega) hr).mono fun e w1 ⟨he,hb⟩=>⟨he,?_⟩
  have hb1:=z0b hb0 hb;have hsz:=hb.size;simp only[World.size_alloc]at hsz;have hp0:=(hb.block _ (Array.getElem?_eq_some_iff.1 hr0).1).trans hr0;have hp1:=(hb.block _ (Array.getElem?_eq_some_iff.1 hr1).1).trans hr1;exact((h.below hb1).row (keyL t l)).mono fun e w2 ⟨v,he,ho,hg,hb2⟩=>⟨v,he,ho,fun g hgg=>(by have:=hg g hgg;omega),z0b hb1 hb2,(hb2.block _ (Array.getElem?_eq_some_iff.1 hp0).1).trans hp0,(hb2.block _ (Array.getElem?_eq_some_iff.1 hp1).1).trans hp1⟩
 have HP:Hid (ends s t l=z3d (rowOf (s.val (keyL t l)))):=rfl;clear h hb0 hv hr;generalize ends s t l=p at *
 generalize rowOf (s.val (keyL t l))=r at *
 generalize keyL t l=k at *
 generalize l.length=n at *
 have HEND:Hid (∀ (W:World) (x y:Nat),W.heap[w.heap.size]?=some (.cells (qL none 0 (.slice none 0 0) 0 0) 188 (0,0))->(((((W.setCell ⟨w.heap.size,0,none⟩ (.pointer q)).setCell ⟨w.heap.size,1,none⟩ (.int .i64 t)).setCell ⟨w.heap.size,2,none⟩ (.slice ad n c)).setCell ⟨w.heap.size,3,none⟩ (.int .i64 x)).setCell ⟨w.heap.size,4,none⟩ (.int .i64 y)).heap[w.heap.size]?=some (.cells (qL q t (.slice ad n c) x y) 188 (0,0))):=fun W x y hW=>z0d _ (z0d _ (z0d _ (z0d _ (z0d _ hW))))
 by_cases h2:r.length=2
 ·obtain⟨a,b,rfl⟩:∃ a b,r = [a,b]:=by
   match r,h2 with
   | [a,b],_=>exact⟨a,b,rfl⟩
  by_cases hab:a<=b
  ·have hp:p=(a,b):=by rw[HP.out];simp[z3d,hab]
   subst hp;have hd:decide ((a:Int)<=(b:Int))=true:=decide_eq_true (by omega);clear h2 HP;go_enter Tryz.func138,Tryz.ntmps138;go_wp2_with fail;refine zm HC.out ?_;rintro e w1 ⟨rfl,hD⟩;have HD:=zh hD;clear hD HC;go_wp2_with fail;refine zm HD.out ?_;rintro e w2 ⟨v,rfl,ho,hgn,hb2,hr0,hr1⟩;obtain⟨g,cc,rfl,c0,c1⟩:=z7h ho;have hg1:w.heap.size+1<g:=hgn g rfl;have n1:g≠w.heap.size+1:=by omega
   have n2:=Ne.symm n1;have n3:g≠w.heap.size:=by omega
   have n4:=Ne.symm n3;have HR0:=zh hr0;have HB:=zh hb2;have f0:=zfg hr0;have f1:=zfg hr1;obtain⟨⟨_,_,_,_,_⟩,_,_,_,_,_⟩:=f0;obtain⟨⟨_,_,_,_,_⟩,_,_,_,_,_⟩:=f1;have hat:∀ W,(Instr.arrayAt 152 (.slice (some ⟨g,0,none⟩) 2 cc)).run Tryz.prog W= .ok (.pointer (some ⟨g,0,none⟩)) W:=fun W=>run_arrayAt W _ _ 2 _ 2 cc Tryz.underlying152 (Nat.le_refl _)
   clear HD ho hr0 hr1 hb2 hgn;go_wp2_with fail
   go_region
   all_goals
    go_wp2_with fail;refine bodyPost_ret (results_cell_row rfl _ _ w.heap.size 188 (qL q t (.slice ad n c) a b) (0,0) _ rfl ?_ Tryz.underlying188 rfl (by kernel_rfl)) rfl ?_
    ·rw[z7x];refine HEND.out _ a b ?_;rw[Below.heap_setCell _ _ _ _ (show w.heap.size≠w.heap.size+1 by omega),Below.heap_setCell _ _ _ _ (show w.heap.size≠w.heap.size+1 by omega)];exact HR0.out
    ·exact⟨rfl,z0h ((z0f ((HB.out.setCell (p:=⟨w.heap.size+1,3,none⟩) (Nat.le_succ _) _).setCell (p:=⟨w.heap.size+1,4,none⟩) (Nat.le_succ _) _) (Nat.le_refl _) _ _ _ _).setCell (p:=⟨w.heap.size,4,none⟩) (Nat.le_refl _) _)⟩
  ·have hp:p=(0,0):=by rw[HP.out];simp[z3d,hab]
   subst hp;have hd:decide ((a:Int)<=(b:Int))=false:=decide_eq_false (by omega);clear h2 HP;go_enter Tryz.func138,Tryz.ntmps138;go_wp2_with fail;refine zm HC.out ?_;rintro e w1 ⟨rfl,hD⟩;have HD:=zh hD;clear hD HC;go_wp2_with fail;refine zm HD.out ?_;rintro e w2 ⟨v,rfl,ho,hgn,hb2,hr0,hr1⟩;obtain⟨g,cc,rfl,c0,c1⟩:=z7h ho;have hg1:w.heap.size+1<g:=hgn g rfl;have n1:g≠w.heap.size+1:=by omega
   have n2:=Ne.symm n1;have n3:g≠w.heap.size:=by omega
   have n4:=Ne.symm n3;have HR0:=zh hr0;have HB:=zh hb2;have f0:=zfg hr0;have f1:=zfg hr1;obtain⟨⟨_,_,_,_,_⟩,_,_,_,_,_⟩:=f0;obtain⟨⟨_,_,_,_,_⟩,_,_,_,_,_⟩:=f1;clear HD ho hr0 hr1 hb2 hgn;go_wp2_with fail
   go_region
   all_goals
    go_wp2_with fail;refine bodyPost_ret (results_cell_row rfl _ _ w.heap.size 188 (qL q t (.slice ad n c) 0 0) (0,0) _ rfl ?_ Tryz.underlying188 rfl (by kernel_rfl)) rfl ?_
    ·rw[z7x];exact z0d _ (z0d _ (z0d _ (z0d _ (z0d _ HR0.out))))
    ·exact⟨rfl,z0h ((z0f HB.out (Nat.le_refl _) _ _ _ _).setCell (p:=⟨w.heap.size,4,none⟩) (Nat.le_refl _) _)⟩
 ·have hp:p=(0,0):=by
   rw[HP.out];unfold z3d
   match r,h2 with
   | [],_=>rfl
   | [_],_=>rfl
   | _::_::_::_,_=>rfl
  subst hp;have hne:((r.length:Int)==2)=false:=beq_eq_false_iff_ne.2 (by omega)
  have HC1:Hid (Calls Tryz.prog 90 #[.int .i64 t,.slice ad n c] ((w.alloc (.cells (qL none 0 (.slice none 0 0) 0 0) 188)).alloc (.cells (qL q t (.slice ad n c) 0 0) 188)) fun e w1=>e= .returned (.string k) /\
   Calls Tryz.prog 75 #[.pointer q,.string k] w1 fun e w2=>∃ a2 c2,e= .returned (.slice a2 r.length c2)/\FqAt w q t (.slice ad n c) w2):=by
   refine HC.out.mono fun e w1 ⟨he,h1⟩=>⟨he,h1.mono fun e w2 ⟨v,he,ho,_,hq⟩ => ?_⟩
   obtain⟨a2,c2,hu,_⟩:=ho.form;subst hu;exact⟨a2,c2,he,hq⟩
  clear HC HP h2 HEND;generalize r.length=rn at *
  go_enter Tryz.func138,Tryz.ntmps138;go_wp2_with fail;refine zm HC1.out ?_;rintro e w1 ⟨rfl,hD⟩;have HD:=zh hD;clear hD HC1;go_wp2_with fail;refine zm HD.out ?_;rintro e w2 ⟨a2,c2,rfl,hb2,hr0,hr1⟩;have HR0:=zh hr0;have HB:=zh hb2;have f0:=zfg hr0;have f1:=zfg hr1;obtain⟨⟨_,_,_,_,_⟩,_,_,_,_,_⟩:=f0;obtain⟨⟨_,_,_,_,_⟩,_⟩:=f1;clear HD hr0 hr1 hb2;go_wp2_with fail
  go_region
  all_goals
   go_wp2_with fail;refine bodyPost_ret (results_cell_row rfl _ _ w.heap.size 188 (qL q t (.slice ad n c) 0 0) (0,0) _ rfl ?_ Tryz.underlying188 rfl (by kernel_rfl)) rfl ?_
   ·rw[z7x];exact z0d _ (z0d _ (z0d _ (z0d _ (z0d _ HR0.out))))
   ·exact⟨rfl,z0h ((z0f HB.out (Nat.le_refl _) _ _ _ _).setCell (p:=⟨w.heap.size,4,none⟩) (Nat.le_refl _) _)⟩
end Go.Proofs.YtnkilceibkkjlaaGreat
namespace Go.Proofs.YtnkilceibkkjlaaGreat
open Go.RowKit
theorem zdd(p:ByteArray)(l:List Ent)(k:Nat)(x:Ent)(h:l[k]?=some x):z0o p (l.take (k+1))=z0o p (l.take k)++(if z2k p x.1 then [x]else []):=by
 have e:l.take (k+1)=l.take k ++ [x]:=by rw[List.take_add_one,h];rfl
 rw[e];unfold z0o;rw[List.filter_append];cases hp:z2k p x.1<;>simp[hp]
def z3m(w:World)(p:ByteArray)(l:List Ent)(k:Nat)(v:Value)(wr:World):Prop:=z4f w wr v (z0o p (l.take k)).length (z0o p (l.take k))
theorem z3m.yes{w wr:World}{p:ByteArray}{l:List Ent}{k:Nat}{v:Value}(h:z3m w p l k v wr){x:Ent}(hx:l[k]?=some x)(hp:z2k p x.1=true){o1 o2:Obj}{v':Value}{w':World}
  (hA:z0s ((wr.alloc o1).alloc o2) 156 2 v (z0o p (l.take k)).length 1 (z1x (z0o p (l.take k))) [.string x.1,.string x.2] v' w'):z3m w p l (k+1) v' w':=by
 unfold z3m;rw[zdd p l k x hx,hp];simp only[if_true,List.length_append,List.length_singleton];exact((z4f.alloc h _).alloc _).next (l2:=[x]) hA
theorem z3m.no{w wr:World}{p:ByteArray}{l:List Ent}{k:Nat}{v:Value}(h:z3m w p l k v wr){x:Ent}(hx:l[k]?=some x)(hp:z2k p x.1=false)(o:Obj):z3m w p l (k+1) v (wr.alloc o):=by
 unfold z3m;rw[zdd p l k x hx,hp];simp only[Bool.false_eq_true,if_false,List.append_nil];exact z4f.alloc h _
theorem zls(w:World)(b:Nat)(s:St)(L:List Nat)(p:ByteArray)(h:RRep w b s L)(hn:s.ents.length<1000000000000) :
  Calls Tryz.prog 94 #[.pointer (some ⟨b,0,none⟩),.string p] w (z3b w (z0o p s.ents)):=by
 obtain⟨lv,pv,h,rfl⟩:=h;obtain⟨a,c,rfl,hE⟩:=h.ents;have hc:=hE.hd;have HAT:Hid (∀ wr k x,Below w.heap.size w wr->s.ents[k]?=some x->∃ g,a=some ⟨g,0,none⟩/\wr.cell? ⟨g,k*2,none⟩=some (.string x.1)/\wr.cell? ⟨g,k*2+1,none⟩=some (.string x.2)):=fun wr k x hb hx=>by
  obtain⟨g,h1,h2,h3⟩:=hE.at0 k x hx;exact⟨g,h1,by rw[hb.cell (p:=⟨g,k*2,none⟩) (World.block_lt_of_cell? w _ h2)];exact h2,by rw[hb.cell (p:=⟨g,k*2+1,none⟩) (World.block_lt_of_cell? w _ h3)];exact h3⟩
 have HGET:Hid (∀ k,k<s.ents.length->∃ x,s.ents[k]?=some x):=fun k hk=>⟨_,List.getElem?_eq_getElem hk⟩
 have HLEN:Hid (∀ k,(z0o p (s.ents.take k)).length<=k):=fun k=>Nat.le_trans (z6f _ _) (by rw[List.length_take];exact Nat.min_le_left _ _)
 have HEND:Hid (∀ v wr,z3m w p s.ents s.ents.length v wr->z3b w (z0o p s.ents) (.returned v) wr):=fun v wr hR=>by
  unfold z3m at hR;rw[List.take_length]at hR;exact⟨v,rfl,hR⟩
 have H0:Hid (z3m w p s.ents 0 (.slice none 0 0) w):=z4f.start w;generalize z3b w (z0o p s.ents)=R at *
 clear h hE;generalize s.ents=l at *
 obtain⟨n,hnl⟩:∃ n,l.length=n:=⟨_,rfl⟩;rw[hnl]at hn hc HEND HGET;clear hnl;go_enter Tryz.func94,Tryz.ntmps94;go_wp2_with fail
 go_loopw [5,13] (fun v iv wr=>∃ k:Nat,iv= .int .i64 k/\k<=n/\z3m w p l k v wr) (fun _ iv _=>n-(intOf iv).toNat)
 case atStart=>exact⟨0,rfl,by omega,H0.out⟩
 case round =>
  obtain⟨k,rfl,hk,hR⟩:=hrel;have HR:=zh hR;clear hR H0
  by_cases hlt:k<n
  ·obtain⟨x,hx⟩:=HGET.out k hlt;obtain⟨g,rfl,c1,c2⟩:=HAT.out wr k x HR.out.2.2 hx;have hlen:=HLEN.out k;have HX:=zh hx;clear hx
   by_cases hz:p.size<=x.1.size
   ·have hd:decide ((p.size:Int)<=(x.1.size:Int))=true:=by simpa using hz
    have he:=zdj x.1 p;cases hp:z2k p x.1 with
    | true =>
     rw[hp]at he;have hY:=fun o1 o2 v' w'=>HR.out.yes HX.out hp (o1:=o1) (o2:=o2) (v':=v') (w':=w')
     have HY:=zh hY;have HO:=zh HR.out;obtain⟨av,cv,hv⟩:∃ av cv,u5= .slice av (z0o p (l.take k)).length cv:=by
      obtain⟨_,a',c',h',_⟩:=HO.out.1.src;exact⟨a',c',h'⟩
     subst hv;clear hY hp HR HAT;have HOO:Hid (∀ o1 o2,Own ((wr.alloc o1).alloc o2) 156 2 (.slice av (z0o p (l.take k)).length cv) (z0o p (l.take k)).length (z1x (z0o p (l.take k)))):=fun o1 o2=>((z4f.alloc HO.out o1).alloc o2).1
     generalize (z0o p (l.take k)).length=m at *
     generalize z1x (z0o p (l.take k))=xs at *
     have HNEW:=fun o=>zfw (wr.alloc o) (.string x.1) (.string x.2) 156
     simp only[World.size_alloc]at HNEW;have HNEWS:=zh HNEW;clear HNEW;go_wp2_with (at_builtin;refine z08 rfl _ _ 42 42 rfl pairT pairT _ m xs rfl (HOO.out _ _) _ 1 _ [.string x.1,.string x.2] rfl rfl (HNEWS.out _) (zic _ _) (by unfold maxLen;omega) (by omega) ?_);intro v' w' hA;have HR2:=zh (HY.out _ _ _ _ hA);clear hA;go_wp2_with fail;go_roundw
     case rel=>exact⟨k+1,by go_num,by omega,HR2.out⟩
     case measure=>simp[intOf];omega
    | false =>
     rw[hp]at he;have HN:=zh (HR.out.no HX.out hp);clear hp HR HAT;go_wp2_with fail;go_roundw
     case rel=>exact⟨k+1,by go_num,by omega,HN.out _⟩
     case measure=>simp[intOf];omega
   ·have hd:decide ((p.size:Int)<=(x.1.size:Int))=false:=by simpa using hz
    have HN:=zh (HR.out.no HX.out (zdh hz));clear HR HAT;go_wp2_with fail;go_roundw
    case rel=>exact⟨k+1,by go_num,by omega,HN.out _⟩
    case measure=>simp[intOf];omega
  ·obtain rfl:k=n:=by omega
   have HE2:=zh (HEND.out _ _ HR.out);go_wp2_with fail;exact HE2.out
def zyr:List UInt8->Option (Nat × List Nat)
 | []=>none
 | t::r=>if t=0 then none else(numsL r).map fun ns=>(t.toNat,ns)
def z2c(k:ByteArray):Option (Nat × List Nat):=zyr k.data.toList
def z1q(w:World)(R:Option (Nat × List Nat))(e:Ending)(w':World):Prop:=Below w.heap.size w w' /\
 match R with
 | some (t,ns)=>∃ v,e= .returned (.tuple #[.int .i64 t,v,.bool true])/\Own w' 3 1 v ns.length (ns.map fun (n:Nat)=>Value.int .i64 n)/\∀ k,v.ownBlock=some k->w.heap.size<=k
 | none=>e= .returned (.tuple #[.int .i64 0,.slice none 0 0,.bool false])
theorem zhz(k:ByteArray):(k.extract 1 k.size).data.toList=k.data.toList.drop 1:=by
 have h:(k.extract 1 k.size).data=k.data.extract 1 k.size:=by simp[ByteArray.data_extract]
 rw[h];have e:k.size=k.data.toList.length:=by rw[Array.length_toList];rfl
 rw[e];simp;rw[List.take_of_length_le (by rw[List.length_tail,e,Array.length_toList];simp)]
theorem zds(k:ByteArray)(h:k.size=0):z2c k=none:=by
 obtain⟨⟨l⟩⟩:=k;cases l with
 | nil=>rfl
 | cons x r=>simp[ByteArray.size]at h
theorem zdr(k:ByteArray)(h:0<k.size):z2c k=if ((k[0]'h).toNat:Int)=0 then none else(numsL (k.extract 1 k.size).data.toList).map fun ns=>((k[0]'h).toNat,ns):=by
 rw[zhz];obtain⟨⟨l⟩⟩:=k;cases l with
 | nil=>simp[ByteArray.size]at h
 | cons x r =>
  show(if x=0 then none else(numsL r).map fun ns=>(x.toNat,ns))=if ((x.toNat:Nat):Int)=0 then none else(numsL r).map fun ns=>(x.toNat,ns)
  by_cases hx:x=0
  ·subst hx;rfl
  ·rw[if_neg hx,if_neg (fun e=>hx (by apply UInt8.toNat_inj.1;show x.toNat=0;omega))]
theorem zjk(k:ByteArray)(h:0<k.size):k.toList.isEmpty=false:=by
 rw[ByteArray.toList_eq];obtain⟨⟨l⟩⟩:=k;cases l with
 | nil=>simp[ByteArray.size]at h
 | cons x r=>rfl
theorem parse_any(k:ByteArray)(hk:k.size<1000000000000)(w:World):Calls Tryz.prog 159 #[.string k] w (z1q w (z2c k)):=by
 by_cases h0:k.size=0
 ·have HE:Hid (z1q w (z2c k) (.returned (.tuple #[.int .i64 0,.slice none 0 0,.bool false])) w):=by
   rw[zds k h0];exact⟨Below.refl _ _,rfl⟩
  obtain rfl:k=⟨#[]⟩:=by
   obtain⟨⟨l⟩⟩:=k;cases l with
   | nil=>rfl
   | cons x r=>simp[ByteArray.size]at h0
  generalize z1q w (z2c ⟨#[]⟩)=R at *
  clear h0 hk;go_enter Tryz.func159,Tryz.ntmps159;go_wp2_with fail;exact HE.out
 ·have hlt:0<k.size:=by omega
  have he:=zjk k hlt;have hP:=zdr k hlt
  by_cases hz:((k[0]'hlt).toNat:Int)=0
  ·have HE:Hid (z1q w (z2c k) (.returned (.tuple #[.int .i64 0,.slice none 0 0,.bool false])) w):=by
    rw[hP,if_pos hz];exact⟨Below.refl _ _,rfl⟩
   have hzb:(((k[0]'hlt).toNat:Int)==0)=true:=by rw[beq_iff_eq];exact hz
   generalize z1q w (z2c k)=R at *
   clear hP;go_enter Tryz.func159,Tryz.ntmps159;go_wp2_with fail;exact HE.out
  ·have hzb:(((k[0]'hlt).toNat:Int)==0)=false:=by rw[beq_eq_false_iff_ne];exact hz
   rw[if_neg hz]at hP;have HC:Hid (Calls Tryz.prog 147 #[.string (k.extract 1 k.size)] w fun e w'=>∃ v b,e= .returned (.tuple #[v,.bool b])/\(b=true->z1q w (z2c k) (.returned (.tuple #[.int .i64 (wrap64 (k[0]'hlt).toNat),v,.bool true])) w')/\(b=false->z1q w (z2c k) (.returned (.tuple #[.int .i64 0,.slice none 0 0,.bool false])) w')):=by
    have hw:wrap64 ((k[0]'hlt).toNat:Int)=((k[0]'hlt).toNat:Int):=by
     have:=UInt8.toNat_lt (k[0]'hlt);unfold wrap64;omega
    rw[hw];refine(za8 (k.extract 1 k.size) (by rw[ByteArray.size_extract];omega) w).mono fun e w' ⟨hb,hR⟩ => ?_
    rw[hP];cases hx:numsL (k.extract 1 k.size).data.toList with
    | none =>
     rw[hx]at hR;have hR':e= .returned (.tuple #[.slice none 0 0,.bool false]):=hR;exact⟨.slice none 0 0,false,hR',fun h=>(by cases h),fun _=>⟨hb,rfl⟩⟩
    | some ns =>
     rw[hx]at hR;obtain⟨v,he,ho,hg⟩:=hR;exact⟨v,true,he,fun _=>⟨hb,v,rfl,ho,hg⟩,fun h=>(by cases h)⟩
   generalize z1q w (z2c k)=R at *
   clear hP hz h0 hk;go_enter Tryz.func159,Tryz.ntmps159;go_wp2_with fail;refine zm HC.out ?_;rintro e w' ⟨v,b,rfl,hT,hF⟩;cases b with
   | true =>
    have HT:=zh (hT rfl);clear hT hF HC;go_wp2_with fail;exact HT.out
   | false =>
    have HF:=zh (hF rfl);clear hT hF HC;go_wp2_with fail;exact HF.out
theorem zlh(k:ByteArray)(hk:k.size<1000000000000)(w:World):Calls Tryz.prog 96 #[.string k] w (z1q w (z2c k)):=by
 by_cases h0:k.size=0
 ·have HE:Hid (z1q w (z2c k) (.returned (.tuple #[.int .i64 0,.slice none 0 0,.bool false])) w):=by
   rw[zds k h0];exact⟨Below.refl _ _,rfl⟩
  obtain rfl:k=⟨#[]⟩:=by
   obtain⟨⟨l⟩⟩:=k;cases l with
   | nil=>rfl
   | cons x r=>simp[ByteArray.size]at h0
  generalize z1q w (z2c ⟨#[]⟩)=R at *
  clear h0 hk;go_enter Tryz.func96,Tryz.ntmps96;go_wp2_with fail;exact HE.out
 ·have hlt:0<k.size:=by omega
  have he:((k.size:Int)==0)=false:=by rw[beq_eq_false_iff_ne];omega
  have hk0:(0:Int)<(k.size:Int):=by omega
  have hP:=zdr k hlt
  by_cases hz:((k[0]'hlt).toNat:Int)=0
  ·have HE:Hid (z1q w (z2c k) (.returned (.tuple #[.int .i64 0,.slice none 0 0,.bool false])) w):=by
    rw[hP,if_pos hz];exact⟨Below.refl _ _,rfl⟩
   have hzb:(((k[0]'hlt).toNat:Int)==0)=true:=by rw[beq_iff_eq];exact hz
   generalize z1q w (z2c k)=R at *
   clear hP;go_enter Tryz.func96,Tryz.ntmps96;go_wp2_with fail;exact HE.out
  ·have hzb:(((k[0]'hlt).toNat:Int)==0)=false:=by rw[beq_eq_false_iff_ne];exact hz
   rw[if_neg hz]at hP;have HC:Hid (Calls Tryz.prog 167 #[.string (k.extract 1 k.size)] w fun e w'=>∃ v b,e= .returned (.tuple #[v,.bool b])/\(b=true->z1q w (z2c k) (.returned (.tuple #[.int .i64 (wrap64 (k[0]'hlt).toNat),v,.bool true])) w')/\(b=false->z1q w (z2c k) (.returned (.tuple #[.int .i64 0,.slice none 0 0,.bool false])) w')):=by
    have hw:wrap64 ((k[0]'hlt).toNat:Int)=((k[0]'hlt).toNat:Int):=by
     have:=UInt8.toNat_lt (k[0]'hlt);unfold wrap64;omega
    rw[hw];refine(zcn (k.extract 1 k.size) (by rw[ByteArray.size_extract];omega) w).mono fun e w' ⟨hb,hR⟩ => ?_
    rw[hP];cases hx:numsL (k.extract 1 k.size).data.toList with
    | none =>
     rw[hx]at hR;have hR':e= .returned (.tuple #[.slice none 0 0,.bool false]):=hR;exact⟨.slice none 0 0,false,hR',fun h=>(by cases h),fun _=>⟨hb,rfl⟩⟩
    | some ns =>
     rw[hx]at hR;obtain⟨v,he,ho,hg⟩:=hR;exact⟨v,true,he,fun _=>⟨hb,v,rfl,ho,hg⟩,fun h=>(by cases h)⟩
   generalize z1q w (z2c k)=R at *
   clear hP hz h0 hk;go_enter Tryz.func96,Tryz.ntmps96;go_wp2_with fail;refine zm HC.out ?_;rintro e w' ⟨v,b,rfl,hT,hF⟩;cases b with
   | true =>
    have HT:=zh (hT rfl);clear hT hF HC;go_wp2_with fail;exact HT.out
   | false =>
    have HF:=zh (hF rfl);clear hT hF HC;go_wp2_with fail;exact HF.out
open Go.Shelf
theorem z5w{α β:Type}(f:α->Option β)(l:List α)(i:Nat)(x:α)(h:l[i]?=some x):(l.take (i+1)).filterMap f=(l.take i).filterMap f++(f x).toList:=by
 rw[z2h l i x h,List.filterMap_append];cases hf:f x<;>simp[hf]
theorem z6q{α β:Type}(f:α->Option β)(l:List α):(l.filterMap f).length<=l.length:=List.length_filterMap_le ..
def KpR(n₀:Nat)(A B:World):Prop:=Below n₀ A B/\∀ (k:Nat) (cs:Array Value) (t:TypeId) f,A.heap[k]?=some (Obj.cells cs t f)->t≠3->t≠75->B.heap[k]?=A.heap[k]?
theorem KpR.refl(n₀:Nat)(A:World):KpR n₀ A A:=⟨Below.refl _ _,fun _ _ _ _ _ _ _=>rfl⟩
theorem KpR.trans{n₀:Nat}{A B C:World}(h:KpR n₀ A B)(k:KpR n₀ B C):KpR n₀ A C:=
 ⟨h.1.trans k.1,fun j cs t f hj h1 h2=>(k.2 j cs t f (by rw[h.2 j cs t f hj h1 h2];exact hj) h1 h2).trans (h.2 j cs t f hj h1 h2)⟩
theorem KpR.turn{n₀:Nat}{w:World}(hn:n₀<=w.heap.size)(W:World)(l:Nat)(o o':Obj)(hl:w.heap.size<=l)(h:W.heap[l]?=some o)(hc:o.isCells=false)(hw:o.isWalk=false):KpR n₀ W (W.putObj l o'):=
 ⟨belowK_b hn W l o o' hl h hc hw,fun k cs t f hk _ _=>by
  refine World.putObj_heap_other fun e => ?_
  subst e
  rw[h]at hk
  cases hk
  cases hc⟩
theorem KpR.of_below{n₀:Nat}{A B:World}(h:Below A.heap.size A B)(hn:n₀<=A.heap.size):KpR n₀ A B:=
 ⟨h.mono hn,fun k _ _ _ hk _ _=>h.block k (Array.getElem?_eq_some_iff.1 hk).1⟩
theorem KpR.own{n₀:Nat}{A B:World}(h:KpR n₀ A B){e size:Nat}{v:Value}{n:Nat}{xs:List Value}(ho:Own A e size v n xs)(h1:e≠3)(h2:e≠75):Own B e size v n xs:=by
 refine⟨ho.1,?_⟩;rcases ho.2 with h0 | ⟨g,cap,cur,hv,hg,hr⟩
 ·exact .inl h0
 ·exact .inr ⟨g,cap,cur,hv,by rw[h.2 g _ _ _ hg h1 h2];exact hg,hr⟩
theorem grown_below{A B:World}(h:Below A.heap.size A B):A.grownBy B none:=⟨h.os,h.tape,h.output,h.size,fun k hk _=>h.block k hk⟩
theorem z8x{A B C:World}(h:Below A.heap.size A B)(k:Below B.heap.size B C):Below A.heap.size A C:=h.trans (k.mono h.size)
structure zzs (w:World) (a:Option Addr) (l:List Int):Prop where
 at0:∀ k x,l[k]?=some x->∃ g,a=some ⟨g,0,none⟩/\w.cell? ⟨g,k,none⟩=some (.int .i64 x)
def zd2(k:ByteArray):Option (Nat × Nat):=match z2c k with
 | some (_,[x,y])=>some (x,y)
 | _=>none
theorem zef{w w':World}{k:ByteArray}{e:Ending}(h:z1q w (z2c k) e w')(hn:zd2 k=none):∃ (t:Int) (a:Option Addr) (m c:Nat) (ok:Bool),e= .returned (.tuple #[.int .i64 t,.slice a m c,.bool ok])/\((m:Int)==2)=false:=by
 unfold zd2 at hn;cases hp:z2c k with
 | none =>
  rw[hp]at h;obtain⟨_,he⟩:=h;exact⟨0,none,0,0,false,he,by decide⟩
 | some y =>
  obtain⟨t,ns⟩:=y;rw[hp]at hn h;obtain⟨_,v,he,ho,_⟩:=h;obtain⟨a,c,rfl,_⟩:=ho.form;refine⟨t,a,ns.length,c,true,he,?_⟩;rw[beq_eq_false_iff_ne];intro e1;have h1:ns.length=2:=by omega
  match ns,h1 with
  | [_,_],_=>cases hn
theorem zri(W:World)(x:Int):z0w (W.alloc (.cells #[.int .i64 x] 3)) (.slice (some ⟨W.heap.size,0,none⟩) 1 1) [x]:=
 z3p (l:=[x]) fun j z hj=>by
  rw[cell_of_row _ _ _ _ _ _ (heap_alloc_new W _)]
  match j,hj with
  | 0,hj=>cases hj;rfl
end Go.Proofs.YtnkilceibkkjlaaGreat
namespace Go.Proofs.YtnkilceibkkjlaaGreat
open Go.RowKit
def St.left(s:St)(t:Int):W4:=s.amt (keyL 19 [t])
def sdC(a m:W4):Bool:=decide (uN a<M128)&&decide (uCmp m oneW<=0)
def sdW(a m:W4):W4:=if sdC a m then(if m=(0,0,0,0)then(0,0,0,0)else dnW a sqW m)else(0,0,0,0)
end Go.Proofs.YtnkilceibkkjlaaGreat
namespace Go.Proofs.YtnkilceibkkjlaaGreat
open Go.RowKit
def zy9:Ex:=⟨0,0,0,0,(0,0,0,0),(0,0,0,0)⟩
def St.exIs(s:St)(id:Int):Bool:=(rowOf (s.val (keyL 15 [id]))).length==4
def St.ex(s:St)(id:Int):Ex:=match rowOf (s.val (keyL 15 [id]))with
 | [a,b,c,d]=>⟨a,b,c,d,s.amt (keyL 17 [id]),s.amt (keyL 18 [id])⟩
 | _=>zy9
theorem QSt.row{w:World}{h:Hand}{s:St}{f:Nat}(hq:QSt w h s)(hf:s.Fit f)(hm:f<100000000000)(k:ByteArray):Calls Tryz.prog 75 #[.pointer h.ptr,.string k] w (z5i w (rowOf (s.val k))):=by
 have hr:=hq.read hf hm;obtain⟨ok,hg⟩:=hr.get k;exact zbg w h.ptr k _ ok hg (hr.vsz k)
theorem znp(w:World)(h:Hand)(s:St)(k:ByteArray)(n:Int)(hon:h.on=true)(hn:n<9223372036854775808)(hq:QSt w h s)(hz:s.size<1000000000000) :
  Calls Tryz.prog 114 #[.pointer h.ptr,.string k,.int .i64 n] w fun e w'=>e= .returned (.tuple #[])/\QOn w h (s.z2r k n) w':=by
 rcases hq with⟨_,b,hp,hS⟩ | ⟨h0,_⟩
 ·rw[hp];exact(zid w b s h.L k n hn hS hz).mono fun e w' ⟨he,L',h1,h2⟩=>⟨he,L',.inl ⟨hon,b,hp,h1⟩,h2⟩
 ·rw[hon]at h0;cases h0
def ptB(b:Nat)(a:W4):ByteArray:=numB b++amtB a
theorem zko{ops:Array Oper}{o:Oper}{a:Act}{w:World}{K:Value->World->Prop}{x:Operand}{g k:Nat}{n:Int}(hg:Region.wanted o (yielded ops a.tmps)=true)(ho:o.op= .load 3 x)(hx:a.eval x= .pointer (some ⟨g,k,none⟩))(hc:w.cell? ⟨g,k,none⟩=some (.int .i64 n))(hk:K (.int .i64 n) w):rgDo Tryz.prog ops o a w K:=by
 refine z0n hg ?_ hk;unfold execOp;simp only[ho,hx]
 go_simp
theorem zw4(w:World)(h:Hand)(s:St)(hon:h.on=true)(hq:QSt w h s):Calls Tryz.prog 66 #[.pointer h.ptr] w fun e w'=>e= .returned (.bool true)/\Below w.heap.size w w':=by
 rcases hq with⟨_,b,hp,hS⟩ | ⟨h0,_⟩
 ·rw[hp];exact(zfe w b true hS.cell0).mono fun e w' ⟨he,hw⟩=>⟨he,by subst hw;exact Below.refl _ _⟩
 ·rw[hon]at h0;cases h0
def St.hpL(s:St)(t:Nat)(l:List Int):Nat × W4:=hpt (s.val (keyL t (l ++ [((s.hlen t l:Nat):Int)-1])))
def St.hnew(s:St)(t:Nat)(l:List Int)(b:Nat)(a:W4):St:=(s.z2r (keyL t l) (((s.hlen t l:Nat):Int)+1)).set (keyL t (l ++ [((s.hlen t l:Nat):Int)])) (ptB b a)
def zzr(s:St)(t:Nat)(l:List Int)(b:Nat)(a:W4):St:=if 0<s.hlen t l then(if b<(s.hpL t l).1 then s else if b=(s.hpL t l).1 then s.set (keyL t (l ++ [((s.hlen t l:Nat):Int)-1])) (ptB b a)else if a=(s.hpL t l).2 then s else s.hnew t l b a)else s.hnew t l b a
end Go.Proofs.YtnkilceibkkjlaaGreat
