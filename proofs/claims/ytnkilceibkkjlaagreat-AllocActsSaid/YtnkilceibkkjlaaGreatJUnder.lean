/- What is proved here: plain facts on the entries under a b -/
import Derived.Test.YtnkilceibkkjlaaGreatJCell
import Derived.Laws.StructEq
set_option maxRecDepth 100000
set_option maxHeartbeats 16000000
namespace Go.Proofs.YtnkilceibkkjlaaGreat
theorem z4y{p k:ByteArray}:z2i p k=true↔p.data.toList <+: k.data.toList:=List.isPrefixOf_iff_prefix
theorem zjc(k:ByteArray):z2i ⟨#[]⟩ k=true:=by rw[z4y];exact List.nil_prefix
theorem zmj{p k:ByteArray}(h:z2i p k=true):¬ KLt k p:=by
 rw[z4y]at h;obtain⟨t,ht⟩:=h;unfold KLt;rw[<- ht];generalize p.data.toList=l
 induction l with
 | nil=>simp
 | cons x l ih=>simp[ih]
theorem zb1:∀ (p k k2:List UInt8),p<k->k<k2->p <+: k2->p <+: k
 | [],_,_,_,_,_=>List.nil_prefix
 | x::p,[],_,h,_,_=>by simp at h
 | x::p,y::k,[],_,h,_=>by simp at h
 | x::p,y::k,z::k2,h1,h2,h3=>by
  rw[List.cons_prefix_cons]at h3
  obtain⟨rfl,h3⟩:=h3
  rw[List.cons_lt_cons_iff]at h1 h2
  rcases h1 with h1 | ⟨rfl,h1⟩
  ·rcases h2 with h2 | ⟨rfl,h2⟩
   ·exact absurd (UInt8.lt_trans h1 h2) (UInt8.lt_irrefl _)
   ·exact absurd h1 (UInt8.lt_irrefl _)
  ·rcases h2 with h2 | ⟨_,h2⟩
   ·exact absurd h2 (UInt8.lt_irrefl _)
   ·rw[List.cons_prefix_cons]
    exact⟨rfl,zb1 p k k2 h1 h2 h3⟩
theorem zs5{p k k2:ByteArray}(h1:KLt p k)(h2:z2i p k=false)(h3:KLt k k2):z2i p k2=false:=by
 rw[Bool.eq_false_iff];intro h;rw[z4y]at h;have:=zb1 _ _ _ h1 h3 h;rw[<- z4y,h2]at this;cases this
def z0j(p:ByteArray)(l:List Ent):List Ent:=l.filter fun x=>z2i p x.1
theorem z5h(p:ByteArray)(a b:List Ent):z0j p (a++b)=z0j p a++z0j p b:=List.filter_append ..
theorem z4l(p:ByteArray)(l:List Ent):(z0j p l).length<=l.length:=List.length_filter_le _ _
theorem zm2(l:List Ent):z0j ⟨#[]⟩ l=l:=by
 unfold z0j;rw[List.filter_eq_self];intro x _;exact zjc x.1
theorem zdx{p:ByteArray}{l:List Ent}(h:∀ x∈l,z2i p x.1=false):z0j p l = []:=by
 unfold z0j;rw[List.filter_eq_nil_iff];intro x hx;rw[h x hx];simp
structure z3v (p:ByteArray) (l:List Ent) (n0 k:Nat) (out:List Ent):Prop where
 out:out=z0j p ((l.drop n0).take k)
 lo:∀ x∈l.take n0,z2i p x.1=false
 le:n0+k<=l.length
theorem z3v.start{p:ByteArray}{l:List Ent}{n0:Nat}(h:∀ x∈l.take n0,KLt x.1 p)(hn:n0<=l.length):z3v p l n0 0 []:=
 ⟨by simp[z0j],fun x hx=>by
  rw[Bool.eq_false_iff];intro h1;exact zmj h1 (h x hx),by omega⟩
theorem z3v.at{l:List Ent}{n0 k:Nat}(hk:n0+k<l.length):∃ x,l[n0+k]?=some x/\(l.drop n0).take (k+1)=(l.drop n0).take k ++ [x]:=by
 refine⟨l[n0+k],List.getElem?_eq_getElem hk,?_⟩;rw[List.take_add_one,List.getElem?_drop,List.getElem?_eq_getElem hk];rfl
theorem z3v.yes{p:ByteArray}{l:List Ent}{n0 k:Nat}{out:List Ent}(h:z3v p l n0 k out){x:Ent}(hx:l[n0+k]?=some x)(hp:z2i p x.1=true):z3v p l n0 (k+1) (out ++ [x]):=by
 have hk:n0+k<l.length:=(List.getElem?_eq_some_iff.1 hx).1;obtain⟨y,hy,e⟩:=z3v.at hk;rw[hx]at hy;cases hy;exact⟨by rw[e,z5h,h.out];simp[z0j,hp],h.lo,by omega⟩
theorem z3v.no{p:ByteArray}{l:List Ent}{n0 k:Nat}{out:List Ent}(h:z3v p l n0 k out){x:Ent}(hx:l[n0+k]?=some x)(hp:z2i p x.1=false):z3v p l n0 (k+1) out:=by
 have hk:n0+k<l.length:=(List.getElem?_eq_some_iff.1 hx).1;obtain⟨y,hy,e⟩:=z3v.at hk;rw[hx]at hy;cases hy;exact⟨by rw[e,z5h,h.out];simp[z0j,hp],h.lo,by omega⟩
theorem z3v.split{p:ByteArray}{l:List Ent}{n0 k:Nat}{out:List Ent}(h:z3v p l n0 k out):z0j p l=out++z0j p (l.drop (n0+k)):=by
 have e:l=l.take n0++((l.drop n0).take k++l.drop (n0+k)):=by
  rw[<- List.drop_drop,List.take_append_drop,List.take_append_drop]
 rw(config:={ occs:=.pos [1] }) [e];rw[z5h,z5h,zdx h.lo,h.out];rfl
theorem z3v.done{p:ByteArray}{l:List Ent}{n0 k:Nat}{out:List Ent}(h:z3v p l n0 k out)(hk:l.length<=n0+k):out=z0j p l:=by
 rw[h.split,List.drop_of_length_le hk];simp[z0j]
theorem z3v.stop{p:ByteArray}{l:List Ent}(hs:Sorted l){n0 k:Nat}{out:List Ent}(h:z3v p l n0 k out){x:Ent}(hx:l[n0+k]?=some x)(hp:z2i p x.1=false)(hlt:KLt p x.1):out=z0j p l:=by
 have hk:n0+k<l.length:=(List.getElem?_eq_some_iff.1 hx).1;rw[h.split,zdx,List.append_nil];intro y hy;obtain⟨j,hj,rfl⟩:=List.getElem_of_mem hy;rw[List.getElem_drop];have hxe:l[n0+k]=x:=(List.getElem?_eq_some_iff.1 hx).2;cases j with
 | zero=>simp only[Nat.add_zero,hxe];exact hp
 | succ j =>
  rw[List.length_drop]at hj;have:=List.pairwise_iff_getElem.1 hs (n0+k) (n0+k+(j+1)) hk (by omega) (by omega);rw[hxe]at this;exact zs5 hlt hp this
open Go.RowKit
section
variable {P:Program} {w:World} {t tk te:TypeId} {es:Array MapEntry} {ents:List Ent} {mb clk:Nat} (T:MapT P t tk te)
include T
theorem zdw(hm:w.heap[mb]?=some (.map es clk))(hr:MRep es ents)(hs:Sorted ents)(k:ByteArray) :
  (Instr.lookup t (.map (some mb)) (.string k) false).run P w= .ok (.string ((getE ents k).getD z08)) w:=by
 obtain⟨kv,h1,h2⟩:=hr;have hg:=z8c h2 hs k;obtain⟨i,hi,hz⟩:=Option.map_eq_some_iff.1 T.elem;have hck:=z3o T (w:=w) es.isEmpty 9999 k;have hfk:=z3x T (w:=w) k h1;have hgo:∀ {α:Type} (f:Obj->Sem α),Sem.run P (Sem.getObj mb f) w=(f (.map es clk)).run P w:=fun f=>by simp[Sem.run,hm]
 cases h:idxE kv k with
 | none =>
  rw[h]at hg hfk;simp only[Option.map_none]at hg hfk;simp[Instr.lookup,run_underlying T.und,getObj,hgo,hck,hfk,zeroValue,typeInfo,hi,hz,<- hg,z08]
 | some j =>
  rw[h]at hg hfk;simp only[Option.map_some]at hg hfk;simp[Instr.lookup,run_underlying T.und,getObj,hgo,hck,hfk,<- hg]
end
theorem zze{P:Program}{f:FuncId}{args:Array Value}{w:World}{n:Nat}{v:Value}(h:Calls P f args (w.drewN n) fun e w'=>e= .returned v/\w.drewN n=w'):Calls P f args (w.drewN n) fun e w''=>e= .returned v/\∃ m,w''=w.drewN m:=
 h.mono fun _ _ ⟨he,hm⟩=>⟨he,n,hm.symm⟩
def z2a(w:World)(l:List Ent)(e:Ending)(w':World):Prop:=∃ v,e= .returned v/\z4i w w' v l.length l
theorem below_drewN{w w1:World}{B:Nat}(h:Below B w w1)(n:Nat):Below B w (w1.drewN n):=⟨h.os,h.tape,h.output,h.size,h.block⟩
theorem zmk(bs:List Blk)(i q:Nat)(B:Blk)(y:ByteArray)(hi:bs[i]?=some B)(hq:B.keys[q]?=some y):(z02 bs)[(z02 (bs.take i)).length+q]?=some y:=by
 have hil:i<bs.length:=(List.getElem?_eq_some_iff.1 hi).1;have hB:bs[i]=B:=(List.getElem?_eq_some_iff.1 hi).2;have hql:q<B.keys.length:=(List.getElem?_eq_some_iff.1 hq).1;have e:z02 bs=z02 (bs.take i)++(B.keys++z02 (bs.drop (i+1))):=by
  rw[<- hB,<- z0x,<- z0r,<- List.drop_eq_getElem_cons hil,List.take_append_drop]
 rw[e,List.getElem?_append_right (by omega),Nat.add_sub_cancel_left,List.getElem?_append_left hql];exact hq
theorem zan(bs:List Blk)(i:Nat)(B:Blk)(hi:bs[i]?=some B):(z02 (bs.take (i+1))).length=(z02 (bs.take i)).length+B.keys.length:=by
 rw[take_one_more' bs i B hi,z0r,List.length_append,z0x,z6w,List.append_nil]
where
 take_one_more' (l:List Blk) (k:Nat) (x:Blk) (h:l[k]?=some x):l.take (k+1)=l.take k ++ [x]:=by
  rw[List.take_add_one,h];rfl
def z3d(w:World)(p:ByteArray)(l:List Ent)(n0:Nat)(k:Nat)(v:Value)(wr:World):Prop:=∃ out,z3v p l n0 k out/\z4i w wr v out.length out/\out.length<=l.length
theorem z3d.done{w:World}{p:ByteArray}{l:List Ent}{n0 k:Nat}{v:Value}{wr:World}(h:z3d w p l n0 k v wr)(hk:l.length<=n0+k):z2a w (z0j p l) (.returned v) wr:=by
 obtain⟨out,h1,hO,_⟩:=h;rw[<- h1.done hk]
 exact⟨v,rfl,hO⟩
theorem z3d.stop{w:World}{p:ByteArray}{l:List Ent}(hs:Sorted l){n0 k:Nat}{v:Value}{wr:World}(h:z3d w p l n0 k v wr){x:Ent}(hx:l[n0+k]?=some x)(hp:z2i p x.1=false)(hlt:KLt p x.1):z2a w (z0j p l) (.returned v) wr:=by
 obtain⟨out,h1,hO,_⟩:=h;rw[<- h1.stop hs hx hp hlt];exact⟨v,rfl,hO⟩
theorem z3d.no{w:World}{p:ByteArray}{l:List Ent}{n0 k:Nat}{v:Value}{wr:World}(h:z3d w p l n0 k v wr){x:Ent}(hx:l[n0+k]?=some x)(hp:z2i p x.1=false):z3d w p l n0 (k+1) v wr:=by
 obtain⟨out,h1,hO,h3⟩:=h;exact⟨out,h1.no hx hp,hO,h3⟩
theorem z3d.yes{w:World}{p:ByteArray}{l:List Ent}{n0 k:Nat}{v:Value}{wr:World}(h:z3d w p l n0 k v wr){x:Ent}(hx:l[n0+k]?=some x)(hp:z2i p x.1=true) :
  ∃ n xs,n<l.length/\Own (wr.alloc (.cells #[.string x.1,.string x.2] 156)) 156 2 v n xs /\
   ∀ v' w',z0s (wr.alloc (.cells #[.string x.1,.string x.2] 156)) 156 2 v n 1 xs [.string x.1,.string x.2] v' w'->z3d w p l n0 (k+1) v' w':=by
 obtain⟨out,h1,hO,h3⟩:=h;have h4:=h1.yes hx hp;have h5:(out ++ [x]).length<=l.length:=by
  rw[h4.out];refine Nat.le_trans (z4l _ _) ?_;rw[List.length_take,List.length_drop];omega
 refine⟨out.length,_,by rw[List.length_append]at h5;simp at h5;omega,(hO.alloc _).1,fun v' w' hA=>⟨out ++ [x],h4,?_,h5⟩⟩;have:=(hO.alloc _).next (l2:=[x]) hA
 simpa using this
theorem z3d.below{w:World}{p:ByteArray}{l:List Ent}{n0 k:Nat}{v:Value}{wr:World}(h:z3d w p l n0 k v wr):Below w.heap.size w wr:=by
 obtain⟨out,_,hO,_⟩:=h;exact hO.2.2
theorem zht(w:World)(b:Nat)(s:St)(L:List Nat)(p:ByteArray)(h:SRep w b s L)(hb:s.size<1000000000000) :
  Calls Tryz.prog 101 #[.pointer (some ⟨b,0,none⟩),.string p] w (z2a w (z0j p s.ents)):=by
 have hc0:=h.cell0;have hsrt:=h.srt;unfold St.size at hb;obtain⟨mb,es,clk,bv,pv,bs,h,rfl⟩:=h;obtain⟨_,hc1,hc2,_⟩:=z0p h.hd
 by_cases h0:bs = []
 ·subst h0;have he:s.ents = []:=by
   have:=h.fl;rw[z6w]at this;exact List.map_eq_nil_iff.1 this.symm
  have HE:Hid (z2a w (z0j p s.ents) (.returned (.slice none 0 0)) w):=by
   rw[he];exact⟨_,rfl,z4i.start w⟩
  obtain⟨a,c,rfl,_⟩:=h.ks.row.form;rw[List.length_nil]at hc2;generalize z2a w (z0j p s.ents)=R at *
  clear h he hb hsrt;go_enter Tryz.func101,Tryz.ntmps101;go_wp2_with (go_at_call 142;refine(za5 _ _ _ hc0).mono ?_;rintro e w' ⟨rfl,rfl⟩);exact HE.out
 ·have hpos:0<bs.length:=List.length_pos_iff.2 h0;have hkl:(z02 bs).length=s.ents.length:=by rw[h.fl,List.length_map]
  have hbl:bs.length<=s.ents.length:=by rw[<- hkl];exact z6c h.ks.ne
  obtain⟨g,c,hbv⟩:=h.ks.row.inv hpos;subst hbv;have hnc:bs.length<=c:=by
   rcases h.ks.row.2 with⟨h1,_⟩ | ⟨_,_,_,h1,_,h2,_⟩
   ·cases h1
   ·cases h1;exact h2
  have HF:=zh (fun w1 (hb1:w1.heap=w.heap)=>zge w1 b g c bs p (z4v h.ks.ne h.ks.srt) (by omega) hpos (by rw[World.cell?_of_block (w:=w) (a:=⟨b,2,none⟩) (by rw[hb1])];exact hc2) ((h.ks.frame (w':=w1) (fun k _=>by rw[hb1])).lasts (by omega)));obtain⟨A,x,C,hsplit,hA,hplace⟩:=place h.ks.ne h.ks.srt p hpos;generalize hi0:min (lb (bs.map Blk.last) p) (bs.length-1)=i0 at *
  have hi0l:i0<bs.length:=by omega
  have hlo:∀ y∈s.ents.take (z02 (bs.take i0)).length,KLt y.1 p:=by
   intro y hy;have e1:bs.take i0=A:=by rw[hsplit,<- hA];simp
   rw[e1]at hy;obtain⟨j,hj,rfl⟩:=List.getElem_of_mem hy;rw[List.length_take]at hj;rw[List.getElem_take];have hjl:j<(s.ents.map Prod.fst).length:=by rw[List.length_map];omega
   have:=(z2e hsrt.keys p j hjl).2 (by rw[<- h.fl,hplace];omega)
   rwa [List.getElem_map]at this
  have hn0:(z02 (bs.take i0)).length<=s.ents.length:=by
   rw[<- hkl];have e1:z02 bs=z02 (bs.take i0)++z02 (bs.drop i0):=by rw[<- z0r,List.take_append_drop]
   rw[e1,List.length_append];omega
  have HBLK:Hid (∀ j,i0+j<bs.length->∃ gb nk cb,nk<1000000000000/\(z02 (bs.take (i0+(j+1)))).length=(z02 (bs.take (i0+j))).length+nk /\
    (∀ wr,Below w.heap.size w wr->wr.cell? ⟨g,i0+j,none⟩=some (.slice (some ⟨gb,0,none⟩) nk cb)) /\
    (∀ q,q<nk->∃ e,s.ents[(z02 (bs.take (i0+j))).length+q]?=some e/\∀ wr,Below w.heap.size w wr->wr.cell? ⟨gb,q,none⟩=some (.string e.1))):=fun j hj=>by
   have hBj:bs[i0+j]?=some bs[i0+j]:=List.getElem?_eq_getElem hj;have hAt:=h.ks.rows _ (List.getElem_mem hj);have hlen:=z6x (List.getElem_mem hj);have hgl:g<w.heap.size:=h.ks.row.lt g rfl;refine⟨bs[i0+j].g,bs[i0+j].keys.length,bs[i0+j].cap,by omega,zan bs (i0+j) _ hBj,fun wr hbw => ?_,fun q hq => ?_⟩
   ·rw[hbw.cell (p:=⟨g,i0+j,none⟩) hgl];have:=h.ks.row.cells (g:=g) rfl (i0+j) bs[i0+j].val (by simp[hBj])
    rwa [Addr.add_lit,Nat.zero_add]at this
   ·have hy:bs[i0+j].keys[q]?=some bs[i0+j].keys[q]:=List.getElem?_eq_getElem hq;have hk:=zmk bs (i0+j) q _ _ hBj hy;rw[h.fl,List.getElem?_map]at hk;obtain⟨e,he,he1⟩:=Option.map_eq_some_iff.1 hk;refine⟨e,he,fun wr hbw => ?_⟩;rw[hbw.cell (p:=⟨bs[i0+j].g,q,none⟩) hAt.lt,he1];have:=hAt.2.cells (g:=bs[i0+j].g) rfl q (.string bs[i0+j].keys[q]) (by simp[strs,hy])
    rwa [Addr.add_lit,Nat.zero_add]at this
  have HLK:Hid (∀ (wr:World) (e:Ent) (n:Nat),Below w.heap.size w wr->s.ents[n]?=some e->wr.cell? ⟨b,1,none⟩=some (.map (some mb))/\(Instr.lookup 89 (.map (some mb)) (.string e.1) false).run Tryz.prog wr= .ok (.string e.2) wr):=fun wr e n hbw hn=>by
   have hmb:wr.heap[mb]?=some (.map es clk):=by rw[hbw.block mb (z01 h.mp)];exact h.mp
   refine⟨by rw[hbw.cell (p:=⟨b,1,none⟩) (z01 h.hd)];exact hc1,?_⟩;have:=zdw mapT hmb h.me hsrt e.1;rw[z1q hsrt (k:=e.1) (v:=e.2) (List.mem_of_getElem? hn)]at this;exact this
  have H0:Hid (∀ n,z3d w p s.ents (z02 (bs.take i0)).length 0 (.slice none 0 0) (w.drewN n)):=fun n=>⟨[],z3v.start hlo hn0,⟨Own.nil _ _ _,fun g hg=>by simp[Value.ownBlock]at hg,below_drewN zb n⟩,by simp⟩
  have hend:(z02 (bs.take bs.length)).length=s.ents.length:=by rw[List.take_length,hkl]
  have HEND:=zh hend;have HDONE:Hid (∀ k v wr,z3d w p s.ents (z02 (bs.take i0)).length k v wr->s.ents.length<=(z02 (bs.take i0)).length+k->z2a w (z0j p s.ents) (.returned v) wr):=fun k v wr hU hk=>hU.done hk
  have HSTOP:Hid (∀ k v wr e,z3d w p s.ents (z02 (bs.take i0)).length k v wr->s.ents[(z02 (bs.take i0)).length+k]?=some e->z2i p e.1=false->KLt p e.1->z2a w (z0j p s.ents) (.returned v) wr):=fun k v wr e hU he h1 h2=>hU.stop hsrt he h1 h2
  have hil1:(i0:Int)<=(bs.length:Int):=by omega
  have hic:¬ (c=i0):=by omega
  have hbl2:bs.length<1000000000000:=by omega
  have hel:s.ents.length<1000000000000:=by omega
  generalize z2a w (z0j p s.ents)=R at *
  generalize hposD:(fun j=>(z02 (bs.take j)).length)=pos at *
  have hpe:∀ j,(z02 (bs.take j)).length=pos j:=fun j=>by rw[<- hposD]
  simp only[hpe]at HBLK H0 HEND HDONE HSTOP;clear hpe hposD hend hlo hn0 hplace hsplit hA hi0 h hkl hbl hsrt h0 hb;generalize bs.length=nb at *
  have hnb0:((nb:Int)==0)=false:=by rw[beq_eq_false_iff_ne];omega
  have hi00:(0:Int)<=(i0:Int):=Int.natCast_nonneg _;go_enter Tryz.func101,Tryz.ntmps101;go_wp2_with (go_at_call 142;refine(za5 _ _ _ hc0).mono ?_;rintro e w' ⟨rfl,rfl⟩)
  go_quiet ((go_at_call 169;exact zze (HF.out _ rfl)))
  go_wp2_with fail;have HU0:=zh (H0.out nq);clear H0
  go_loopw [5,30] (fun v c wr=>∃ j k:Nat,c= .int .i64 j/\i0+j<=nb/\pos (i0+j)=pos i0+k/\z3d w p s.ents (pos i0) k v wr) (fun _ c _=>nb-(intOf c).toNat)
  case atStart=>exact⟨0,0,rfl,by omega,rfl,HU0.out⟩
  case round =>
   obtain⟨j,k,rfl,hj,hjk,hU⟩:=hrel;have HU:=zh hU;have HJK:=zh hjk;clear hU hjk HU0
   by_cases hlt:i0+j<nb
   ·obtain⟨gb,nk,cb,hnk,hnext,hcell,hkeys⟩:=HBLK.out j hlt;have hc:=hcell wr HU.out.below;have HNEXT:=zh hnext;have HKEYS:=zh hkeys;clear hnext hkeys hcell;have hjd:decide ((j:Int)<((nb-i0:Nat):Int))=true:=by simp;omega
    have hjn:j<nb-i0:=by omega
    go_wp2_with fail
    go_loopw [5,36] (fun v c w2=>∃ q k2:Nat,c= .int .i64 q/\q<=nk/\pos (i0+j)+q=pos i0+k2/\z3d w p s.ents (pos i0) k2 v w2) (fun _ c _=>nk-(intOf c).toNat)
    case atStart=>exact⟨0,k,rfl,by omega,by rw[HJK.out];rfl,HU.out⟩
    case round =>
     obtain⟨q,k2,rfl,hq,hqk,hU2⟩:=hrel;have HU2:=zh hU2;have HQK:=zh hqk;clear hU2 hqk
     by_cases hql:q<nk
     ·obtain⟨e,he,hcq⟩:=HKEYS.out q hql;have hc2:=hcq _ HU2.out.below;rw[HQK.out]at he;obtain⟨hcm,hlk⟩:=HLK.out _ e _ HU2.out.below he;have HE:=zh he;have HLKe:=zh hlk;have HHP:=zh (fun w=>zfq e.1 p w);clear hlk hcq;cases hp:z2i p e.1 with
      | true =>
       obtain⟨n,xs,hn,ho,hst⟩:=HU2.out.yes he hp;rw[hp]at HHP;have HO:=zh ho;have HST:=zh hst;have hmx:n+1<=maxLen:=by unfold maxLen;omega
       have hone:=zin e.1 e.2;have hnews:=zfo wr (.string e.1) (.string e.2) 156;clear ho hst he hp;generalize e.1=y at *
       generalize e.2=z at *
       go_wp2_with (first | (go_at_call 170;refine(HHP.out _).mono ?_;rintro e w' ⟨rfl,rfl⟩)|(with_reducible refine z0e (o:=⟨some 51,_,_,_,_,_⟩) rfl (.string z) wr ?hr ?k)|(at_builtin;refine z07 (o:=⟨some 54,_,_,_,_,_⟩) rfl (.tmp 44) (.tmp 53) 42 42 rfl pairT pairT _ n xs rfl HO.out _ 1 _ [.string y,.string z] rfl rfl hnews hone hmx (by omega) ?_))
       case hr =>
        refine z2m (x:=.tmp 49) (k:=.tmp 50) (t:=89) (ok:=false) (m:=.map (some mb)) (kv:=.string y) ?_ ?_ ?_ ?_
        ·rfl
        ·rfl
        ·rfl
        ·exact HLKe.out
       intro v' w3 hA;have HU3:=zh (HST.out v' w3 hA);clear hA;go_wp2;go_roundw
       case rel=>exact⟨q+1,k2+1,by go_num,by omega,by have:=HQK.out;omega,HU3.out⟩
       case measure=>simp[intOf];omega
      | false =>
       rw[hp]at HHP
       by_cases hk:KLt p e.1
       ·have hR:=HSTOP.out k2 _ _ e HU2.out he hp hk;have HR:=zh hR;have hb1:Op.bytesLess e.1.toList p.toList=false:=by rw[z3y];simpa using hk.asymm
        have hb2:(e.1.toList==p.toList)=false:=by rw[z2s];simpa using hk.ne.symm
        clear hR he hp hk;generalize e.1=y at *
        go_wp2_with (go_at_call 170;refine(HHP.out _).mono ?_;rintro e w' ⟨rfl,rfl⟩);exact HR.out
       ·have HU3:=zh (HU2.out.no he hp);have hyp:KLt e.1 p:=by
         by_cases h1:KLt e.1 p
         ·exact h1
         ·exfalso;have e2:e.1=p:=KLt.eq h1 hk;rw[e2]at hp;have:z2i p p=true:=by rw[z4y];exact List.prefix_rfl
          rw[this]at hp;cases hp
        have hb1:Op.bytesLess e.1.toList p.toList=true:=by rw[z3y];simpa using hyp
        clear hyp;clear he hp hk;generalize e.1=y at *
        go_wp2_with (go_at_call 170;refine(HHP.out _).mono ?_;rintro e w' ⟨rfl,rfl⟩);go_roundw
        case rel=>exact⟨q+1,k2+1,by go_num,by omega,by have:=HQK.out;omega,HU3.out⟩
        case measure=>simp[intOf];omega
     ·obtain rfl:q=nk:=by omega
      go_wp2;go_roundw
      case rel=>exact⟨j+1,k2,by go_num,by omega,by rw[HNEXT.out,HQK.out],HU2.out⟩
      case measure=>simp[intOf];omega
   ·have hR:=HDONE.out k _ _ HU.out (by
     have h1:=HEND.out;have h2:=HJK.out;rw[show i0+j=nb by omega]at h2
     omega)
    have HR:=zh hR;have hjd:decide ((j:Int)<((nb-i0:Nat):Int))=false:=by simp;omega
    have hjn:¬ (j<nb-i0):=by omega
    clear hR;go_wp2;exact HR.out
theorem zx0(w:World)(b:Nat)(s:St)(L:List Nat)(h:SRep w b s L)(hb:s.size<1000000000000) :
  Calls Tryz.prog 36 #[.pointer (some ⟨b,0,none⟩)] w (z2a w s.ents):=by
 have HU:=zh (zht w b s L ⟨#[]⟩ h hb);rw[zm2]at HU;have HQ:Hid (∀ e w',z2a w s.ents e w'->∃ a n c,e= .returned (.slice a n c)/\z2a w s.ents (.returned (.slice a n c)) w'):=fun e w' h=>by
  obtain⟨v,rfl,hO⟩:=h;obtain⟨_,a,c,rfl,_⟩:=hO.1.src;exact⟨a,_,c,rfl,_,rfl,hO⟩
 generalize z2a w s.ents=R at *
 clear h hb;go_enter Tryz.func36,Tryz.ntmps36;go_wp2_with (go_at_call 101;refine HU.out.mono ?_;intro e w' hR;obtain⟨a,n,c,rfl,hR2⟩:=HQ.out _ _ hR);exact hR2
structure z6p (w:World) (a:Option Addr) (l:List Ent):Prop where
 at0:∀ k x,l[k]?=some x->∃ g,a=some ⟨g,0,none⟩/\w.cell? ⟨g,k*2,none⟩=some (.string x.1)/\w.cell? ⟨g,k*2+1,none⟩=some (.string x.2)
theorem Own.pairs{w:World}{v:Value}{l:List Ent}{n:Nat}(h:Own w 156 2 v n (z1w l)):∃ a c,v= .slice a n c/\z6p w a l:=by
 obtain⟨a,c,rfl,hc⟩:=h.form;refine⟨a,c,rfl,⟨fun k x hk => ?_⟩⟩;obtain⟨h1,h2⟩:=z9o _ k x hk;obtain⟨g,rfl,e1⟩:=hc _ _ h1;obtain⟨g',e,e2⟩:=hc _ _ h2;cases e;exact⟨g,rfl,e1,e2⟩
theorem z6p.to{w w':World}{a:Option Addr}{l:List Ent}(h:z6p w a l)(hh:w'.heap=w.heap):z6p w' a l:=
 ⟨fun k x hk=>by
  obtain⟨g,h1,h2,h3⟩:=h.at0 k x hk
  exact⟨g,h1,by rw[World.cell?_of_block (w:=w) (by rw[hh])];exact h2,by rw[World.cell?_of_block (w:=w) (by rw[hh])];exact h3⟩⟩
theorem zsr(w:World)(a1 a2:Option Addr)(c1 c2:Nat)(l1 l2:List Ent)(h1:z6p w a1 l1)(h2:z6p w a2 l2)(hl:l1.length<1000000000000) :
  Calls Tryz.prog 35 #[.slice a1 l1.length c1,.slice a2 l2.length c2] w fun e w'=>e= .returned (.bool (decide (l1=l2)))/\∃ n,w.drewN n=w':=by
 by_cases hn:l1.length=l2.length
 ·have hne:(((l1.length:Int)) != (l2.length:Int))=false:=by rw[bne_eq_false_iff_eq];omega
  have H1:=zh (fun (w':World) (hh:w'.heap=w.heap)=>(h1.to hh).at0);have H2:=zh (fun (w':World) (hh:w'.heap=w.heap)=>(h2.to hh).at0);have HN:=zh hn;rw[<- hn]at hne ⊢;have hne:(((l1.length:Int)) != (l1.length:Int))=false:=by simp
  clear h1 h2 hn;have hget1:∀ k,k<l1.length->∃ x,l1[k]?=some x:=fun k hk=>⟨_,List.getElem?_eq_getElem hk⟩
  have hget2:∀ k,k<l1.length->∃ x,l2[k]?=some x:=fun k hk=>⟨l2[k]'(by rw[<- HN.out];exact hk),List.getElem?_eq_getElem _⟩
  have HG1:=zh hget1;have HG2:=zh hget2;clear hget1 hget2;generalize hm:l1.length=n at *
  have HM:=zh hm;clear hm;go_enter Tryz.func35,Tryz.ntmps35;go_wp2_with fail
  go_loopw [13] (fun i wr=>∃ k q:Nat,i= .int .i64 k/\k<=n/\l1.take k=l2.take k/\w.drewN q=wr) (fun i _=>n-(intOf i).toNat)
  case atStart=>exact⟨0,0,rfl,by omega,rfl,rfl⟩
  case round =>
   obtain⟨k,q,rfl,hk,htk,hw⟩:=hrel;have HT:=zh htk;have HW:Hid (wr.heap=w.heap):=by subst hw;exact(rfl:(w.drewN q).heap=w.heap)
   have HWE:=zh hw;clear htk hw
   by_cases hlt:k<n
   ·obtain⟨x,hx⟩:=HG1.out k hlt;obtain⟨y,hy⟩:=HG2.out k hlt;obtain⟨g1,rfl,e1,e2⟩:=H1.out wr HW.out k x hx;obtain⟨g2,rfl,e3,e4⟩:=H2.out wr HW.out k y hy;have HX:=zh hx;have HY:=zh hy;have hk0:(0:Int)<=(k:Int):=Int.natCast_nonneg _;have hk1:(k:Int)<(n:Int):=by omega
    clear hx hy
    by_cases hxy:x=y
    ·subst hxy;have b1:(x.1.toList==x.1.toList)=true:=by simp
     have b2:(x.2.toList==x.2.toList)=true:=by simp
     have HT2:Hid (l1.take (k+1)=l2.take (k+1)):=by
      show _=_
      rw[List.take_add_one,List.take_add_one,HT.out,HX.out,HY.out]
     generalize x.1=s1 at *
     generalize x.2=s2 at *
     go_wp2_with fail
     go_quiet (fail)
     go_wp2;go_roundw
     case rel=>exact⟨k+1,q+_,by go_num,by omega,HT2.out,by rw[<- HWE.out,World.drewN_drewN]⟩
     case measure=>simp[intOf];omega
    ·have hne2:l1≠l2:=fun e=>by
      have h1:=HX.out;rw[e,HY.out]at h1;exact hxy (Option.some.inj h1).symm
     have HF:Hid (decide (l1=l2)=false):=by show _=_;simpa using hne2
     by_cases h1:x.1=y.1
     ·have b1:(x.1.toList==y.1.toList)=true:=by rw[z2s];simpa using h1
      have b2:(x.2.toList==y.2.toList)=false:=by
       rw[z2s,decide_eq_false_iff_not];intro e;exact hxy (Prod.ext h1 e)
      clear h1 hxy hne2;generalize x.1=s1 at *
      generalize x.2=s2 at *
      generalize y.1=s3 at *
      generalize y.2=s4 at *
      go_wp2_with fail
      go_quiet (fail)
      go_wp2;go_ret;exact⟨z8a HF.out.symm,q+_,by rw[<- HWE.out,World.drewN_drewN]⟩
     ·have b1:(x.1.toList==y.1.toList)=false:=by rw[z2s];simpa using h1
      clear h1 hxy hne2;generalize x.1=s1 at *
      generalize x.2=s2 at *
      generalize y.1=s3 at *
      generalize y.2=s4 at *
      go_wp2_with fail
      go_quiet (fail)
      go_wp2;go_ret;exact⟨z8a HF.out.symm,q+_,by rw[<- HWE.out,World.drewN_drewN]⟩
   ·obtain rfl:k=n:=by omega
    have HTT:Hid (decide (l1=l2)=true):=by
     show _=_
     have h1:=HT.out;rw[List.take_of_length_le (by rw[HM.out];exact Nat.le_refl _),List.take_of_length_le (by rw[<- HN.out];exact Nat.le_refl _)]at h1
     simpa using h1
    go_wp2;go_ret;exact⟨z8a HTT.out.symm,q,HWE.out⟩
 ·have hne:(((l1.length:Int)) != (l2.length:Int))=true:=by rw[bne_iff_ne];omega
  have HF:Hid (decide (l1=l2)=false):=by
   show _=_
   rw[decide_eq_false_iff_not];intro e;exact hn (by rw[e])
  generalize decide (l1=l2)=r at *
  clear h1 h2 hn;generalize l1.length=n1 at *
  generalize l2.length=n2 at *
  go_enter Tryz.func35,Tryz.ntmps35;go_wp2;go_ret;exact⟨z8a HF.out.symm,0,rfl⟩
end Go.Proofs.YtnkilceibkkjlaaGreat
