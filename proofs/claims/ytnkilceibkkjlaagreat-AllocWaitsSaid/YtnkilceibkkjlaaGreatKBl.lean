/- What is proved here: plain facts on the entries under a b -/
import Derived.Test.YtnkilceibkkjlaaGreatKCell
import Derived.Laws.StructEq
import Derived.Laws.ResultCell
import Derived.Laws.Rows
set_option maxRecDepth 100000
set_option maxHeartbeats 16000000
namespace Go.Proofs.YtnkilceibkkjlaaGreat
theorem z5k{p k:ByteArray}:z2k p k=true↔p.data.toList <+: k.data.toList:=List.isPrefixOf_iff_prefix
theorem zm4{p k:ByteArray}(h:z2k p k=true):¬ KLt k p:=by
 rw[z5k]at h;obtain⟨t,ht⟩:=h;unfold KLt;rw[<- ht];generalize p.data.toList=l
 induction l with
 | nil=>simp
 | cons x l ih=>simp[ih]
theorem zax:∀ (p k k2:List UInt8),p<k->k<k2->p <+: k2->p <+: k
 | [],_,_,_,_,_=>List.nil_prefix
 | x::p,[],_,h,_,_=>by simp at h
 | x::p,y::k,[],_,h,_=>by simp at h
 | x::p,y::k,z::k2,h1,h2,h3=>by
  rw[List.cons_prefix_cons]at h3
  obtain⟨rfl,h3⟩:=h3
  rw[List.cons_lt_cons_iff]at h1 h2
  rcases h1 with h1 | ⟨rfl,h1⟩
  ·rcases h2 with h2 | ⟨rfl,h2⟩
   ·exact absurd (UInt8.lt_trans h1 h2) (UInt8.lt_irrefl _)
   ·exact absurd h1 (UInt8.lt_irrefl _)
  ·rcases h2 with h2 | ⟨_,h2⟩
   ·exact absurd h2 (UInt8.lt_irrefl _)
   ·rw[List.cons_prefix_cons]
    exact⟨rfl,zax p k k2 h1 h2 h3⟩
theorem zr7{p k k2:ByteArray}(h1:KLt p k)(h2:z2k p k=false)(h3:KLt k k2):z2k p k2=false:=by
 rw[Bool.eq_false_iff];intro h;rw[z5k]at h;have:=zax _ _ _ h1 h3 h;rw[<- z5k,h2]at this;cases this
def z0o(p:ByteArray)(l:List Ent):List Ent:=l.filter fun x=>z2k p x.1
theorem z5a(p:ByteArray)(a b:List Ent):z0o p (a++b)=z0o p a++z0o p b:=List.filter_append ..
theorem z6f(p:ByteArray)(l:List Ent):(z0o p l).length<=l.length:=List.length_filter_le _ _
theorem zdk{p:ByteArray}{l:List Ent}(h:∀ x∈l,z2k p x.1=false):z0o p l = []:=by
 unfold z0o;rw[List.filter_eq_nil_iff];intro x hx;rw[h x hx];simp
structure z3z (p:ByteArray) (l:List Ent) (n0 k:Nat) (out:List Ent):Prop where
 out:out=z0o p ((l.drop n0).take k)
 lo:∀ x∈l.take n0,z2k p x.1=false
 le:n0+k<=l.length
theorem z3z.start{p:ByteArray}{l:List Ent}{n0:Nat}(h:∀ x∈l.take n0,KLt x.1 p)(hn:n0<=l.length):z3z p l n0 0 []:=
 ⟨by simp[z0o],fun x hx=>by
  rw[Bool.eq_false_iff];intro h1;exact zm4 h1 (h x hx),by omega⟩
theorem z3z.at{l:List Ent}{n0 k:Nat}(hk:n0+k<l.length):∃ x,l[n0+k]?=some x/\(l.drop n0).take (k+1)=(l.drop n0).take k ++ [x]:=by
 refine⟨l[n0+k],List.getElem?_eq_getElem hk,?_⟩;rw[List.take_add_one,List.getElem?_drop,List.getElem?_eq_getElem hk];rfl
theorem z3z.yes{p:ByteArray}{l:List Ent}{n0 k:Nat}{out:List Ent}(h:z3z p l n0 k out){x:Ent}(hx:l[n0+k]?=some x)(hp:z2k p x.1=true):z3z p l n0 (k+1) (out ++ [x]):=by
 have hk:n0+k<l.length:=(List.getElem?_eq_some_iff.1 hx).1;obtain⟨y,hy,e⟩:=z3z.at hk;rw[hx]at hy;cases hy;exact⟨by rw[e,z5a,h.out];simp[z0o,hp],h.lo,by omega⟩
theorem z3z.no{p:ByteArray}{l:List Ent}{n0 k:Nat}{out:List Ent}(h:z3z p l n0 k out){x:Ent}(hx:l[n0+k]?=some x)(hp:z2k p x.1=false):z3z p l n0 (k+1) out:=by
 have hk:n0+k<l.length:=(List.getElem?_eq_some_iff.1 hx).1;obtain⟨y,hy,e⟩:=z3z.at hk;rw[hx]at hy;cases hy;exact⟨by rw[e,z5a,h.out];simp[z0o,hp],h.lo,by omega⟩
theorem z3z.split{p:ByteArray}{l:List Ent}{n0 k:Nat}{out:List Ent}(h:z3z p l n0 k out):z0o p l=out++z0o p (l.drop (n0+k)):=by
 have e:l=l.take n0++((l.drop n0).take k++l.drop (n0+k)):=by
  rw[<- List.drop_drop,List.take_append_drop,List.take_append_drop]
 rw(config:={ occs:=.pos [1] }) [e];rw[z5a,z5a,zdk h.lo,h.out];rfl
theorem z3z.done{p:ByteArray}{l:List Ent}{n0 k:Nat}{out:List Ent}(h:z3z p l n0 k out)(hk:l.length<=n0+k):out=z0o p l:=by
 rw[h.split,List.drop_of_length_le hk];simp[z0o]
theorem z3z.stop{p:ByteArray}{l:List Ent}(hs:Sorted l){n0 k:Nat}{out:List Ent}(h:z3z p l n0 k out){x:Ent}(hx:l[n0+k]?=some x)(hp:z2k p x.1=false)(hlt:KLt p x.1):out=z0o p l:=by
 have hk:n0+k<l.length:=(List.getElem?_eq_some_iff.1 hx).1;rw[h.split,zdk,List.append_nil];intro y hy;obtain⟨j,hj,rfl⟩:=List.getElem_of_mem hy;rw[List.getElem_drop];have hxe:l[n0+k]=x:=(List.getElem?_eq_some_iff.1 hx).2;cases j with
 | zero=>simp only[Nat.add_zero,hxe];exact hp
 | succ j =>
  rw[List.length_drop]at hj;have:=List.pairwise_iff_getElem.1 hs (n0+k) (n0+k+(j+1)) hk (by omega) (by omega);rw[hxe]at this;exact zr7 hlt hp this
open Go.RowKit
section
variable {P:Program} {w:World} {t tk te:TypeId} {es:Array MapEntry} {ents:List Ent} {mb clk:Nat} (T:MapT P t tk te)
include T
theorem zcj(hm:w.heap[mb]?=some (.map es clk))(hr:MRep es ents)(hs:Sorted ents)(k:ByteArray) :
  (Instr.lookup t (.map (some mb)) (.string k) false).run P w= .ok (.string ((getE ents k).getD z05)) w:=by
 obtain⟨kv,h1,h2⟩:=hr;have hg:=z7y h2 hs k;obtain⟨i,hi,hz⟩:=Option.map_eq_some_iff.1 T.elem;have hck:=z3n T (w:=w) es.isEmpty 9999 k;have hfk:=z3u T (w:=w) k h1;have hgo:∀ {α:Type} (f:Obj->Sem α),Sem.run P (Sem.getObj mb f) w=(f (.map es clk)).run P w:=fun f=>by simp[Sem.run,hm]
 cases h:idxE kv k with
 | none =>
  rw[h]at hg hfk;simp only[Option.map_none]at hg hfk;simp[Instr.lookup,run_underlying T.und,getObj,hgo,hck,hfk,zeroValue,typeInfo,hi,hz,<- hg,z05]
 | some j =>
  rw[h]at hg hfk;simp only[Option.map_some]at hg hfk;simp[Instr.lookup,run_underlying T.und,getObj,hgo,hck,hfk,<- hg]
end
theorem zxm{P:Program}{f:FuncId}{args:Array Value}{w:World}{n:Nat}{v:Value}(h:Calls P f args (w.drewN n) fun e w'=>e= .returned v/\w.drewN n=w'):Calls P f args (w.drewN n) fun e w''=>e= .returned v/\∃ m,w''=w.drewN m:=
 h.mono fun _ _ ⟨he,hm⟩=>⟨he,n,hm.symm⟩
def z3b(w:World)(l:List Ent)(e:Ending)(w':World):Prop:=∃ v,e= .returned v/\z4f w w' v l.length l
theorem below_drewN{w w1:World}{B:Nat}(h:Below B w w1)(n:Nat):Below B w (w1.drewN n):=⟨h.os,h.tape,h.output,h.size,h.block⟩
theorem zlm(bs:List Blk)(i q:Nat)(B:Blk)(y:ByteArray)(hi:bs[i]?=some B)(hq:B.keys[q]?=some y):(z01 bs)[(z01 (bs.take i)).length+q]?=some y:=by
 have hil:i<bs.length:=(List.getElem?_eq_some_iff.1 hi).1;have hB:bs[i]=B:=(List.getElem?_eq_some_iff.1 hi).2;have hql:q<B.keys.length:=(List.getElem?_eq_some_iff.1 hq).1;have e:z01 bs=z01 (bs.take i)++(B.keys++z01 (bs.drop (i+1))):=by
  rw[<- hB,<- z0y,<- z0r,<- List.drop_eq_getElem_cons hil,List.take_append_drop]
 rw[e,List.getElem?_append_right (by omega),Nat.add_sub_cancel_left,List.getElem?_append_left hql];exact hq
theorem zaa(bs:List Blk)(i:Nat)(B:Blk)(hi:bs[i]?=some B):(z01 (bs.take (i+1))).length=(z01 (bs.take i)).length+B.keys.length:=by
 rw[take_one_more' bs i B hi,z0r,List.length_append,z0y,z6y,List.append_nil]
where
 take_one_more' (l:List Blk) (k:Nat) (x:Blk) (h:l[k]?=some x):l.take (k+1)=l.take k ++ [x]:=by
  rw[List.take_add_one,h];rfl
def z2z(w:World)(p:ByteArray)(l:List Ent)(n0:Nat)(k:Nat)(v:Value)(wr:World):Prop:=∃ out,z3z p l n0 k out/\z4f w wr v out.length out/\out.length<=l.length
theorem z2z.done{w:World}{p:ByteArray}{l:List Ent}{n0 k:Nat}{v:Value}{wr:World}(h:z2z w p l n0 k v wr)(hk:l.length<=n0+k):z3b w (z0o p l) (.returned v) wr:=by
 obtain⟨out,h1,hO,_⟩:=h;rw[<- h1.done hk]
 exact⟨v,rfl,hO⟩
theorem z2z.stop{w:World}{p:ByteArray}{l:List Ent}(hs:Sorted l){n0 k:Nat}{v:Value}{wr:World}(h:z2z w p l n0 k v wr){x:Ent}(hx:l[n0+k]?=some x)(hp:z2k p x.1=false)(hlt:KLt p x.1):z3b w (z0o p l) (.returned v) wr:=by
 obtain⟨out,h1,hO,_⟩:=h;rw[<- h1.stop hs hx hp hlt];exact⟨v,rfl,hO⟩
theorem z2z.no{w:World}{p:ByteArray}{l:List Ent}{n0 k:Nat}{v:Value}{wr:World}(h:z2z w p l n0 k v wr){x:Ent}(hx:l[n0+k]?=some x)(hp:z2k p x.1=false):z2z w p l n0 (k+1) v wr:=by
 obtain⟨out,h1,hO,h3⟩:=h;exact⟨out,h1.no hx hp,hO,h3⟩
theorem z2z.yes{w:World}{p:ByteArray}{l:List Ent}{n0 k:Nat}{v:Value}{wr:World}(h:z2z w p l n0 k v wr){x:Ent}(hx:l[n0+k]?=some x)(hp:z2k p x.1=true) :
  ∃ n xs,n<l.length/\Own (wr.alloc (.cells #[.string x.1,.string x.2] 156)) 156 2 v n xs /\
   ∀ v' w',z0s (wr.alloc (.cells #[.string x.1,.string x.2] 156)) 156 2 v n 1 xs [.string x.1,.string x.2] v' w'->z2z w p l n0 (k+1) v' w':=by
 obtain⟨out,h1,hO,h3⟩:=h;have h4:=h1.yes hx hp;have h5:(out ++ [x]).length<=l.length:=by
  rw[h4.out];refine Nat.le_trans (z6f _ _) ?_;rw[List.length_take,List.length_drop];omega
 refine⟨out.length,_,by rw[List.length_append]at h5;simp at h5;omega,(hO.alloc _).1,fun v' w' hA=>⟨out ++ [x],h4,?_,h5⟩⟩;have:=(hO.alloc _).next (l2:=[x]) hA
 simpa using this
theorem z2z.below{w:World}{p:ByteArray}{l:List Ent}{n0 k:Nat}{v:Value}{wr:World}(h:z2z w p l n0 k v wr):Below w.heap.size w wr:=by
 obtain⟨out,_,hO,_⟩:=h;exact hO.2.2
theorem zom(w:World)(b:Nat)(s:St)(L:List Nat)(p:ByteArray)(h:SRep w b s L)(hb:s.size<1000000000000) :
  Calls Tryz.prog 101 #[.pointer (some ⟨b,0,none⟩),.string p] w (z3b w (z0o p s.ents)):=by
 have hc0:=h.cell0;have hsrt:=h.srt;unfold St.size at hb;obtain⟨mb,es,clk,bv,pv,bs,h,rfl⟩:=h;obtain⟨_,hc1,hc2,_⟩:=z0q h.hd
 by_cases h0:bs = []
 ·subst h0;have he:s.ents = []:=by
   have:=h.fl;rw[z6y]at this;exact List.map_eq_nil_iff.1 this.symm
  have HE:Hid (z3b w (z0o p s.ents) (.returned (.slice none 0 0)) w):=by
   rw[he];exact⟨_,rfl,z4f.start w⟩
  obtain⟨a,c,rfl,_⟩:=h.ks.row.form;rw[List.length_nil]at hc2;generalize z3b w (z0o p s.ents)=R at *
  clear h he hb hsrt;go_enter Tryz.func101,Tryz.ntmps101;go_wp2_with (go_at_call 142;refine(z9h _ _ _ hc0).mono ?_;rintro e w' ⟨rfl,rfl⟩);exact HE.out
 ·have hpos:0<bs.length:=List.length_pos_iff.2 h0;have hkl:(z01 bs).length=s.ents.length:=by rw[h.fl,List.length_map]
  have hbl:bs.length<=s.ents.length:=by rw[<- hkl];exact z5x h.ks.ne
  obtain⟨g,c,hbv⟩:=h.ks.row.inv hpos;subst hbv;have hnc:bs.length<=c:=by
   rcases h.ks.row.2 with⟨h1,_⟩ | ⟨_,_,_,h1,_,h2,_⟩
   ·cases h1
   ·cases h1;exact h2
  have HF:=zh (fun w1 (hb1:w1.heap=w.heap)=>zgl w1 b g c bs p (z4o h.ks.ne h.ks.srt) (by omega) hpos (by rw[World.cell?_of_block (w:=w) (a:=⟨b,2,none⟩) (by rw[hb1])];exact hc2) ((h.ks.frame (w':=w1) (fun k _=>by rw[hb1])).lasts (by omega)));obtain⟨A,x,C,hsplit,hA,hplace⟩:=place h.ks.ne h.ks.srt p hpos;generalize hi0:min (lb (bs.map Blk.last) p) (bs.length-1)=i0 at *
  have hi0l:i0<bs.length:=by omega
  have hlo:∀ y∈s.ents.take (z01 (bs.take i0)).length,KLt y.1 p:=by
   intro y hy;have e1:bs.take i0=A:=by rw[hsplit,<- hA];simp
   rw[e1]at hy;obtain⟨j,hj,rfl⟩:=List.getElem_of_mem hy;rw[List.length_take]at hj;rw[List.getElem_take];have hjl:j<(s.ents.map Prod.fst).length:=by rw[List.length_map];omega
   have:=(z2d hsrt.keys p j hjl).2 (by rw[<- h.fl,hplace];omega)
   rwa [List.getElem_map]at this
  have hn0:(z01 (bs.take i0)).length<=s.ents.length:=by
   rw[<- hkl];have e1:z01 bs=z01 (bs.take i0)++z01 (bs.drop i0):=by rw[<- z0r,List.take_append_drop]
   rw[e1,List.length_append];omega
  have HBLK:Hid (∀ j,i0+j<bs.length->∃ gb nk cb,nk<1000000000000/\(z01 (bs.take (i0+(j+1)))).length=(z01 (bs.take (i0+j))).length+nk /\
    (∀ wr,Below w.heap.size w wr->wr.cell? ⟨g,i0+j,none⟩=some (.slice (some ⟨gb,0,none⟩) nk cb)) /\
    (∀ q,q<nk->∃ e,s.ents[(z01 (bs.take (i0+j))).length+q]?=some e/\∀ wr,Below w.heap.size w wr->wr.cell? ⟨gb,q,none⟩=some (.string e.1))):=fun j hj=>by
   have hBj:bs[i0+j]?=some bs[i0+j]:=List.getElem?_eq_getElem hj;have hAt:=h.ks.rows _ (List.getElem_mem hj);have hlen:=z6s (List.getElem_mem hj);have hgl:g<w.heap.size:=h.ks.row.lt g rfl;refine⟨bs[i0+j].g,bs[i0+j].keys.length,bs[i0+j].cap,by omega,zaa bs (i0+j) _ hBj,fun wr hbw => ?_,fun q hq => ?_⟩
   ·rw[hbw.cell (p:=⟨g,i0+j,none⟩) hgl];have:=h.ks.row.cells (g:=g) rfl (i0+j) bs[i0+j].val (by simp[hBj])
    rwa [Addr.add_lit,Nat.zero_add]at this
   ·have hy:bs[i0+j].keys[q]?=some bs[i0+j].keys[q]:=List.getElem?_eq_getElem hq;have hk:=zlm bs (i0+j) q _ _ hBj hy;rw[h.fl,List.getElem?_map]at hk;obtain⟨e,he,he1⟩:=Option.map_eq_some_iff.1 hk;refine⟨e,he,fun wr hbw => ?_⟩;rw[hbw.cell (p:=⟨bs[i0+j].g,q,none⟩) hAt.lt,he1];have:=hAt.2.cells (g:=bs[i0+j].g) rfl q (.string bs[i0+j].keys[q]) (by simp[strs,hy])
    rwa [Addr.add_lit,Nat.zero_add]at this
  have HLK:Hid (∀ (wr:World) (e:Ent) (n:Nat),Below w.heap.size w wr->s.ents[n]?=some e->wr.cell? ⟨b,1,none⟩=some (.map (some mb))/\(Instr.lookup 89 (.map (some mb)) (.string e.1) false).run Tryz.prog wr= .ok (.string e.2) wr):=fun wr e n hbw hn=>by
   have hmb:wr.heap[mb]?=some (.map es clk):=by rw[hbw.block mb (z02 h.mp)];exact h.mp
   refine⟨by rw[hbw.cell (p:=⟨b,1,none⟩) (z02 h.hd)];exact hc1,?_⟩;have:=zcj mapT hmb h.me hsrt e.1;rw[z1o hsrt (k:=e.1) (v:=e.2) (List.mem_of_getElem? hn)]at this;exact this
  have H0:Hid (∀ n,z2z w p s.ents (z01 (bs.take i0)).length 0 (.slice none 0 0) (w.drewN n)):=fun n=>⟨[],z3z.start hlo hn0,⟨Own.nil _ _ _,fun g hg=>by simp[Value.ownBlock]at hg,below_drewN zb n⟩,by simp⟩
  have hend:(z01 (bs.take bs.length)).length=s.ents.length:=by rw[List.take_length,hkl]
  have HEND:=zh hend;have HDONE:Hid (∀ k v wr,z2z w p s.ents (z01 (bs.take i0)).length k v wr->s.ents.length<=(z01 (bs.take i0)).length+k->z3b w (z0o p s.ents) (.returned v) wr):=fun k v wr hU hk=>hU.done hk
  have HSTOP:Hid (∀ k v wr e,z2z w p s.ents (z01 (bs.take i0)).length k v wr->s.ents[(z01 (bs.take i0)).length+k]?=some e->z2k p e.1=false->KLt p e.1->z3b w (z0o p s.ents) (.returned v) wr):=fun k v wr e hU he h1 h2=>hU.stop hsrt he h1 h2
  have hil1:(i0:Int)<=(bs.length:Int):=by omega
  have hic:¬ (c=i0):=by omega
  have hbl2:bs.length<1000000000000:=by omega
  have hel:s.ents.length<1000000000000:=by omega
  generalize z3b w (z0o p s.ents)=R at *
  generalize hposD:(fun j=>(z01 (bs.take j)).length)=pos at *
  have hpe:∀ j,(z01 (bs.take j)).length=pos j:=fun j=>by rw[<- hposD]
  simp only[hpe]at HBLK H0 HEND HDONE HSTOP;clear hpe hposD hend hlo hn0 hplace hsplit hA hi0 h hkl hbl hsrt h0 hb;generalize bs.length=nb at *
  have hnb0:((nb:Int)==0)=false:=by rw[beq_eq_false_iff_ne];omega
  have hi00:(0:Int)<=(i0:Int):=Int.natCast_nonneg _;go_enter Tryz.func101,Tryz.ntmps101;go_wp2_with (go_at_call 142;refine(z9h _ _ _ hc0).mono ?_;rintro e w' ⟨rfl,rfl⟩)
  go_quiet ((go_at_call 169;exact zxm (HF.out _ rfl)))
  go_wp2_with fail;have HU0:=zh (H0.out nq);clear H0
  go_loopw [5,30] (fun v c wr=>∃ j k:Nat,c= .int .i64 j/\i0+j<=nb/\pos (i0+j)=pos i0+k/\z2z w p s.ents (pos i0) k v wr) (fun _ c _=>nb-(intOf c).toNat)
  case atStart=>exact⟨0,0,rfl,by omega,rfl,HU0.out⟩
  case round =>
   obtain⟨j,k,rfl,hj,hjk,hU⟩:=hrel;have HU:=zh hU;have HJK:=zh hjk;clear hU hjk HU0
   by_cases hlt:i0+j<nb
   ·obtain⟨gb,nk,cb,hnk,hnext,hcell,hkeys⟩:=HBLK.out j hlt;have hc:=hcell wr HU.out.below;have HNEXT:=zh hnext;have HKEYS:=zh hkeys;clear hnext hkeys hcell;have hjd:decide ((j:Int)<((nb-i0:Nat):Int))=true:=by simp;omega
    have hjn:j<nb-i0:=by omega
    go_wp2_with fail
    go_loopw [5,36] (fun v c w2=>∃ q k2:Nat,c= .int .i64 q/\q<=nk/\pos (i0+j)+q=pos i0+k2/\z2z w p s.ents (pos i0) k2 v w2) (fun _ c _=>nk-(intOf c).toNat)
    case atStart=>exact⟨0,k,rfl,by omega,by rw[HJK.out];rfl,HU.out⟩
    case round =>
     obtain⟨q,k2,rfl,hq,hqk,hU2⟩:=hrel;have HU2:=zh hU2;have HQK:=zh hqk;clear hU2 hqk
     by_cases hql:q<nk
     ·obtain⟨e,he,hcq⟩:=HKEYS.out q hql;have hc2:=hcq _ HU2.out.below;rw[HQK.out]at he;obtain⟨hcm,hlk⟩:=HLK.out _ e _ HU2.out.below he;have HE:=zh he;have HLKe:=zh hlk;have HHP:=zh (fun w=>zg1 e.1 p w);clear hlk hcq;cases hp:z2k p e.1 with
      | true =>
       obtain⟨n,xs,hn,ho,hst⟩:=HU2.out.yes he hp;rw[hp]at HHP;have HO:=zh ho;have HST:=zh hst;have hmx:n+1<=maxLen:=by unfold maxLen;omega
       have hone:=zic e.1 e.2;have hnews:=zfw wr (.string e.1) (.string e.2) 156;clear ho hst he hp;generalize e.1=y at *
       generalize e.2=z at *
       go_wp2_with (first | (go_at_call 170;refine(HHP.out _).mono ?_;rintro e w' ⟨rfl,rfl⟩)|(with_reducible refine z0c (o:=⟨some 51,_,_,_,_,_⟩) rfl (.string z) wr ?hr ?k)|(at_builtin;refine z08 (o:=⟨some 54,_,_,_,_,_⟩) rfl (.tmp 44) (.tmp 53) 42 42 rfl pairT pairT _ n xs rfl HO.out _ 1 _ [.string y,.string z] rfl rfl hnews hone hmx (by omega) ?_))
       case hr =>
        refine z2l (x:=.tmp 49) (k:=.tmp 50) (t:=89) (ok:=false) (m:=.map (some mb)) (kv:=.string y) ?_ ?_ ?_ ?_
        ·rfl
        ·rfl
        ·rfl
        ·exact HLKe.out
       intro v' w3 hA;have HU3:=zh (HST.out v' w3 hA);clear hA;go_wp2;go_roundw
       case rel=>exact⟨q+1,k2+1,by go_num,by omega,by have:=HQK.out;omega,HU3.out⟩
       case measure=>simp[intOf];omega
      | false =>
       rw[hp]at HHP
       by_cases hk:KLt p e.1
       ·have hR:=HSTOP.out k2 _ _ e HU2.out he hp hk;have HR:=zh hR;have hb1:Op.bytesLess e.1.toList p.toList=false:=by rw[z4a];simpa using hk.asymm
        have hb2:(e.1.toList==p.toList)=false:=by rw[z4i];simpa using hk.ne.symm
        clear hR he hp hk;generalize e.1=y at *
        go_wp2_with (go_at_call 170;refine(HHP.out _).mono ?_;rintro e w' ⟨rfl,rfl⟩);exact HR.out
       ·have HU3:=zh (HU2.out.no he hp);have hyp:KLt e.1 p:=by
         by_cases h1:KLt e.1 p
         ·exact h1
         ·exfalso;have e2:e.1=p:=KLt.eq h1 hk;rw[e2]at hp;have:z2k p p=true:=by rw[z5k];exact List.prefix_rfl
          rw[this]at hp;cases hp
        have hb1:Op.bytesLess e.1.toList p.toList=true:=by rw[z4a];simpa using hyp
        clear hyp;clear he hp hk;generalize e.1=y at *
        go_wp2_with (go_at_call 170;refine(HHP.out _).mono ?_;rintro e w' ⟨rfl,rfl⟩);go_roundw
        case rel=>exact⟨q+1,k2+1,by go_num,by omega,by have:=HQK.out;omega,HU3.out⟩
        case measure=>simp[intOf];omega
     ·obtain rfl:q=nk:=by omega
      go_wp2;go_roundw
      case rel=>exact⟨j+1,k2,by go_num,by omega,by rw[HNEXT.out,HQK.out],HU2.out⟩
      case measure=>simp[intOf];omega
   ·have hR:=HDONE.out k _ _ HU.out (by
     have h1:=HEND.out;have h2:=HJK.out;rw[show i0+j=nb by omega]at h2
     omega)
    have HR:=zh hR;have hjd:decide ((j:Int)<((nb-i0:Nat):Int))=false:=by simp;omega
    have hjn:¬ (j<nb-i0):=by omega
    clear hR;go_wp2;exact HR.out
structure zo6 (w:World) (a:Option Addr) (l:List Ent):Prop where
 at0:∀ k x,l[k]?=some x->∃ g,a=some ⟨g,0,none⟩/\w.cell? ⟨g,k*2,none⟩=some (.string x.1)/\w.cell? ⟨g,k*2+1,none⟩=some (.string x.2)
theorem Own.pairs{w:World}{v:Value}{l:List Ent}{n:Nat}(h:Own w 156 2 v n (z1x l)):∃ a c,v= .slice a n c/\zo6 w a l:=by
 obtain⟨a,c,rfl,hc⟩:=h.form;refine⟨a,c,rfl,⟨fun k x hk => ?_⟩⟩;obtain⟨h1,h2⟩:=zgo _ k x hk;obtain⟨g,rfl,e1⟩:=hc _ _ h1;obtain⟨g',e,e2⟩:=hc _ _ h2;cases e;exact⟨g,rfl,e1,e2⟩
def z4j(w:World)(q:Option Addr):Prop:=q=none\/∃ b,q=some ⟨b,0,none⟩/\b<w.heap.size/\w.cell? ⟨b,0,none⟩=some (.bool false)
theorem z4j.get{w:World}{q:Option Addr}(h:z4j w q)(k:ByteArray):zb8 w q k z05 false:=by
 rcases h with rfl | ⟨b,rfl,_,hc⟩
 ·exact zvk w k
 ·exact ztb w b k hc
theorem z4j.below{w w':World}{q:Option Addr}(h:z4j w q)(hb:Below w.heap.size w w'):z4j w' q:=by
 rcases h with rfl | ⟨b,rfl,hl,hc⟩
 ·exact .inl rfl
 ·exact .inr ⟨b,rfl,Nat.lt_of_lt_of_le hl hb.size,by rw[hb.cell hl];exact hc⟩
theorem zp7(w:World)(q:Option Addr)(p:ByteArray)(h:z4j w q):Calls Tryz.prog 101 #[.pointer q,.string p] w (z3b w []):=by
 have HI:Hid (Calls Tryz.prog 142 #[.pointer q] w fun e w'=>e= .returned (.bool false)/\w=w'):=by
  rcases h with rfl | ⟨b,rfl,_,hc⟩
  ·exact is_nil w
  ·exact z9h w b false hc
 clear h;go_enter Tryz.func101,Tryz.ntmps101;go_wp2_with (go_at_call 142;refine HI.out.mono ?_;rintro e w' ⟨rfl,rfl⟩);go_ret;exact⟨_,rfl,z4f.start w⟩
def z1c(n:Nat)(w:World)(q:Option Addr)(s:St):Prop:=
 (∃ b L,q=some ⟨b,0,none⟩/\SRep w b s L/\s.size<1000000000000/\(∀ k,(s.val k).size<1000000000000)/\∀ k∈L,k<n)\/(z4j w q/\(∀ a,q=some a->a.block<n)/\s=⟨[],[]⟩)
theorem z1c.under{n:Nat}{w:World}{q:Option Addr}{s:St}(h:z1c n w q s)(p:ByteArray):Calls Tryz.prog 101 #[.pointer q,.string p] w (z3b w (z0o p s.ents)):=by
 rcases h with⟨b,L,rfl,h,hz,_,_⟩ | ⟨h,_,rfl⟩
 ·exact zom w b s L p h hz
 ·exact zp7 w q p h
theorem z1c.int{n:Nat}{w:World}{q:Option Addr}{s:St}(h:z1c n w q s)(k:ByteArray):Calls Tryz.prog 99 #[.pointer q,.string k] w (z8o w (s.int k)):=by
 rcases h with⟨b,L,rfl,h,_,hv,_⟩ | ⟨h,_,rfl⟩
 ·exact zy5 w b s L k h (hv k)
 ·exact(zsa w q k (h.get k)).mono fun e w' ⟨he,hw⟩=>⟨he,by subst hw;exact Below.refl _ _⟩
theorem z1c.below{n:Nat}{w w':World}{q:Option Addr}{s:St}(h:z1c n w q s)(hb:Below n w w'):z1c n w' q s:=by
 rcases h with⟨b,L,rfl,h,hz,hv,hl⟩ | ⟨h,hl,rfl⟩
 ·exact .inl ⟨b,L,rfl,h.frame fun k hk=>hb.block k (hl k hk),hz,hv,hl⟩
 ·refine .inr ⟨?_,hl,rfl⟩;rcases h with rfl | ⟨b,rfl,hlt,hc⟩
  ·exact .inl rfl
  ·exact .inr ⟨b,rfl,Nat.lt_of_lt_of_le hlt hb.size,by rw[hb.cell (hl _ rfl)];exact hc⟩
theorem z1c.up{n m:Nat}{w:World}{q:Option Addr}{s:St}(h:z1c n w q s)(hm:n<=m):z1c m w q s:=by
 rcases h with⟨b,L,rfl,h,hz,hv,hl⟩ | ⟨h,hl,rfl⟩
 ·exact .inl ⟨b,L,rfl,h,hz,hv,fun k hk=>Nat.lt_of_lt_of_le (hl k hk) hm⟩
 ·exact .inr ⟨h,fun a ha=>Nat.lt_of_lt_of_le (hl a ha) hm,rfl⟩
theorem z1c.made{w:World}{b:Nat}{s:St}{L:List Nat}{m:Nat}(h:SRep w b s L)(hf:s.Fit m)(hm:m<100000000000):z1c w.heap.size w (some ⟨b,0,none⟩) s:=
 .inl ⟨b,L,rfl,h,by have:=hf.size;omega,fun k=>hf.val' k,h.lt⟩
theorem z1c.not{w:World}{q:Option Addr}(h:z4j w q):z1c w.heap.size w q ⟨[],[]⟩:=by
 refine .inr ⟨h,fun a ha => ?_,rfl⟩;rcases h with rfl | ⟨b,rfl,hl,_⟩
 ·cases ha
 ·cases ha;exact hl
theorem z3p{w:World}{g:Nat}{l:List Int}(h:∀ j x,l[j]?=some x->w.cell? ⟨g,j,none⟩=some (.int .i64 x)):z0w w (.slice (some ⟨g,0,none⟩) l.length l.length) l:=
 .inr ⟨_,_,rfl,fun j x hj=>by rw[Addr.add_lit,Nat.zero_add];exact h j x hj⟩
theorem z00{w W:World}(h:Below w.heap.size w W)(o:Obj):Below w.heap.size w (W.alloc o):=h.alloc h.size o
theorem z0h{w W:World}(h:Below w.heap.size w W):Below w.heap.size w W.drew:=⟨h.os,h.tape,h.output,h.size,h.block⟩
theorem z0b{w W W':World}(h:Below w.heap.size w W)(hb:Below W.heap.size W W'):Below w.heap.size w W':=h.trans (hb.mono h.size)
theorem z5q{W W':World}(hb:Below W.heap.size W W'){p:Addr}{v:Value}(h:W.cell? p=some v):W'.cell? p=some v:=by
 rw[hb.cell (World.block_lt_of_cell? W _ h)];exact h
theorem z5l(t:Nat){l:List Int}(h:∀ x∈l,0<=x):keyL t l≠z05:=fun e=>by
 have:=congrArg ByteArray.size e
 rw[z9k (by intro x hx;have:=h x hx;omega)]at this
 have h1:(⟨(keyBytes t l).toArray⟩:ByteArray).size=1+8*l.length:=by
  show(keyBytes t l).toArray.size=_
  rw[List.size_toArray,z4q]
 rw[h1]at this;have h2:z05.size=0:=rfl;omega
theorem z03{P:Program}{fn:Func}{p u:Tmp}{ty:TypeId}(h:fn.results=#[.cell p ty,.tmp u])(tmps:Array Value)(w:World)(g:Nat)(t:TypeId)(cs:Array Value)(fr:Nat × Nat)(d:TypeDesc)
  (hp:tmps.getD p undef= .pointer (some ⟨g,0,none⟩)) (hg:w.heap[g]?=some (.cells cs t fr))
  (hu:P.underlying ty=some d) (hd:(match d with | .struct _ | .array _ _=>true | _=>false)=true) (hi:(P.info? ty).map (·.size)=some cs.size) :
  (results fn tmps).run P w= .ok (.tuple #[.agg cs,tmps.getD u undef]) w:=by
 rw[results_cell_tmp h,hp];simp[asAddr,Result.andThen,run_loadVar_row w g t ty cs fr d hg hu hd hi]
theorem z0d{w:World}{b off:Nat}{cs:Array Value}{t:TypeId}{fr:Nat × Nat}(v:Value)(h:w.heap[b]?=some (.cells cs t fr)):(w.setCell ⟨b,off,none⟩ v).heap[b]?=some (.cells (cs.setIfInBounds off v) t fr):=by
 rw[setCell_eq_setRow w b off _ _ _ v h];exact setRow_heap w b _ _ _ _ h
end Go.Proofs.YtnkilceibkkjlaaGreat
