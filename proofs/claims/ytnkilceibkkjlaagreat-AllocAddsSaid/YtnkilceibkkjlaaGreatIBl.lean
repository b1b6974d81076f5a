/- What is proved here: plain facts on the entries under a beginning of keys, found by a scan of keys in order. No program is named. No condition. a store's Under and All. Its condition: fewer than 10^12 entries. a store's All; the reference's Same: are two slices of pairs alike? no made store: what it has. a store that is read: made, or not. No condition but sizes. small general facts on worlds that have more below, on  -/
import Derived.Test.YtnkilceibkkjlaaGreatIStore
import Derived.Test.YtnkilceibkkjlaaGreatIRStore
import Derived.Test.YtnkilceibkkjlaaGreatICell
import Derived.Laws.StructEq
import Derived.Laws.ResultCell
import Derived.Laws.Rows
set_option maxRecDepth 100000
set_option maxHeartbeats 16000000
namespace Go.Proofs.YtnkilceibkkjlaaGreat
theorem isPre_iff {p k:ByteArray}:isPre p k=true↔p.data.toList <+: k.data.toList:=List.isPrefixOf_iff_prefix
theorem pre_not_lt {p k:ByteArray} (h:isPre p k=true):¬ KLt k p:=by
 rw [isPre_iff] at h
 obtain ⟨t,ht⟩:=h
 unfold KLt
 rw [← ht]
 generalize p.data.toList=l
 induction l with
 | nil=>simp
 | cons x l ih=>simp [ih]
theorem list_between:∀ (p k k2:List UInt8),p < k→k < k2→p <+: k2→p <+: k
 | [],_,_,_,_,_=>List.nil_prefix
 | x :: p,[],_,h,_,_=>by simp at h
 | x :: p,y :: k,[],_,h,_=>by simp at h
 | x :: p,y :: k,z :: k2,h1,h2,h3=>by
  rw [List.cons_prefix_cons] at h3
  obtain ⟨rfl,h3⟩:=h3
  rw [List.cons_lt_cons_iff] at h1 h2
  rcases h1 with h1 | ⟨rfl,h1⟩
  ·rcases h2 with h2 | ⟨rfl,h2⟩
   ·exact absurd (UInt8.lt_trans h1 h2) (UInt8.lt_irrefl _)
   ·exact absurd h1 (UInt8.lt_irrefl _)
  ·rcases h2 with h2 | ⟨_,h2⟩
   ·exact absurd h2 (UInt8.lt_irrefl _)
   ·rw [List.cons_prefix_cons]
    exact ⟨rfl,list_between p k k2 h1 h2 h3⟩
theorem pre_stop {p k k2:ByteArray} (h1:KLt p k) (h2:isPre p k=false) (h3:KLt k k2):isPre p k2=false:=by
 rw [Bool.eq_false_iff]
 intro h
 rw [isPre_iff] at h
 have:=list_between _ _ _ h1 h3 h
 rw [← isPre_iff,h2] at this
 cases this
def underE (p:ByteArray) (l:List Ent):List Ent:=l.filter fun x=>isPre p x.1
theorem underE_append (p:ByteArray) (a b:List Ent):underE p (a ++ b)=underE p a ++ underE p b:=List.filter_append ..
theorem underE_len (p:ByteArray) (l:List Ent):(underE p l).length≤l.length:=List.length_filter_le _ _
theorem underE_sorted {l:List Ent} (h:Sorted l) (p:ByteArray):Sorted (underE p l):=h.filter _
theorem underE_none {p:ByteArray} {l:List Ent} (h:∀ x∈l,isPre p x.1=false):underE p l = []:=by
 unfold underE; rw [List.filter_eq_nil_iff]; intro x hx; rw [h x hx]; simp
structure ScanTo (p:ByteArray) (l:List Ent) (n0 k:Nat) (out:List Ent):Prop where
 out:out=underE p ((l.drop n0).take k)
 lo:∀ x∈l.take n0,isPre p x.1=false
 le:n0+k≤l.length
theorem ScanTo.start {p:ByteArray} {l:List Ent} {n0:Nat} (h:∀ x∈l.take n0,KLt x.1 p) (hn:n0≤l.length):ScanTo p l n0 0 [] :=
 ⟨by simp [underE],fun x hx=>by
  rw [Bool.eq_false_iff]; intro h1; exact pre_not_lt h1 (h x hx),by omega⟩
theorem ScanTo.at {l:List Ent} {n0 k:Nat} (hk:n0+k < l.length):∃ x,l[n0+k]? = some x∧(l.drop n0).take (k+1)=(l.drop n0).take k ++ [x]:=by
 refine ⟨l[n0+k],List.getElem?_eq_getElem hk,?_⟩
 rw [List.take_add_one,List.getElem?_drop,List.getElem?_eq_getElem hk]; rfl
theorem ScanTo.yes {p:ByteArray} {l:List Ent} {n0 k:Nat} {out:List Ent} (h:ScanTo p l n0 k out) {x:Ent} (hx:l[n0+k]? = some x) (hp:isPre p x.1=true):ScanTo p l n0 (k+1) (out ++ [x]):=by
 have hk:n0+k < l.length:=(List.getElem?_eq_some_iff.1 hx).1
 obtain ⟨y,hy,e⟩:=ScanTo.at hk
 rw [hx] at hy; cases hy
 exact ⟨by rw [e,underE_append,h.out]; simp [underE,hp],h.lo,by omega⟩
theorem ScanTo.no {p:ByteArray} {l:List Ent} {n0 k:Nat} {out:List Ent} (h:ScanTo p l n0 k out) {x:Ent} (hx:l[n0+k]? = some x) (hp:isPre p x.1=false):ScanTo p l n0 (k+1) out:=by
 have hk:n0+k < l.length:=(List.getElem?_eq_some_iff.1 hx).1
 obtain ⟨y,hy,e⟩:=ScanTo.at hk
 rw [hx] at hy; cases hy
 exact ⟨by rw [e,underE_append,h.out]; simp [underE,hp],h.lo,by omega⟩
theorem ScanTo.split {p:ByteArray} {l:List Ent} {n0 k:Nat} {out:List Ent} (h:ScanTo p l n0 k out):underE p l=out ++ underE p (l.drop (n0+k)):=by
 have e:l=l.take n0 ++ ((l.drop n0).take k ++ l.drop (n0+k)):=by
  rw [← List.drop_drop,List.take_append_drop,List.take_append_drop]
 rw (config:={ occs:=.pos [1] }) [e]
 rw [underE_append,underE_append,underE_none h.lo,h.out]; rfl
theorem ScanTo.done {p:ByteArray} {l:List Ent} {n0 k:Nat} {out:List Ent} (h:ScanTo p l n0 k out) (hk:l.length≤n0+k):out=underE p l:=by
 rw [h.split,List.drop_of_length_le hk]; simp [underE]
theorem ScanTo.stop {p:ByteArray} {l:List Ent} (hs:Sorted l) {n0 k:Nat} {out:List Ent} (h:ScanTo p l n0 k out) {x:Ent} (hx:l[n0+k]? = some x) (hp:isPre p x.1=false) (hlt:KLt p x.1):out=underE p l:=by
 have hk:n0+k < l.length:=(List.getElem?_eq_some_iff.1 hx).1
 rw [h.split,underE_none,List.append_nil]
 intro y hy
 obtain ⟨j,hj,rfl⟩:=List.getElem_of_mem hy
 rw [List.getElem_drop]
 have hxe:l[n0+k]=x:=(List.getElem?_eq_some_iff.1 hx).2
 cases j with
 | zero=>simp only [Nat.add_zero,hxe]; exact hp
 | succ j =>
  rw [List.length_drop] at hj
  have:=List.pairwise_iff_getElem.1 hs (n0+k) (n0+k+(j+1)) hk (by omega) (by omega)
  rw [hxe] at this
  exact pre_stop hlt hp this
end Go.Proofs.YtnkilceibkkjlaaGreat
namespace Go.Proofs.YtnkilceibkkjlaaGreat
open Go.RowKit
section
variable {P:Program} {w:World} {t tk te:TypeId} {es:Array MapEntry} {ents:List Ent} {mb clk:Nat} (T:MapT P t tk te)
include T
theorem run_lookup_str1 (hm:w.heap[mb]? = some (.map es clk)) (hr:MRep es ents) (hs:Sorted ents) (k:ByteArray) :
  (Instr.lookup t (.map (some mb)) (.string k) false).run P w = .ok (.string ((getE ents k).getD emptyB)) w:=by
 obtain ⟨kv,h1,h2⟩:=hr
 have hg:=idxE_get h2 hs k
 obtain ⟨i,hi,hz⟩:=Option.map_eq_some_iff.1 T.elem
 have hck:=run_checkKey_str T (w:=w) es.isEmpty 9999 k
 have hfk:=run_findKey_str T (w:=w) k h1
 have hgo:∀ {α:Type} (f:Obj→Sem α),Sem.run P (Sem.getObj mb f) w=(f (.map es clk)).run P w:=fun f=>by simp [Sem.run,hm]
 cases h:idxE kv k with
 | none =>
  rw [h] at hg hfk
  simp only [Option.map_none] at hg hfk
  simp [Instr.lookup,run_underlying T.und,getObj,hgo,hck,hfk,zeroValue,typeInfo,hi,hz,← hg,emptyB]
 | some j =>
  rw [h] at hg hfk
  simp only [Option.map_some] at hg hfk
  simp [Instr.lookup,run_underlying T.und,getObj,hgo,hck,hfk,← hg]
end
theorem quietL {P:Program} {f:FuncId} {args:Array Value} {w:World} {n:Nat} {v:Value} (h:Calls P f args (w.drewN n) fun e w'=>e = .returned v∧w.drewN n=w'):Calls P f args (w.drewN n) fun e w''=>e = .returned v∧∃ m,w''=w.drewN m :=
 h.mono fun _ _ ⟨he,hm⟩=>⟨he,n,hm.symm⟩
def RetPairs (w:World) (l:List Ent) (e:Ending) (w':World):Prop:=∃ v,e = .returned v∧OutAt w w' v l.length l
theorem below_drewN {w w1:World} {B:Nat} (h:Below B w w1) (n:Nat):Below B w (w1.drewN n):=⟨h.os,h.tape,h.output,h.size,h.block⟩
theorem allKeys_at (bs:List Blk) (i q:Nat) (B:Blk) (y:ByteArray) (hi:bs[i]? = some B) (hq:B.keys[q]? = some y):(allKeys bs)[(allKeys (bs.take i)).length+q]? = some y:=by
 have hil:i < bs.length:=(List.getElem?_eq_some_iff.1 hi).1
 have hB:bs[i]=B:=(List.getElem?_eq_some_iff.1 hi).2
 have hql:q < B.keys.length:=(List.getElem?_eq_some_iff.1 hq).1
 have e:allKeys bs=allKeys (bs.take i) ++ (B.keys ++ allKeys (bs.drop (i+1))):=by
  rw [← hB,← allKeys_cons,← allKeys_append,← List.drop_eq_getElem_cons hil,List.take_append_drop]
 rw [e,List.getElem?_append_right (by omega),Nat.add_sub_cancel_left,List.getElem?_append_left hql]
 exact hq
theorem allKeys_take_succ (bs:List Blk) (i:Nat) (B:Blk) (hi:bs[i]? = some B):(allKeys (bs.take (i+1))).length=(allKeys (bs.take i)).length+B.keys.length:=by
 rw [take_one_more' bs i B hi,allKeys_append,List.length_append,allKeys_cons,allKeys_nil,List.append_nil]
where
 take_one_more' (l:List Blk) (k:Nat) (x:Blk) (h:l[k]? = some x):l.take (k+1)=l.take k ++ [x]:=by
  rw [List.take_add_one,h]; rfl
def UnderAt (w:World) (p:ByteArray) (l:List Ent) (n0:Nat) (k:Nat) (v:Value) (wr:World):Prop:=∃ out,ScanTo p l n0 k out∧OutAt w wr v out.length out∧out.length≤l.length
theorem UnderAt.form {w:World} {p:ByteArray} {l:List Ent} {n0 k:Nat} {v:Value} {wr:World} (h:UnderAt w p l n0 k v wr):∃ a n c,v = .slice a n c:=by
 obtain ⟨out,_,hO,_⟩:=h
 obtain ⟨_,a,c,hv,_⟩:=hO.1.src
 exact ⟨a,_,c,hv⟩
theorem UnderAt.done {w:World} {p:ByteArray} {l:List Ent} {n0 k:Nat} {v:Value} {wr:World} (h:UnderAt w p l n0 k v wr) (hk:l.length≤n0+k):RetPairs w (underE p l) (.returned v) wr:=by
 obtain ⟨out,h1,hO,_⟩:=h
 rw [← h1.done hk]
 exact ⟨v,rfl,hO⟩
theorem UnderAt.stop {w:World} {p:ByteArray} {l:List Ent} (hs:Sorted l) {n0 k:Nat} {v:Value} {wr:World} (h:UnderAt w p l n0 k v wr) {x:Ent} (hx:l[n0+k]? = some x) (hp:isPre p x.1=false) (hlt:KLt p x.1):RetPairs w (underE p l) (.returned v) wr:=by
 obtain ⟨out,h1,hO,_⟩:=h
 rw [← h1.stop hs hx hp hlt]
 exact ⟨v,rfl,hO⟩
theorem UnderAt.no {w:World} {p:ByteArray} {l:List Ent} {n0 k:Nat} {v:Value} {wr:World} (h:UnderAt w p l n0 k v wr) {x:Ent} (hx:l[n0+k]? = some x) (hp:isPre p x.1=false):UnderAt w p l n0 (k+1) v wr:=by
 obtain ⟨out,h1,hO,h3⟩:=h
 exact ⟨out,h1.no hx hp,hO,h3⟩
theorem UnderAt.yes {w:World} {p:ByteArray} {l:List Ent} {n0 k:Nat} {v:Value} {wr:World} (h:UnderAt w p l n0 k v wr) {x:Ent} (hx:l[n0+k]? = some x) (hp:isPre p x.1=true) :
  ∃ n xs,n < l.length∧Own (wr.alloc (.cells #[.string x.1,.string x.2] 156)) 156 2 v n xs ∧
   ∀ v' w',Appended (wr.alloc (.cells #[.string x.1,.string x.2] 156)) 156 2 v n 1 xs [.string x.1,.string x.2] v' w'→UnderAt w p l n0 (k+1) v' w':=by
 obtain ⟨out,h1,hO,h3⟩:=h
 have h4:=h1.yes hx hp
 have h5:(out ++ [x]).length≤l.length:=by
  rw [h4.out]
  refine Nat.le_trans (underE_len _ _) ?_
  rw [List.length_take,List.length_drop]
  omega
 refine ⟨out.length,_,by rw [List.length_append] at h5; simp at h5; omega,(hO.alloc _).1,fun v' w' hA=>⟨out ++ [x],h4,?_,h5⟩⟩
 have:=(hO.alloc _).next (l2:=[x]) hA
 simpa using this
theorem UnderAt.below {w:World} {p:ByteArray} {l:List Ent} {n0 k:Nat} {v:Value} {wr:World} (h:UnderAt w p l n0 k v wr):Below w.heap.size w wr:=by
 obtain ⟨out,_,hO,_⟩:=h; exact hO.2.2
theorem under_any (w:World) (b:Nat) (s:St) (L:List Nat) (p:ByteArray) (h:SRep w b s L) (hb:s.size < 1000000000000) :
  Calls Tryz.prog 101 #[.pointer (some ⟨b,0,none⟩),.string p] w (RetPairs w (underE p s.ents)):=by
 have hc0:=h.cell0
 have hsrt:=h.srt
 unfold St.size at hb
 obtain ⟨mb,es,clk,bv,pv,bs,h,rfl⟩:=h
 obtain ⟨_,hc1,hc2,_⟩:=head_cell h.hd
 by_cases h0:bs = []
 ·subst h0
  have he:s.ents = []:=by
   have:=h.fl
   rw [allKeys_nil] at this
   exact List.map_eq_nil_iff.1 this.symm
  have HE:Hid (RetPairs w (underE p s.ents) (.returned (.slice none 0 0)) w):=by
   rw [he]; exact ⟨_,rfl,OutAt.start w⟩
  obtain ⟨a,c,rfl,_⟩:=h.ks.row.form
  rw [List.length_nil] at hc2
  generalize RetPairs w (underE p s.ents)=R at *
  clear h he hb hsrt
  go_enter Tryz.func101,Tryz.ntmps101
  go_wp2_with (go_at_call 142; refine (is_at _ _ _ hc0).mono ?_; rintro e w' ⟨rfl,rfl⟩)
  exact HE.out
 ·have hpos:0 < bs.length:=List.length_pos_iff.2 h0
  have hkl:(allKeys bs).length=s.ents.length:=by rw [h.fl,List.length_map]
  have hbl:bs.length≤s.ents.length:=by rw [← hkl]; exact allKeys_length h.ks.ne
  obtain ⟨g,c,hbv⟩:=h.ks.row.inv hpos
  subst hbv
  have hnc:bs.length≤c:=by
   rcases h.ks.row.2 with ⟨h1,_⟩ | ⟨_,_,_,h1,_,h2,_⟩
   ·cases h1
   ·cases h1; exact h2
  have HF:=Lib.hid (fun w1 (hb1:w1.heap=w.heap)=>find_any w1 b g c bs p (lasts_sorted h.ks.ne h.ks.srt) (by omega) hpos (by rw [World.cell?_of_block (w:=w) (a:=⟨b,2,none⟩) (by rw [hb1])]; exact hc2) ((h.ks.frame (w':=w1) (fun k _=>by rw [hb1])).lasts (by omega)))
  obtain ⟨A,x,C,hsplit,hA,hplace⟩:=place h.ks.ne h.ks.srt p hpos
  generalize hi0:min (lb (bs.map Blk.last) p) (bs.length - 1)=i0 at *
  have hi0l:i0 < bs.length:=by omega
  have hlo:∀ y∈s.ents.take (allKeys (bs.take i0)).length,KLt y.1 p:=by
   intro y hy
   have e1:bs.take i0=A:=by rw [hsplit,← hA]; simp
   rw [e1] at hy
   obtain ⟨j,hj,rfl⟩:=List.getElem_of_mem hy
   rw [List.length_take] at hj
   rw [List.getElem_take]
   have hjl:j < (s.ents.map Prod.fst).length:=by rw [List.length_map]; omega
   have:=(lb_lt_iff hsrt.keys p j hjl).2 (by rw [← h.fl,hplace]; omega)
   rwa [List.getElem_map] at this
  have hn0:(allKeys (bs.take i0)).length≤s.ents.length:=by
   rw [← hkl]
   have e1:allKeys bs=allKeys (bs.take i0) ++ allKeys (bs.drop i0):=by rw [← allKeys_append,List.take_append_drop]
   rw [e1,List.length_append]; omega
  have HBLK:Hid (∀ j,i0+j < bs.length→∃ gb nk cb,nk < 1000000000000∧(allKeys (bs.take (i0+(j+1)))).length=(allKeys (bs.take (i0+j))).length+nk ∧
    (∀ wr,Below w.heap.size w wr→wr.cell? ⟨g,i0+j,none⟩=some (.slice (some ⟨gb,0,none⟩) nk cb)) ∧
    (∀ q,q < nk→∃ e,s.ents[(allKeys (bs.take (i0+j))).length+q]? = some e∧∀ wr,Below w.heap.size w wr→wr.cell? ⟨gb,q,none⟩=some (.string e.1))):=fun j hj=>by
   have hBj:bs[i0+j]? = some bs[i0+j]:=List.getElem?_eq_getElem hj
   have hAt:=h.ks.rows _ (List.getElem_mem hj)
   have hlen:=keys_le_all (List.getElem_mem hj)
   have hgl:g < w.heap.size:=h.ks.row.lt g rfl
   refine ⟨bs[i0+j].g,bs[i0+j].keys.length,bs[i0+j].cap,by omega,allKeys_take_succ bs (i0+j) _ hBj,fun wr hbw => ?_,fun q hq => ?_⟩
   ·rw [hbw.cell (p:=⟨g,i0+j,none⟩) hgl]
    have:=h.ks.row.cells (g:=g) rfl (i0+j) bs[i0+j].val (by simp [hBj])
    rwa [Addr.add_lit,Nat.zero_add] at this
   ·have hy:bs[i0+j].keys[q]? = some bs[i0+j].keys[q]:=List.getElem?_eq_getElem hq
    have hk:=allKeys_at bs (i0+j) q _ _ hBj hy
    rw [h.fl,List.getElem?_map] at hk
    obtain ⟨e,he,he1⟩:=Option.map_eq_some_iff.1 hk
    refine ⟨e,he,fun wr hbw => ?_⟩
    rw [hbw.cell (p:=⟨bs[i0+j].g,q,none⟩) hAt.lt,he1]
    have:=hAt.2.cells (g:=bs[i0+j].g) rfl q (.string bs[i0+j].keys[q]) (by simp [strs,hy])
    rwa [Addr.add_lit,Nat.zero_add] at this
  have HLK:Hid (∀ (wr:World) (e:Ent) (n:Nat),Below w.heap.size w wr→s.ents[n]? = some e→wr.cell? ⟨b,1,none⟩=some (.map (some mb))∧(Instr.lookup 89 (.map (some mb)) (.string e.1) false).run Tryz.prog wr = .ok (.string e.2) wr):=fun wr e n hbw hn=>by
   have hmb:wr.heap[mb]? = some (.map es clk):=by rw [hbw.block mb (lt_of_at h.mp)]; exact h.mp
   refine ⟨by rw [hbw.cell (p:=⟨b,1,none⟩) (lt_of_at h.hd)]; exact hc1,?_⟩
   have:=run_lookup_str1 mapT hmb h.me hsrt e.1
   rw [getE_of_mem hsrt (k:=e.1) (v:=e.2) (List.mem_of_getElem? hn)] at this
   exact this
  have H0:Hid (∀ n,UnderAt w p s.ents (allKeys (bs.take i0)).length 0 (.slice none 0 0) (w.drewN n)):=fun n=>⟨[],ScanTo.start hlo hn0,⟨Own.nil _ _ _,fun g hg=>by simp [Value.ownBlock] at hg,below_drewN (Below.refl _ _) n⟩,by simp⟩
  have hend:(allKeys (bs.take bs.length)).length=s.ents.length:=by rw [List.take_length,hkl]
  have HEND:=Lib.hid hend
  have HDONE:Hid (∀ k v wr,UnderAt w p s.ents (allKeys (bs.take i0)).length k v wr→s.ents.length≤(allKeys (bs.take i0)).length+k→RetPairs w (underE p s.ents) (.returned v) wr):=fun k v wr hU hk=>hU.done hk
  have HSTOP:Hid (∀ k v wr e,UnderAt w p s.ents (allKeys (bs.take i0)).length k v wr→s.ents[(allKeys (bs.take i0)).length+k]? = some e→isPre p e.1=false→KLt p e.1→RetPairs w (underE p s.ents) (.returned v) wr):=fun k v wr e hU he h1 h2=>hU.stop hsrt he h1 h2
  have hil1:(i0:Int)≤(bs.length:Int):=by omega
  have hic:¬ (c=i0):=by omega
  have hbl2:bs.length < 1000000000000:=by omega
  have hel:s.ents.length < 1000000000000:=by omega
  generalize RetPairs w (underE p s.ents)=R at *
  generalize hposD:(fun j=>(allKeys (bs.take j)).length)=pos at *
  have hpe:∀ j,(allKeys (bs.take j)).length=pos j:=fun j=>by rw [← hposD]
  simp only [hpe] at HBLK H0 HEND HDONE HSTOP
  clear hpe hposD hend hlo hn0 hplace hsplit hA hi0 h hkl hbl hsrt h0 hb
  generalize bs.length=nb at *
  have hnb0:((nb:Int) == 0)=false:=by rw [beq_eq_false_iff_ne]; omega
  have hi00:(0:Int)≤(i0:Int):=Int.natCast_nonneg _
  go_enter Tryz.func101,Tryz.ntmps101
  go_wp2_with (go_at_call 142; refine (is_at _ _ _ hc0).mono ?_; rintro e w' ⟨rfl,rfl⟩)
  go_quiet ((go_at_call 169; exact quietL (HF.out _ rfl)))
  go_wp2_with fail
  have HU0:=Lib.hid (H0.out nq)
  clear H0
  go_loopw [5,30] (fun v c wr=>∃ j k:Nat,c = .int .i64 j∧i0+j≤nb∧pos (i0+j)=pos i0+k∧UnderAt w p s.ents (pos i0) k v wr) (fun _ c _=>nb - (intOf c).toNat)
  case atStart=>exact ⟨0,0,rfl,by omega,rfl,HU0.out⟩
  case round =>
   obtain ⟨j,k,rfl,hj,hjk,hU⟩:=hrel
   have HU:=Lib.hid hU
   have HJK:=Lib.hid hjk
   clear hU hjk HU0
   by_cases hlt:i0+j < nb
   ·obtain ⟨gb,nk,cb,hnk,hnext,hcell,hkeys⟩:=HBLK.out j hlt
    have hc:=hcell wr HU.out.below
    have HNEXT:=Lib.hid hnext
    have HKEYS:=Lib.hid hkeys
    clear hnext hkeys hcell
    have hjd:decide ((j:Int) < ((nb - i0:Nat):Int))=true:=by simp; omega
    have hjn:j < nb - i0:=by omega
    go_wp2_with fail
    go_loopw [5,36] (fun v c w2=>∃ q k2:Nat,c = .int .i64 q∧q≤nk∧pos (i0+j)+q=pos i0+k2∧UnderAt w p s.ents (pos i0) k2 v w2) (fun _ c _=>nk - (intOf c).toNat)
    case atStart=>exact ⟨0,k,rfl,by omega,by rw [HJK.out]; rfl,HU.out⟩
    case round =>
     obtain ⟨q,k2,rfl,hq,hqk,hU2⟩:=hrel
     have HU2:=Lib.hid hU2
     have HQK:=Lib.hid hqk
     clear hU2 hqk
     by_cases hql:q < nk
     ·obtain ⟨e,he,hcq⟩:=HKEYS.out q hql
      have hc2:=hcq _ HU2.out.below
      rw [HQK.out] at he
      obtain ⟨hcm,hlk⟩:=HLK.out _ e _ HU2.out.below he
      have HE:=Lib.hid he
      have HLKe:=Lib.hid hlk
      have HHP:=Lib.hid (fun w=>hasPrefix_any e.1 p w)
      clear hlk hcq
      cases hp:isPre p e.1 with
      | true =>
       obtain ⟨n,xs,hn,ho,hst⟩:=HU2.out.yes he hp
       rw [hp] at HHP
       have HO:=Lib.hid ho
       have HST:=Lib.hid hst
       have hmx:n+1≤maxLen:=by unfold maxLen; omega
       have hone:=two_one e.1 e.2
       have hnews:=news_two wr (.string e.1) (.string e.2) 156
       clear ho hst he hp
       generalize e.1=y at *
       generalize e.2=z at *
       go_wp2_with (first | (go_at_call 170; refine (HHP.out _).mono ?_; rintro e w' ⟨rfl,rfl⟩) | (with_reducible refine wpList_value (o:=⟨some 51,_,_,_,_,_⟩) rfl (.string z) wr ?hr ?k) | (at_builtin; refine wpList_append_Own (o:=⟨some 54,_,_,_,_,_⟩) rfl (.tmp 44) (.tmp 53) 42 42 rfl pairT pairT _ n xs rfl HO.out _ 1 _ [.string y,.string z] rfl rfl hnews hone hmx (by omega) ?_))
       case hr =>
        refine exec_lookup (x:=.tmp 49) (k:=.tmp 50) (t:=89) (ok:=false) (m:=.map (some mb)) (kv:=.string y) ?_ ?_ ?_ ?_
        ·rfl
        ·rfl
        ·rfl
        ·exact HLKe.out
       intro v' w3 hA
       have HU3:=Lib.hid (HST.out v' w3 hA)
       clear hA
       go_wp2
       go_roundw
       case rel=>exact ⟨q+1,k2+1,by go_num,by omega,by have:=HQK.out; omega,HU3.out⟩
       case measure=>simp [intOf]; omega
      | false =>
       rw [hp] at HHP
       by_cases hk:KLt p e.1
       ·have hR:=HSTOP.out k2 _ _ e HU2.out he hp hk
        have HR:=Lib.hid hR
        have hb1:Op.bytesLess e.1.toList p.toList=false:=by rw [bytesLess_KLt]; simpa using hk.asymm
        have hb2:(e.1.toList == p.toList)=false:=by rw [toList_beq]; simpa using hk.ne.symm
        clear hR he hp hk
        generalize e.1=y at *
        go_wp2_with (go_at_call 170; refine (HHP.out _).mono ?_; rintro e w' ⟨rfl,rfl⟩)
        exact HR.out
       ·have HU3:=Lib.hid (HU2.out.no he hp)
        have hyp:KLt e.1 p:=by
         by_cases h1:KLt e.1 p
         ·exact h1
         ·exfalso
          have e2:e.1=p:=KLt.eq h1 hk
          rw [e2] at hp
          have:isPre p p=true:=by rw [isPre_iff]; exact List.prefix_rfl
          rw [this] at hp; cases hp
        have hb1:Op.bytesLess e.1.toList p.toList=true:=by rw [bytesLess_KLt]; simpa using hyp
        clear hyp
        clear he hp hk
        generalize e.1=y at *
        go_wp2_with (go_at_call 170; refine (HHP.out _).mono ?_; rintro e w' ⟨rfl,rfl⟩)
        go_roundw
        case rel=>exact ⟨q+1,k2+1,by go_num,by omega,by have:=HQK.out; omega,HU3.out⟩
        case measure=>simp [intOf]; omega
     ·obtain rfl:q=nk:=by omega
      go_wp2
      go_roundw
      case rel=>exact ⟨j+1,k2,by go_num,by omega,by rw [HNEXT.out,HQK.out],HU2.out⟩
      case measure=>simp [intOf]; omega
   ·have hR:=HDONE.out k _ _ HU.out (by
     have h1:=HEND.out
     have h2:=HJK.out
     rw [show i0+j=nb by omega] at h2
     omega)
    have HR:=Lib.hid hR
    have hjd:decide ((j:Int) < ((nb - i0:Nat):Int))=false:=by simp; omega
    have hjn:¬ (j < nb - i0):=by omega
    clear hR
    go_wp2
    exact HR.out
end Go.Proofs.YtnkilceibkkjlaaGreat
namespace Go.Proofs.YtnkilceibkkjlaaGreat
open Go.RowKit
structure PairsAt (w:World) (a:Option Addr) (l:List Ent):Prop where
 at0:∀ k x,l[k]? = some x→∃ g,a=some ⟨g,0,none⟩∧w.cell? ⟨g,k*2,none⟩=some (.string x.1)∧w.cell? ⟨g,k*2+1,none⟩=some (.string x.2)
theorem Own.pairs {w:World} {v:Value} {l:List Ent} {n:Nat} (h:Own w 156 2 v n (pairV l)):∃ a c,v = .slice a n c∧PairsAt w a l:=by
 obtain ⟨a,c,rfl,hc⟩:=h.form
 refine ⟨a,c,rfl,⟨fun k x hk => ?_⟩⟩
 obtain ⟨h1,h2⟩:=pairV_get _ k x hk
 obtain ⟨g,rfl,e1⟩:=hc _ _ h1
 obtain ⟨g',e,e2⟩:=hc _ _ h2
 cases e
 exact ⟨g,rfl,e1,e2⟩
theorem PairsAt.to {w w':World} {a:Option Addr} {l:List Ent} (h:PairsAt w a l) (hh:w'.heap=w.heap):PairsAt w' a l :=
 ⟨fun k x hk=>by
  obtain ⟨g,h1,h2,h3⟩:=h.at0 k x hk
  exact ⟨g,h1,by rw [World.cell?_of_block (w:=w) (by rw [hh])]; exact h2,by rw [World.cell?_of_block (w:=w) (by rw [hh])]; exact h3⟩⟩
end Go.Proofs.YtnkilceibkkjlaaGreat
namespace Go.Proofs.YtnkilceibkkjlaaGreat
open Go.RowKit
def NoStore (w:World) (q:Option Addr):Prop:=q=none∨∃ b,q=some ⟨b,0,none⟩∧b < w.heap.size∧w.cell? ⟨b,0,none⟩=some (.bool false)
theorem NoStore.get {w:World} {q:Option Addr} (h:NoStore w q) (k:ByteArray):GetIs w q k emptyB false:=by
 rcases h with rfl | ⟨b,rfl,_,hc⟩
 ·exact get_nil w k
 ·exact get_zero w b k hc
theorem NoStore.made {w:World} {q:Option Addr} (h:NoStore w q):Calls Tryz.prog 66 #[.pointer q] w fun e w'=>e = .returned (.bool false)∧w=w':=by
 rcases h with rfl | ⟨b,rfl,_,hc⟩
 ·exact made_nil w
 ·exact made_at w b false hc
theorem NoStore.below {w w':World} {q:Option Addr} (h:NoStore w q) (hb:Below w.heap.size w w'):NoStore w' q:=by
 rcases h with rfl | ⟨b,rfl,hl,hc⟩
 ·exact .inl rfl
 ·exact .inr ⟨b,rfl,Nat.lt_of_lt_of_le hl hb.size,by rw [hb.cell hl]; exact hc⟩
theorem under_not (w:World) (q:Option Addr) (p:ByteArray) (h:NoStore w q):Calls Tryz.prog 101 #[.pointer q,.string p] w (RetPairs w []):=by
 have HI:Hid (Calls Tryz.prog 142 #[.pointer q] w fun e w'=>e = .returned (.bool false)∧w=w'):=by
  rcases h with rfl | ⟨b,rfl,_,hc⟩
  ·exact is_nil w
  ·exact is_at w b false hc
 clear h
 go_enter Tryz.func101,Tryz.ntmps101
 go_wp2_with (go_at_call 142; refine HI.out.mono ?_; rintro e w' ⟨rfl,rfl⟩)
 go_ret
 exact ⟨_,rfl,OutAt.start w⟩
def ReadAt (n:Nat) (w:World) (q:Option Addr) (s:St):Prop :=
 (∃ b L,q=some ⟨b,0,none⟩∧SRep w b s L∧s.size < 1000000000000∧(∀ k,(s.val k).size < 1000000000000)∧∀ k∈L,k < n)∨(NoStore w q∧(∀ a,q=some a→a.block < n)∧s=⟨[],[]⟩)
theorem ReadAt.under {n:Nat} {w:World} {q:Option Addr} {s:St} (h:ReadAt n w q s) (p:ByteArray):Calls Tryz.prog 101 #[.pointer q,.string p] w (RetPairs w (underE p s.ents)):=by
 rcases h with ⟨b,L,rfl,h,hz,_,_⟩ | ⟨h,_,rfl⟩
 ·exact under_any w b s L p h hz
 ·exact under_not w q p h
theorem ReadAt.int {n:Nat} {w:World} {q:Option Addr} {s:St} (h:ReadAt n w q s) (k:ByteArray):Calls Tryz.prog 99 #[.pointer q,.string k] w (RetInt w (s.int k)):=by
 rcases h with ⟨b,L,rfl,h,_,hv,_⟩ | ⟨h,_,rfl⟩
 ·exact int_at w b s L k h (hv k)
 ·exact (int_none w q k (h.get k)).mono fun e w' ⟨he,hw⟩=>⟨he,by subst hw; exact Below.refl _ _⟩
theorem ReadAt.below {n:Nat} {w w':World} {q:Option Addr} {s:St} (h:ReadAt n w q s) (hb:Below n w w'):ReadAt n w' q s:=by
 rcases h with ⟨b,L,rfl,h,hz,hv,hl⟩ | ⟨h,hl,rfl⟩
 ·exact .inl ⟨b,L,rfl,h.frame fun k hk=>hb.block k (hl k hk),hz,hv,hl⟩
 ·refine .inr ⟨?_,hl,rfl⟩
  rcases h with rfl | ⟨b,rfl,hlt,hc⟩
  ·exact .inl rfl
  ·exact .inr ⟨b,rfl,Nat.lt_of_lt_of_le hlt hb.size,by rw [hb.cell (hl _ rfl)]; exact hc⟩
theorem ReadAt.up {n m:Nat} {w:World} {q:Option Addr} {s:St} (h:ReadAt n w q s) (hm:n≤m):ReadAt m w q s:=by
 rcases h with ⟨b,L,rfl,h,hz,hv,hl⟩ | ⟨h,hl,rfl⟩
 ·exact .inl ⟨b,L,rfl,h,hz,hv,fun k hk=>Nat.lt_of_lt_of_le (hl k hk) hm⟩
 ·exact .inr ⟨h,fun a ha=>Nat.lt_of_lt_of_le (hl a ha) hm,rfl⟩
theorem ReadAt.made {w:World} {b:Nat} {s:St} {L:List Nat} {m:Nat} (h:SRep w b s L) (hf:s.Fit m) (hm:m < 100000000000):ReadAt w.heap.size w (some ⟨b,0,none⟩) s :=
 .inl ⟨b,L,rfl,h,by have:=hf.size; omega,fun k=>hf.val' k,h.lt⟩
theorem ReadAt.not {w:World} {q:Option Addr} (h:NoStore w q):ReadAt w.heap.size w q ⟨[],[]⟩:=by
 refine .inr ⟨h,fun a ha => ?_,rfl⟩
 rcases h with rfl | ⟨b,rfl,hl,_⟩
 ·cases ha
 ·cases ha; exact hl
end Go.Proofs.YtnkilceibkkjlaaGreat
namespace Go.Proofs.YtnkilceibkkjlaaGreat
open Go.RowKit
theorem intsAt_cells {w:World} {g:Nat} {l:List Int} (h:∀ j x,l[j]? = some x→w.cell? ⟨g,j,none⟩=some (.int .i64 x)):IntsAt w (.slice (some ⟨g,0,none⟩) l.length l.length) l :=
 .inr ⟨_,_,rfl,fun j x hj=>by rw [Addr.add_lit,Nat.zero_add]; exact h j x hj⟩
theorem bl_alloc {w W:World} (h:Below w.heap.size w W) (o:Obj):Below w.heap.size w (W.alloc o):=h.alloc h.size o
theorem bl_drew {w W:World} (h:Below w.heap.size w W):Below w.heap.size w W.drew:=⟨h.os,h.tape,h.output,h.size,h.block⟩
theorem bl_then {w W W':World} (h:Below w.heap.size w W) (hb:Below W.heap.size W W'):Below w.heap.size w W':=h.trans (hb.mono h.size)
theorem bl_cell {W W':World} (hb:Below W.heap.size W W') {p:Addr} {v:Value} (h:W.cell? p=some v):W'.cell? p=some v:=by
 rw [hb.cell (World.block_lt_of_cell? W _ h)]; exact h
def NoE (s:St):Prop:=s.val emptyB=emptyB
theorem NoE.put {s:St} (h:NoE s) (hs:Sorted s.ents) {k v:ByteArray} (hk:k≠emptyB):NoE (s.put k v):=by
 unfold NoE
 rw [val_put s hs k v emptyB hk,if_neg hk]; exact h
theorem keyL_some (t:Nat) {l:List Int} (h:∀ x∈l,0≤x):keyL t l≠emptyB:=fun e=>by
 have:=congrArg ByteArray.size e
 rw [keyL_pos (by intro x hx; have:=h x hx; omega)] at this
 have h1:(⟨(keyBytes t l).toArray⟩:ByteArray).size=1+8*l.length:=by
  show (keyBytes t l).toArray.size=_
  rw [List.size_toArray,keyBytes_len]
 rw [h1] at this
 have h2:emptyB.size=0:=rfl
 omega
theorem results_cell_row2 {P:Program} {fn:Func} {p u:Tmp} {ty:TypeId} (h:fn.results = #[.cell p ty,.tmp u]) (tmps:Array Value) (w:World) (g:Nat) (t:TypeId) (cs:Array Value) (fr:Nat × Nat) (d:TypeDesc)
  (hp:tmps.getD p undef = .pointer (some ⟨g,0,none⟩)) (hg:w.heap[g]? = some (.cells cs t fr))
  (hu:P.underlying ty=some d) (hd:(match d with | .struct _ | .array _ _=>true | _=>false)=true) (hi:(P.info? ty).map (·.size)=some cs.size) :
  (results fn tmps).run P w = .ok (.tuple #[.agg cs,tmps.getD u undef]) w:=by
 rw [results_cell_tmp h,hp]
 simp [asAddr,Result.andThen,run_loadVar_row w g t ty cs fr d hg hu hd hi]
theorem setCell_row {w:World} {b off:Nat} {cs:Array Value} {t:TypeId} {fr:Nat × Nat} (v:Value) (h:w.heap[b]? = some (.cells cs t fr)):(w.setCell ⟨b,off,none⟩ v).heap[b]? = some (.cells (cs.setIfInBounds off v) t fr):=by
 rw [setCell_eq_setRow w b off _ _ _ v h]; exact setRow_heap w b _ _ _ _ h
end Go.Proofs.YtnkilceibkkjlaaGreat
