/- What is proved here: a store's rows of keys in memory; slices.Insert of one element in one statement; slices.Clone of a row's end. a store's rows of keys in memory, as one statement; what a write into a row of rows leaves. No condition. -/
import Derived.Test.YtnkilceibkkjlaaGreatHInsertG
import Derived.Test.YtnkilceibkkjlaaGreatHDeleteG
set_option maxRecDepth 100000
set_option maxHeartbeats 16000000
namespace Go.Proofs.YtnkilceibkkjlaaGreat
open Go.RowKit
def strs (l:List ByteArray):List Value:=l.map Value.string
theorem strs_len (l:List ByteArray):(strs l).length=l.length:=List.length_map _
theorem strs_one (l:List ByteArray):∀ u∈strs l,u.oneCell'=true:=by
 intro u hu
 obtain ⟨x,_,rfl⟩:=List.mem_map.1 hu
 rfl
theorem vals_one (l:List Blk):∀ u∈l.map Blk.val,u.oneCell'=true:=by
 intro u hu
 obtain ⟨x,_,rfl⟩:=List.mem_map.1 hu
 rfl
theorem insK_all (w:World) (g c:Nat) (xs:List ByteArray) (vb:Nat) (x:ByteArray) (i:Nat) (hi:i≤xs.length)
  (ho:Own w 9 1 (.slice (some ⟨g,0,none⟩) xs.length c) xs.length (strs xs))
  (hv:w.heap[vb]? = some (.cells #[.string x] 9 (0,0))) (hvg:vb≠g) (hb:xs.length < 1099511627776) :
  Calls Tryz.prog 239 #[.slice (some ⟨g,0,none⟩) xs.length c,.int .i64 i,.slice (some ⟨vb,0,none⟩) 1 1] w (RetIns w 9 g i (.string x) (strs xs)):=by
 rcases ho.2 with ⟨h,_⟩ | ⟨g',c',cur,h,hg,hnc,hcm,hcs,hx⟩
 ·cases h
 ·cases h
  rw [Nat.mul_one] at hcs hx
  rcases Nat.eq_or_lt_of_le hi with rfl | hi
  ·exact insK_end w g c cur (strs xs) vb (.string x) xs.length (strs_len xs).symm hg hnc hcm hcs hx hv rfl hb
  ·by_cases hr:xs.length+1≤c
   ·exact insK_shift w g c cur (strs xs) vb (.string x) xs.length i (strs_len xs).symm hi hg hnc hcm hcs hx hr hv hvg rfl (strs_one xs) hb
   ·exact insK_grow w g c cur (strs xs) vb (.string x) xs.length i (strs_len xs).symm hi hg hnc hcm hcs hx (by omega) hv rfl (strs_one xs) hb
theorem insB_all (w:World) (g c:Nat) (xs:List Blk) (vb:Nat) (x:Value) (i:Nat) (hi:i≤xs.length)
  (ho:Own w 220 1 (.slice (some ⟨g,0,none⟩) xs.length c) xs.length (xs.map Blk.val))
  (hv:w.heap[vb]? = some (.cells #[x] 220 (0,0))) (hvg:vb≠g) (hx1:x.oneCell'=true) (hb:xs.length < 1099511627776) :
  Calls Tryz.prog 240 #[.slice (some ⟨g,0,none⟩) xs.length c,.int .i64 i,.slice (some ⟨vb,0,none⟩) 1 1] w (RetIns w 220 g i x (xs.map Blk.val)):=by
 have hl:xs.length=(xs.map Blk.val).length:=by simp
 rcases ho.2 with ⟨h,_⟩ | ⟨g',c',cur,h,hg,hnc,hcm,hcs,hx⟩
 ·cases h
 ·cases h
  rw [Nat.mul_one] at hcs hx
  rcases Nat.eq_or_lt_of_le hi with rfl | hi
  ·exact insB_end w g c cur (xs.map Blk.val) vb x xs.length hl hg hnc hcm hcs hx hv hx1 hb
  ·by_cases hr:xs.length+1≤c
   ·exact insB_shift w g c cur (xs.map Blk.val) vb x xs.length i hl hi hg hnc hcm hcs hx hr hv hvg hx1 (vals_one xs) hb
   ·exact insB_grow w g c cur (xs.map Blk.val) vb x xs.length i hl hi hg hnc hcm hcs hx (by omega) hv hx1 (vals_one xs) hb
structure Cloned (w:World) (e:TypeId) (xs:List Value) (v':Value) (w':World):Prop where
 own:Own w' e 1 v' xs.length xs
 fr:Fr (fun _=>False) w w'
 block:∀ k,v'.ownBlock=some k→w.heap.size≤k
def RetClone (w:World) (e:TypeId) (xs:List Value) (en:Ending) (w':World):Prop:=∃ v',en = .returned v'∧Cloned w e xs v' w'
theorem cloneK_any (w:World) (a:Addr) (c:Nat) (xs:List ByteArray)
  (hc:∀ j u,(strs xs)[j]? = some u→w.cell? (a.add j)=some u) (hb:xs.length < 1099511627776) :
  Calls Tryz.prog 241 #[.slice (some a) xs.length c] w (RetClone w 9 (strs xs)):=by
 have hown:Own (w.alloc (.cells #[] 9)) 9 1 (.slice (some ⟨w.heap.size,0,none⟩) 0 0) 0 [] :=
  ⟨rfl,.inr ⟨w.heap.size,0,#[],rfl,heap_alloc_new w _,Nat.le_refl _,Nat.zero_le _,Nat.zero_le _,rfl⟩⟩
 have hc':∀ j u,(strs xs)[j]? = some u→(w.alloc (.cells #[] 9)).cell? (a.add j)=some u:=fun j u hj=>by
  have h1:=hc j u hj
  rw [World.cell?_of_block (heap_alloc_old w _ (World.block_lt_of_cell? w _ h1))]
  exact h1
 have hmx:0+xs.length≤maxLen:=by unfold maxLen; omega
 have HL:=Lib.hid (strs_len xs)
 obtain ⟨n,hn⟩:∃ n,xs.length=n:=⟨_,rfl⟩
 rw [hn] at hmx HL hb ⊢
 clear hc hn
 have hsn:=fun (w:World)=>Lib.run_eql_slice_nil (P:=Tryz.prog) w 220 9 (some a) n c 0 0 insKT.und
 go_enter Tryz.func241,Tryz.ntmps241
 go_wp2_with (at_builtin; refine wpList_append_Own rfl _ _ 220 220 rfl insKT insKT _ 0 [] rfl hown _ n _ (strs xs) rfl (by rw [HL.out]; omega) hc' (strs_one xs) hmx (by omega) ?_)
 intro v' w' hA
 go_wp2
 go_ret
 have hO:=hA.own
 refine ⟨_,rfl,?_,?_,?_⟩
 ·rw [HL.out]; simpa using hO
 ·exact ((Fr.refl _ w).alloc _).grown hA.grown (fun k hk=>by simp [Value.ownBlock] at hk; exact .inl (by omega))
 ·intro k hk
  rcases hA.block k hk with h | h
  ·simp [Value.ownBlock] at h; omega
  ·simp at h; omega
def Blk.At (w:World) (x:Blk):Prop:=x.keys≠[]∧Own w 9 1 x.val x.keys.length (strs x.keys)
def kids (bv:Value) (bs:List Blk):List Nat:=bv.ownBlock.toList ++ bs.map Blk.g
structure KRep (w:World) (bv:Value) (bs:List Blk):Prop where
 row:Own w 220 1 bv bs.length (bs.map Blk.val)
 rows:∀ x∈bs,x.At w
 srt:KSorted (allKeys bs)
 nd:(kids bv bs).Nodup
theorem Blk.At.lt {w:World} {x:Blk} (h:x.At w):x.g < w.heap.size:=h.2.lt x.g rfl
theorem KRep.lt {w:World} {bv:Value} {bs:List Blk} (h:KRep w bv bs):∀ k∈kids bv bs,k < w.heap.size:=by
 intro k hk
 rcases List.mem_append.1 hk with hk | hk
 ·exact h.row.lt k (by simpa using hk)
 ·obtain ⟨x,hx,rfl⟩:=List.mem_map.1 hk
  exact (h.rows x hx).lt
theorem Blk.At.frame {w w':World} {x:Blk} (h:x.At w) (hb:w'.heap[x.g]? = w.heap[x.g]?):x.At w' :=
 ⟨h.1,h.2.frame fun k hk=>by simp [Blk.val,Value.ownBlock] at hk; subst hk; exact hb⟩
theorem KRep.frame {w w':World} {bv:Value} {bs:List Blk} (h:KRep w bv bs) (hb:∀ k∈kids bv bs,w'.heap[k]? = w.heap[k]?):KRep w' bv bs :=
 ⟨h.row.frame fun k hk=>hb k (by simp [kids,hk]),fun x hx=>(h.rows x hx).frame (hb _ (List.mem_append.2 (.inr (List.mem_map.2 ⟨x,hx,rfl⟩)))),h.srt,h.nd⟩
theorem KRep.fr {S:Nat→Prop} {w w':World} {bv:Value} {bs:List Blk} (h:KRep w bv bs) (hf:Fr S w w') (hn:∀ k∈kids bv bs,¬ S k):KRep w' bv bs :=
 h.frame fun k hk=>hf.block k (h.lt k hk) (hn k hk)
theorem KRep.ne {w:World} {bv:Value} {bs:List Blk} (h:KRep w bv bs):∀ x∈bs,x.keys≠[]:=fun x hx=>(h.rows x hx).1
theorem KRep.lasts {w:World} {g c:Nat} {bs:List Blk} (h:KRep w (.slice (some ⟨g,0,none⟩) bs.length c) bs) (hb:(allKeys bs).length < 1099511627776):LastsAt w g bs:=by
 have hc:=h.row.cells (g:=g) rfl
 refine ⟨fun j hj => ?_,fun j hj => ?_⟩
 ·have:=hc j bs[j].val (by simp [List.getElem?_eq_getElem hj])
  rwa [Addr.add_lit,Nat.zero_add] at this
 ·have hx:=h.rows _ (List.getElem_mem hj)
  have hl:=keys_le_all (List.getElem_mem hj)
  obtain ⟨n,hn⟩:∃ n,bs[j].keys.length=n+1:=⟨bs[j].keys.length - 1,by have:=List.length_pos_iff.2 hx.1; omega⟩
  refine ⟨n,hn,by omega,?_⟩
  have:=hx.2.cells (g:=bs[j].g) rfl n (.string bs[j].last) (by simp [strs,Blk.last_eq hn])
  rwa [Addr.add_lit,Nat.zero_add] at this
theorem Own.setCell {w:World} {e:TypeId} {g n c:Nat} {xs:List Value} (h:Own w e 1 (.slice (some ⟨g,0,none⟩) n c) n xs) (i:Nat) (u:Value):Own (w.setCell ⟨g,i,none⟩ u) e 1 (.slice (some ⟨g,0,none⟩) n c) n (xs.set i u):=by
 refine ⟨by simpa using h.1,?_⟩
 rcases h.2 with ⟨h1,_⟩ | ⟨g',c',cur,h1,hg,hnc,hcm,hcs,hx⟩
 ·cases h1
 ·cases h1
  refine .inr ⟨g,c,cur.setIfInBounds i u,rfl,?_,hnc,hcm,by simpa using hcs,?_⟩
  ·rw [setCell_eq_setRow w g i cur e (0,0) u hg]; exact setRow_heap w g cur _ e _ hg
  ·rw [← hx,Array.toList_setIfInBounds]
   exact List.take_set
theorem Own.inv {w:World} {e:TypeId} {v:Value} {n:Nat} {xs:List Value} (h:Own w e 1 v n xs) (hn:0 < n):∃ g c,v = .slice (some ⟨g,0,none⟩) n c:=by
 rcases h.2 with ⟨_,h1⟩ | ⟨g,c,cur,h1,_⟩
 ·omega
 ·exact ⟨g,c,h1⟩
theorem Own.cut {w:World} {e:TypeId} {g n c:Nat} {xs:List Value} (h:Own w e 1 (.slice (some ⟨g,0,none⟩) n c) n xs) (k:Nat) (hk:k≤n):Own w e 1 (.slice (some ⟨g,0,none⟩) k k) k (xs.take k):=by
 rcases h.2 with ⟨h1,_⟩ | ⟨g',c',cur,h1,hg,hnc,hcm,hcs,hx⟩
 ·cases h1
 ·cases h1
  have hl:=h.1
  refine ⟨by simp; omega,.inr ⟨g,k,cur,rfl,hg,Nat.le_refl _,by omega,by omega,?_⟩⟩
  rw [← hx,List.take_take]
  congr 1; omega
theorem frozen_own {w:World} {e:TypeId} {size g n c:Nat} {xs:List Value} (h:Own w e size (.slice (some ⟨g,0,none⟩) n c) n xs) (i:Nat):w.frozen? ⟨g,i,none⟩=false:=by
 rcases h.2 with ⟨h1,_⟩ | ⟨g',c',cur,h1,hg,hnc,hcm,hcs,hx⟩
 ·cases h1
 ·cases h1; exact frozen_of_row w g i cur e hg
def headObj (m:Bool) (mv bv pv:Value):Obj:=.cells #[.bool m,mv,bv,pv] 93 (0,0)
theorem head_set2 {w:World} {b:Nat} {m:Bool} {mv bv pv:Value} (h:w.heap[b]? = some (headObj m mv bv pv)) (v:Value):(w.setCell ⟨b,2,none⟩ v).heap[b]? = some (headObj m mv v pv):=by
 rw [setCell_eq_setRow w b 2 _ _ _ v h]; exact setRow_heap w b _ _ _ _ h
theorem head_set3 {w:World} {b:Nat} {m:Bool} {mv bv pv:Value} (h:w.heap[b]? = some (headObj m mv bv pv)) (v:Value):(w.setCell ⟨b,3,none⟩ v).heap[b]? = some (headObj m mv bv v):=by
 rw [setCell_eq_setRow w b 3 _ _ _ v h]; exact setRow_heap w b _ _ _ _ h
theorem head_cell {w:World} {b:Nat} {m:Bool} {mv bv pv:Value} (h:w.heap[b]? = some (headObj m mv bv pv)) :
  w.cell? ⟨b,0,none⟩=some (.bool m)∧w.cell? ⟨b,1,none⟩=some mv∧w.cell? ⟨b,2,none⟩=some bv∧w.cell? ⟨b,3,none⟩=some pv∧∀ j,w.frozen? ⟨b,j,none⟩=false:=by
 refine ⟨?_,?_,?_,?_,fun j=>frozen_of_row w b j _ _ h⟩
 all_goals rw [cell_of_row w b _ _ _ _ h]; rfl
structure Keyed (w:World) (b:Nat) (bv:Value) (bs:List Blk) (mv pv:Value) (ks:List ByteArray) (w':World):Prop where
 ex:∃ bv' bs',w'.heap[b]? = some (headObj true mv bv' pv)∧KRep w' bv' bs'∧allKeys bs'=ks∧(∀ k∈kids bv' bs',k∈kids bv bs∨w.heap.size≤k)
 fr:Fr (fun k=>k=b∨k∈kids bv bs) w w'
def RetKeyed (w:World) (b:Nat) (bv:Value) (bs:List Blk) (mv pv:Value) (ks:List ByteArray) (e:Ending) (w':World):Prop:=e = .returned (.tuple #[])∧Keyed w b bv bs mv pv ks w'
theorem enter_first (w:World) (b:Nat) (bv mv pv:Value) (k:ByteArray) (hh:w.heap[b]? = some (headObj true mv bv pv)) (hK:KRep w bv []) :
  Calls Tryz.prog 206 #[.pointer (some ⟨b,0,none⟩),.string k] w (RetKeyed w b bv [] mv pv [k]):=by
 have hbw:=lt_of_at hh
 obtain ⟨_,_,hb2,_,hfz⟩:=head_cell hh
 have hfz2:=hfz 2
 obtain ⟨a,c,hbv⟩:∃ a c,bv = .slice a 0 c:=by
  rcases hK.row.2 with ⟨h1,_⟩ | ⟨g,c,cur,h1,_⟩
  ·exact ⟨none,0,h1⟩
  ·exact ⟨_,_,h1⟩
 have HH:=Lib.hid hh
 have HK:=Lib.hid hK
 have HB:=Lib.hid hbv
 rw [hbv] at hb2
 clear hh hK hbv hfz
 go_enter Tryz.func206,Tryz.ntmps206
 go_wp2
 go_returns
 have h1:=head_set2 HH.out (.slice (some ⟨w.heap.size+1,0,none⟩) 1 1)
 have hF:Fr (fun j=>j=b∨j∈kids bv []) w (w.setCell ⟨b,2,none⟩ (.slice (some ⟨w.heap.size+1,0,none⟩) 1 1)):=(Fr.refl _ w).setCell _ _ (.inr (.inl rfl))
 have hs:(w.setCell ⟨b,2,none⟩ (.slice (some ⟨w.heap.size+1,0,none⟩) 1 1)).heap.size=w.heap.size:=by simp
 generalize hw1:w.setCell ⟨b,2,none⟩ (.slice (some ⟨w.heap.size+1,0,none⟩) 1 1)=w1 at *
 have hbw1:=lt_of_at h1
 simp only [← hs] at h1 ⊢
 refine ⟨rfl,⟨⟨.slice (some ⟨w1.heap.size+1,0,none⟩) 1 1,[⟨w1.heap.size,1,[k]⟩],?_,⟨?_,?_,?_,?_⟩,rfl,?_⟩,?_⟩⟩
 ·rw [heap_alloc_old (w1.alloc _) _ (by simp; omega),heap_alloc_old w1 _ hbw1]; exact h1
 ·exact Own.whole (xs:=[.slice (some ⟨w1.heap.size,0,none⟩) 1 1]) rfl (heap_alloc2_new w1 _ _) (by decide)
 ·intro x hx
  rw [List.mem_singleton.1 hx]
  exact ⟨by simp,Own.whole (xs:=[.string k]) rfl (heap_alloc2_old w1 _ _) (by show 1≤maxLen; decide)⟩
 ·simp [allKeys,KSorted]
 ·simp [kids,Value.ownBlock]
 ·intro j hj
  simp [kids,Value.ownBlock] at hj
  right; omega
 ·exact (hF.alloc _).alloc _
end Go.Proofs.YtnkilceibkkjlaaGreat
