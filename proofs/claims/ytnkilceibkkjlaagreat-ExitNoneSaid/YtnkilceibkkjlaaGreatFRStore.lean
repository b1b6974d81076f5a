/- What is proved here: the reference's store in memory as one statement (RAt, RRep): its entries in order, what can be undone; what its look-ups return. No condition. the reference's lay: an entry put or taken out. Its condition: fewer than 10^12 entries. the reference's store: Set and Delete. Their condition: fewer than 10^12 entries and changes. -/
import Derived.Test.YtnkilceibkkjlaaGreatFStore
import Derived.Test.YtnkilceibkkjlaaGreatFBase
set_option maxRecDepth 100000
set_option maxHeartbeats 16000000
namespace Go.Proofs.YtnkilceibkkjlaaGreat
open Go.RowKit
def pairV (l:List Ent):List Value:=l.flatMap fun x => [.string x.1,.string x.2]
theorem pairV_len (l:List Ent):(pairV l).length=l.length*2:=by
 unfold pairV
 induction l with
 | nil=>rfl
 | cons x l ih=>simp only [List.flatMap_cons,List.length_append,List.length_cons,List.length_nil] at ih ⊢; omega
theorem pairV_append (a b:List Ent):pairV (a ++ b)=pairV a ++ pairV b:=List.flatMap_append
theorem pairV_get (l:List Ent) (k:Nat) (x:Ent) (h:l[k]? = some x):(pairV l)[k*2]? = some (.string x.1)∧(pairV l)[k*2+1]? = some (.string x.2):=by
 induction l generalizing k with
 | nil=>simp at h
 | cons y l ih =>
  cases k with
  | zero=>simp at h; subst h; simp [pairV]
  | succ k =>
   simp at h
   have:=ih k h
   have e1:(k+1)*2=k*2+1+1:=by omega
   rw [e1]
   have e2:pairV (y :: l) = .string y.1 :: .string y.2 :: pairV l:=rfl
   rw [e2]
   simpa using this
structure RAt (w:World) (b:Nat) (lv pv:Value) (s:St):Prop where
 hd:w.heap[b]? = some (.cells #[lv,pv] 45 (0,0))
 ls:Own w 156 2 lv s.ents.length (pairV s.ents)
 ps:Own w 244 3 pv s.past.length (s.past.flatMap wasCells)
 srt:Sorted s.ents
 nd:(b :: (lv.ownBlock.toList ++ pv.ownBlock.toList)).Nodup
def rids (b:Nat) (lv pv:Value):List Nat:=b :: (lv.ownBlock.toList ++ pv.ownBlock.toList)
def RRep (w:World) (b:Nat) (s:St) (L:List Nat):Prop:=∃ lv pv,RAt w b lv pv s∧L=rids b lv pv
theorem RAt.lt {w:World} {b:Nat} {lv pv:Value} {s:St} (h:RAt w b lv pv s):∀ k∈rids b lv pv,k < w.heap.size:=by
 intro k hk
 simp only [rids,List.mem_cons,List.mem_append] at hk
 rcases hk with rfl | hk | hk
 ·exact lt_of_at h.hd
 ·exact h.ls.lt k (by simpa using hk)
 ·exact h.ps.lt k (by simpa using hk)
theorem RAt.frame {w w':World} {b:Nat} {lv pv:Value} {s:St} (h:RAt w b lv pv s) (hb:∀ k∈rids b lv pv,w'.heap[k]? = w.heap[k]?):RAt w' b lv pv s :=
 ⟨by rw [hb b (by simp [rids])]; exact h.hd,h.ls.frame fun k hk=>hb k (by simp [rids,hk]),h.ps.frame fun k hk=>hb k (by simp [rids,hk]),h.srt,h.nd⟩
theorem RRep.lt {w:World} {b:Nat} {s:St} {L:List Nat} (h:RRep w b s L):∀ k∈L,k < w.heap.size:=by
 obtain ⟨lv,pv,h,rfl⟩:=h; exact h.lt
theorem RRep.frame {w w':World} {b:Nat} {s:St} {L:List Nat} (h:RRep w b s L) (hb:∀ k∈L,w'.heap[k]? = w.heap[k]?):RRep w' b s L:=by
 obtain ⟨lv,pv,h,rfl⟩:=h; exact ⟨lv,pv,h.frame hb,rfl⟩
theorem RRep.fr {S:Nat→Prop} {w w':World} {b:Nat} {s:St} {L:List Nat} (h:RRep w b s L) (hf:Fr S w w') (hn:∀ k∈L,¬ S k):RRep w' b s L :=
 h.frame fun k hk=>hf.block k (h.lt k hk) (hn k hk)
theorem RRep.below {w w':World} {b:Nat} {s:St} {L:List Nat} (h:RRep w b s L) (hb:Below w.heap.size w w'):RRep w' b s L :=
 h.frame fun k hk=>hb.block k (h.lt k hk)
theorem RRep.srt {w:World} {b:Nat} {s:St} {L:List Nat} (h:RRep w b s L):Sorted s.ents:=by
 obtain ⟨lv,pv,h,rfl⟩:=h; exact h.srt
theorem Own.form {w:World} {e:TypeId} {size:Nat} {v:Value} {n:Nat} {xs:List Value} (h:Own w e size v n xs):∃ a c,v = .slice a n c∧∀ j u,xs[j]? = some u→∃ g,a=some ⟨g,0,none⟩∧w.cell? ⟨g,j,none⟩=some u:=by
 rcases h.2 with ⟨rfl,rfl⟩ | ⟨g,c,cur,rfl,hg,_⟩
 ·refine ⟨none,0,rfl,fun j u hj => ?_⟩
  have:=h.1
  rw [Nat.zero_mul] at this
  rw [List.eq_nil_of_length_eq_zero this] at hj
  cases hj
 ·refine ⟨_,c,rfl,fun j u hj=>⟨g,rfl,?_⟩⟩
  have:=h.cells (g:=g) rfl j u hj
  rwa [Addr.add_lit,Nat.zero_add] at this
structure REnts (w:World) (b:Nat) (l:List Ent) (a:Option Addr) (c:Nat):Prop where
 hd:w.cell? ⟨b,0,none⟩=some (.slice a l.length c)
 at0:∀ k x,l[k]? = some x→∃ g,a=some ⟨g,0,none⟩∧w.cell? ⟨g,k*2,none⟩=some (.string x.1)∧w.cell? ⟨g,k*2+1,none⟩=some (.string x.2)
theorem RAt.ents {w:World} {b:Nat} {lv pv:Value} {s:St} (h:RAt w b lv pv s):∃ a c,lv = .slice a s.ents.length c∧REnts w b s.ents a c:=by
 obtain ⟨a,c,rfl,hc⟩:=h.ls.form
 refine ⟨a,c,rfl,by rw [cell_of_row _ _ _ _ _ _ h.hd]; rfl,fun k x hk => ?_⟩
 obtain ⟨h1,h2⟩:=pairV_get _ k x hk
 obtain ⟨g,rfl,e1⟩:=hc _ _ h1
 obtain ⟨g',e,e2⟩:=hc _ _ h2
 cases e
 exact ⟨g,rfl,e1,e2⟩
theorem pairT:SliceT Tryz.prog 42 156 (.agg #[.string ⟨#[]⟩,.string ⟨#[]⟩]) 2 32:=⟨by kernel_rfl,by kernel_rfl,rfl,by decide⟩
def OutAt (w wr:World) (v:Value) (n:Nat) (l:List Ent):Prop:=Own wr 156 2 v n (pairV l)∧(∀ g,v.ownBlock=some g→w.heap.size≤g)∧Below w.heap.size w wr
theorem OutAt.len {w wr:World} {v:Value} {n:Nat} {l:List Ent} (h:OutAt w wr v n l):l.length=n:=by
 have:=h.1.1; rw [pairV_len] at this; omega
theorem OutAt.start (w:World):OutAt w w (.slice none 0 0) 0 []:=⟨Own.nil _ _ _,fun g hg=>by simp [Value.ownBlock] at hg,Below.refl _ _⟩
theorem OutAt.alloc {w wr:World} {v:Value} {n:Nat} {l:List Ent} (h:OutAt w wr v n l) (o:Obj):OutAt w (wr.alloc o) v n l :=
 ⟨h.1.fr ((Fr.refl (fun _=>False) wr).alloc _) (fun _ _=>id),h.2.1,h.2.2.alloc h.2.2.size _⟩
theorem OutAt.next {w wr:World} {v:Value} {n:Nat} {l:List Ent} (h:OutAt w wr v n l) {m:Nat} {l2:List Ent} {v':Value} {w':World} (hA:Appended wr 156 2 v n m (pairV l) (pairV l2) v' w'):OutAt w w' v' (n+m) (l ++ l2):=by
 refine ⟨by rw [pairV_append]; exact hA.own,fun g hg => ?_,h.2.2.grown hA.grown h.2.2.size h.2.1⟩
 rcases hA.block g hg with h1 | h1
 ·exact h.2.1 g h1
 ·exact Nat.le_trans h.2.2.size h1
theorem two_one (a b:ByteArray):∀ u∈[Value.string a,Value.string b],u.oneCell'=true:=by
 intro u hu
 simp at hu
 rcases hu with rfl | rfl <;> rfl
theorem news_two (w:World) (x y:Value) (t:TypeId):∀ j u,[x,y][j]? = some u→(w.alloc (.cells #[x,y] t)).cell? ((⟨w.heap.size,0,none⟩:Addr).add j)=some u:=fun j u hj=>by
 rw [Addr.add_lit,cell_of_row _ _ _ _ _ _ (heap_alloc_new w _)]
 simpa using hj
def RetR (w:World) (b:Nat) (L:List Nat) (v:Value) (s':St) (e:Ending) (w':World):Prop:=e = .returned v∧∃ L',RRep w' b s' L'∧Step w L w' L'
end Go.Proofs.YtnkilceibkkjlaaGreat
