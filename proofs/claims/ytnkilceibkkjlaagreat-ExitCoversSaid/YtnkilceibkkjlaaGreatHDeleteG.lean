/- What is proved here: slices.Delete of one element out of a slice of the program's own: the elements without it, at the head of the same block; nothing else changes. looking up, writing and deleting in a map from texts to texts, held against a sorted table of entries. -/
import Derived.Test.YtnkilceibkkjlaaGreatHInsertG
import Derived.Test.YtnkilceibkkjlaaGreatHBase
set_option maxRecDepth 100000
set_option maxHeartbeats 16000000
namespace Go.Proofs.YtnkilceibkkjlaaGreat
open Go.RowKit
theorem del_list {A:Type} (cur xs:List A) (z:A) (m i:Nat) (hi:i < xs.length) (hc:cur.take xs.length=xs) (_hm:m=1) :
  (((cur.take i ++ xs.drop (i+1) ++ cur.drop (i+(xs.drop (i+1)).length)).take (xs.length - 1) ++ List.replicate m z ++ (cur.take i ++ xs.drop (i+1) ++ cur.drop (i+(xs.drop (i+1)).length)).drop (xs.length - 1+m)).take (xs.length - 1))=xs.take i ++ xs.drop (i+1):=by
 have hl:xs.length≤cur.length:=by have:=congrArg List.length hc; simp at this; omega
 have h1:(cur.take i ++ xs.drop (i+1) ++ cur.drop (i+(xs.drop (i+1)).length)).take (xs.length - 1)=xs.take i ++ xs.drop (i+1):=by
  rw [List.take_append_of_le_length (by simp; omega),List.take_of_length_le (by simp; omega)]
  congr 1
  rw [← hc,List.take_take]; congr 1; omega
 rw [h1,List.append_assoc,List.take_append_of_le_length (by simp; omega),List.take_of_length_le (by simp; omega)]
structure Deleted (w:World) (e:TypeId) (g c i:Nat) (xs:List Value) (v':Value) (w':World):Prop where
 val:v' = .slice (some ⟨g,0,none⟩) (xs.length - 1) c
 own:Own w' e 1 v' (xs.length - 1) (xs.take i ++ xs.drop (i+1))
 fr:Fr (· = g) w w'
def RetDel (w:World) (e:TypeId) (g c i:Nat) (xs:List Value) (en:Ending) (w':World):Prop:=∃ v',en = .returned v'∧Deleted w e g c i xs v' w'
theorem delK_any (w:World) (g c:Nat) (cur:Array Value) (xs:List Value) (n i:Nat) (hn:n=xs.length) (hi:i < n)
  (hg:w.heap[g]? = some (.cells cur 9 (0,0))) (hnc:n≤c) (hcm:c≤maxLen) (hcs:c≤cur.size) (hx:cur.toList.take n=xs)
  (hoxs:∀ u∈xs,u.oneCell'=true) :
  Calls Tryz.prog 242 #[.slice (some ⟨g,0,none⟩) n c,.int .i64 i,.int .i64 (i+1:Nat)] w (RetDel w 9 g c i xs):=by
 have hlen:cur.toList.length=cur.size:=rfl
 obtain ⟨k,hk⟩:∃ k,k=n - 1:=⟨_,rfl⟩
 have hld:(xs.drop (i+1)).length=n - (i+1):=by simp; omega
 have hkn:i+(n - (i+1))=k:=by omega
 obtain ⟨w2,hw2⟩:∃ w2,w2=w.drew.setRow g (cur.toList.take i ++ xs.drop (i+1) ++ cur.toList.drop (i+(xs.drop (i+1)).length)).toArray:=⟨_,rfl⟩
 have hap:∀ ty ad,(∀ j u,(xs.drop (i+1))[j]? = some u→w.drew.cell? (ad.add j)=some u) →
   (Builtin.append_ #[220,220] ty #[.slice (some ⟨g,0,none⟩) i c,.slice (some ad) (n - (i+1)) (c - (i+1))]).run Tryz.prog w.drew = .ok (.slice (some ⟨g,0,none⟩) k c) w2:=fun ty ad had=>by
  have:=run_append_roomT (w:=w.drew) insKT insKT ty (g:=g) (n:=i) (cap:=c) hg (ad:=ad) (m:=n - (i+1)) (c:=c - (i+1)) (xs.drop (i+1)) (by omega) had (fun u hu=>hoxs u (List.mem_of_mem_drop hu)) (by omega) (by rw [hld]; omega)
  rw [hkn] at this
  simp only [Nat.mul_one] at this
  rw [this,hw2]
 have hg2:=setRow_heap w.drew g cur (cur.toList.take i ++ xs.drop (i+1) ++ cur.toList.drop (i+(xs.drop (i+1)).length)).toArray 9 (0,0) hg
 rw [← hw2] at hg2
 have hfr2:Fr (· = g) w w2:=by rw [hw2]; exact ((Fr.refl _ w).drew).setRow _ _ (.inr rfl)
 obtain ⟨cur2,hc2⟩:∃ cur2:Array Value,cur2=(cur.toList.take i ++ xs.drop (i+1) ++ cur.toList.drop (i+(xs.drop (i+1)).length)).toArray:=⟨_,rfl⟩
 rw [← hc2] at hg2
 have hl2:cur2.size=cur.size:=by rw [hc2]; simp; omega
 obtain ⟨w3,hw3⟩:∃ w3,w3=w2.setRow g (cur2.toList.take k ++ List.replicate (n - k) (Value.string ⟨#[]⟩) ++ cur2.toList.drop (k+(n - k))).toArray:=⟨_,rfl⟩
 have hcl:∀ ty,(Builtin.clear_ #[220] ty #[.slice (some ⟨g,k,none⟩) (n - k) (c - k)]).run Tryz.prog w2 = .ok (.tuple #[]) w3:=fun ty=>by
  rw [hw3]; exact run_clearT (off:=k) (n:=n - k) insKT rfl rfl ty hg2 (by omega)
 have hg3:=setRow_heap w2 g cur2 (cur2.toList.take k ++ List.replicate (n - k) (Value.string ⟨#[]⟩) ++ cur2.toList.drop (k+(n - k))).toArray 9 (0,0) hg2
 rw [← hw3] at hg3
 have hfr3:Fr (· = g) w w3:=by rw [hw3]; exact hfr2.setRow _ _ (.inr rfl)
 have hfin:=del_list cur.toList xs (Value.string ⟨#[]⟩) (n - k) i (by omega) (by rw [← hn]; exact hx) (by omega)
 have hout:Own w3 9 1 (.slice (some ⟨g,0,none⟩) k c) k (xs.take i ++ xs.drop (i+1)):=by
  refine ⟨by simp; omega,.inr ⟨g,c,_,rfl,hg3,by omega,hcm,?_,?_⟩⟩
  ·simp; omega
  ·rw [hc2]
   subst hk
   subst hn
   simpa using hfin
 have HQ:Hid (RetDel w 9 g c i xs (.returned (.slice (some ⟨g,0,none⟩) k c)) w3):=⟨_,rfl,by subst hk; subst hn; exact ⟨rfl,hout,hfr3⟩⟩
 have HC:=Lib.hid hcl
 have hkc:¬ c=k:=by omega
 have hkn':k≤n:=by omega
 have hkc':k≤c:=by omega
 have hni:n≤c:=hnc
 have hcm':c≤9223372036854775807:=hcm
 have hne:((i:Int) == (i:Int)+1)=false:=by rw [beq_eq_false_iff_ne]; omega
 have hic:i≤c:=by omega
 have hi1:i+1≤n:=by omega
 have hi2:(i:Int)+1≤(n:Int):=by omega
 have hi3:0≤(i:Int)+1:=by omega
 have hi4:((i:Int)+1).toNat=i+1:=by omega
 by_cases hci:c=i+1
 ·have HA:Hid (∀ ty,(Builtin.append_ #[220,220] ty #[.slice (some ⟨g,0,none⟩) i c,.slice (some ⟨g,0,none⟩) 0 0]).run Tryz.prog w.drew = .ok (.slice (some ⟨g,0,none⟩) k c) w2):=fun ty=>by
   have:=hap ty ⟨g,0,none⟩ (fun j u hj=>by rw [List.drop_of_length_le (by omega)] at hj; simp at hj)
   rw [show n - (i+1)=0 by omega,show c - (i+1)=0 by omega] at this
   exact this
  obtain rfl:c=n:=by omega
  clear hap hg hx hn hoxs hlen hld hkn hw2 hg2 hfr2 hc2 hl2 hw3 hcl hg3 hfr3 hfin hout hcs hcm hk
  subst hci
  have hi5:(i:Int)≤(i:Int)+1:=by omega
  go_enter Tryz.func242,Tryz.ntmps242
  go_wp2
  go_still_tail 6,(by kernel_rfl)
  refine wpList_value rfl _ _ (exec_append rfl rfl rfl (HA.out _)) ?_
  go_wp2_with (refine wpList_value (o:=⟨none,.call _,_,_,_,_⟩) rfl _ _ (exec_clear rfl rfl (HC.out _)) ?_)
  go_ret
  exact HQ.out
 ·have HA:Hid (∀ ty,(Builtin.append_ #[220,220] ty #[.slice (some ⟨g,0,none⟩) i c,.slice (some ⟨g,i+1,none⟩) (n - (i+1)) (c - (i+1))]).run Tryz.prog w.drew = .ok (.slice (some ⟨g,0,none⟩) k c) w2):=fun ty=>hap ty _ (cells_from (w:=w.drew) hg xs n (i+1) hx)
  clear hap hg hx hn hoxs hlen hld hkn hw2 hg2 hfr2 hc2 hl2 hw3 hcl hg3 hfr3 hfin hout hcs hcm hk
  go_enter Tryz.func242,Tryz.ntmps242
  go_wp2
  go_still_tail 6,(by kernel_rfl)
  refine wpList_value rfl _ _ (exec_append rfl rfl rfl (HA.out _)) ?_
  go_wp2_with (refine wpList_value (o:=⟨none,.call _,_,_,_,_⟩) rfl _ _ (exec_clear rfl rfl (HC.out _)) ?_)
  go_ret
  exact HQ.out
theorem delB_any (w:World) (g c:Nat) (cur:Array Value) (xs:List Value) (n i:Nat) (hn:n=xs.length) (hi:i < n)
  (hg:w.heap[g]? = some (.cells cur 220 (0,0))) (hnc:n≤c) (hcm:c≤maxLen) (hcs:c≤cur.size) (hx:cur.toList.take n=xs)
  (hoxs:∀ u∈xs,u.oneCell'=true) :
  Calls Tryz.prog 243 #[.slice (some ⟨g,0,none⟩) n c,.int .i64 i,.int .i64 (i+1:Nat)] w (RetDel w 220 g c i xs):=by
 have hlen:cur.toList.length=cur.size:=rfl
 obtain ⟨k,hk⟩:∃ k,k=n - 1:=⟨_,rfl⟩
 have hld:(xs.drop (i+1)).length=n - (i+1):=by simp; omega
 have hkn:i+(n - (i+1))=k:=by omega
 obtain ⟨w2,hw2⟩:∃ w2,w2=w.drew.setRow g (cur.toList.take i ++ xs.drop (i+1) ++ cur.toList.drop (i+(xs.drop (i+1)).length)).toArray:=⟨_,rfl⟩
 have hap:∀ ty ad,(∀ j u,(xs.drop (i+1))[j]? = some u→w.drew.cell? (ad.add j)=some u) →
   (Builtin.append_ #[90,90] ty #[.slice (some ⟨g,0,none⟩) i c,.slice (some ad) (n - (i+1)) (c - (i+1))]).run Tryz.prog w.drew = .ok (.slice (some ⟨g,0,none⟩) k c) w2:=fun ty ad had=>by
  have:=run_append_roomT (w:=w.drew) insBT insBT ty (g:=g) (n:=i) (cap:=c) hg (ad:=ad) (m:=n - (i+1)) (c:=c - (i+1)) (xs.drop (i+1)) (by omega) had (fun u hu=>hoxs u (List.mem_of_mem_drop hu)) (by omega) (by rw [hld]; omega)
  rw [hkn] at this
  simp only [Nat.mul_one] at this
  rw [this,hw2]
 have hg2:=setRow_heap w.drew g cur (cur.toList.take i ++ xs.drop (i+1) ++ cur.toList.drop (i+(xs.drop (i+1)).length)).toArray 220 (0,0) hg
 rw [← hw2] at hg2
 have hfr2:Fr (· = g) w w2:=by rw [hw2]; exact ((Fr.refl _ w).drew).setRow _ _ (.inr rfl)
 obtain ⟨cur2,hc2⟩:∃ cur2:Array Value,cur2=(cur.toList.take i ++ xs.drop (i+1) ++ cur.toList.drop (i+(xs.drop (i+1)).length)).toArray:=⟨_,rfl⟩
 rw [← hc2] at hg2
 have hl2:cur2.size=cur.size:=by rw [hc2]; simp; omega
 obtain ⟨w3,hw3⟩:∃ w3,w3=w2.setRow g (cur2.toList.take k ++ List.replicate (n - k) (Value.slice none 0 0) ++ cur2.toList.drop (k+(n - k))).toArray:=⟨_,rfl⟩
 have hcl:∀ ty,(Builtin.clear_ #[90] ty #[.slice (some ⟨g,k,none⟩) (n - k) (c - k)]).run Tryz.prog w2 = .ok (.tuple #[]) w3:=fun ty=>by
  rw [hw3]; exact run_clearT (off:=k) (n:=n - k) insBT rfl rfl ty hg2 (by omega)
 have hg3:=setRow_heap w2 g cur2 (cur2.toList.take k ++ List.replicate (n - k) (Value.slice none 0 0) ++ cur2.toList.drop (k+(n - k))).toArray 220 (0,0) hg2
 rw [← hw3] at hg3
 have hfr3:Fr (· = g) w w3:=by rw [hw3]; exact hfr2.setRow _ _ (.inr rfl)
 have hfin:=del_list cur.toList xs (Value.slice none 0 0) (n - k) i (by omega) (by rw [← hn]; exact hx) (by omega)
 have hout:Own w3 220 1 (.slice (some ⟨g,0,none⟩) k c) k (xs.take i ++ xs.drop (i+1)):=by
  refine ⟨by simp; omega,.inr ⟨g,c,_,rfl,hg3,by omega,hcm,?_,?_⟩⟩
  ·simp; omega
  ·rw [hc2]
   subst hk
   subst hn
   simpa using hfin
 have HQ:Hid (RetDel w 220 g c i xs (.returned (.slice (some ⟨g,0,none⟩) k c)) w3):=⟨_,rfl,by subst hk; subst hn; exact ⟨rfl,hout,hfr3⟩⟩
 have HC:=Lib.hid hcl
 have hkc:¬ c=k:=by omega
 have hkn':k≤n:=by omega
 have hkc':k≤c:=by omega
 have hni:n≤c:=hnc
 have hcm':c≤9223372036854775807:=hcm
 have hne:((i:Int) == (i:Int)+1)=false:=by rw [beq_eq_false_iff_ne]; omega
 have hic:i≤c:=by omega
 have hi1:i+1≤n:=by omega
 have hi2:(i:Int)+1≤(n:Int):=by omega
 have hi3:0≤(i:Int)+1:=by omega
 have hi4:((i:Int)+1).toNat=i+1:=by omega
 by_cases hci:c=i+1
 ·have HA:Hid (∀ ty,(Builtin.append_ #[90,90] ty #[.slice (some ⟨g,0,none⟩) i c,.slice (some ⟨g,0,none⟩) 0 0]).run Tryz.prog w.drew = .ok (.slice (some ⟨g,0,none⟩) k c) w2):=fun ty=>by
   have:=hap ty ⟨g,0,none⟩ (fun j u hj=>by rw [List.drop_of_length_le (by omega)] at hj; simp at hj)
   rw [show n - (i+1)=0 by omega,show c - (i+1)=0 by omega] at this
   exact this
  obtain rfl:c=n:=by omega
  clear hap hg hx hn hoxs hlen hld hkn hw2 hg2 hfr2 hc2 hl2 hw3 hcl hg3 hfr3 hfin hout hcs hcm hk
  subst hci
  have hi5:(i:Int)≤(i:Int)+1:=by omega
  go_enter Tryz.func243,Tryz.ntmps243
  go_wp2
  go_still_tail 6,(by kernel_rfl)
  refine wpList_value rfl _ _ (exec_append rfl rfl rfl (HA.out _)) ?_
  go_wp2_with (refine wpList_value (o:=⟨none,.call _,_,_,_,_⟩) rfl _ _ (exec_clear rfl rfl (HC.out _)) ?_)
  go_ret
  exact HQ.out
 ·have HA:Hid (∀ ty,(Builtin.append_ #[90,90] ty #[.slice (some ⟨g,0,none⟩) i c,.slice (some ⟨g,i+1,none⟩) (n - (i+1)) (c - (i+1))]).run Tryz.prog w.drew = .ok (.slice (some ⟨g,0,none⟩) k c) w2):=fun ty=>hap ty _ (cells_from (w:=w.drew) hg xs n (i+1) hx)
  clear hap hg hx hn hoxs hlen hld hkn hw2 hg2 hfr2 hc2 hl2 hw3 hcl hg3 hfr3 hfin hout hcs hcm hk
  go_enter Tryz.func243,Tryz.ntmps243
  go_wp2
  go_still_tail 6,(by kernel_rfl)
  refine wpList_value rfl _ _ (exec_append rfl rfl rfl (HA.out _)) ?_
  go_wp2_with (refine wpList_value (o:=⟨none,.call _,_,_,_,_⟩) rfl _ _ (exec_clear rfl rfl (HC.out _)) ?_)
  go_ret
  exact HQ.out
theorem ba_beq (a b:ByteArray):(a == b)=decide (a=b):=by
 show (a.data == b.data)=_
 rw [Bool.eq_iff_iff,decide_eq_true_eq,beq_iff_eq]
 exact ⟨fun h=>by cases a; cases b; simpa using h,fun h=>by rw [h]⟩
theorem map_erase {A B:Type} (f:A→B):∀ (l:List A) (j:Nat),(l.eraseIdx j).map f=(l.map f).eraseIdx j
 | [],_=>rfl
 | _ :: _,0=>rfl
 | x :: l,j+1=>by simp [List.eraseIdx_cons_succ,map_erase f l j]
def MRep (es:Array MapEntry) (ents:List Ent):Prop :=
 ∃ kv:List Ent,es.toList.map (fun e=>(e.key,e.val))=kv.map (fun p=>(Value.string p.1,Value.string p.2))∧kv.Perm ents
theorem MRep.empty:MRep #[] []:=⟨[],rfl,List.Perm.refl _⟩
theorem MRep.size {es:Array MapEntry} {ents:List Ent} (h:MRep es ents):es.size=ents.length:=by
 obtain ⟨kv,h1,h2⟩:=h
 rw [← h2.length_eq]
 simpa using congrArg List.length h1
def idxE:List Ent→ByteArray→Option Nat
 | [],_=>none
 | (a,_) :: r,k=>if k=a then some 0 else (idxE r k).map (· + 1)
theorem findNow_str (k:ByteArray):∀ (l:List MapEntry) (kv:List Ent) (i:Nat),l.map (fun e=>(e.key,e.val))=kv.map (fun p=>(Value.string p.1,Value.string p.2)) →
  Instr.findNow .string (.string k) l i=some ((idxE kv k).map fun j=>(i+j,Value.string ((kv.getD j default).2)))
 | [],[],i,_=>by simp [Instr.findNow,idxE]
 | [],_ :: _,_,h=>by simp at h
 | _ :: _,[],_,h=>by simp at h
 | e :: l,(a,b) :: kv,i,h=>by
  simp only [List.map_cons,List.cons.injEq,Prod.mk.injEq] at h
  have ih:=findNow_str k l kv (i+1) h.2
  simp only [Instr.findNow,h.1.1,Instr.sameNow,ba_beq,idxE,h.1.2]
  by_cases hk:k=a
  ·simp [hk]
  ·simp only [hk,decide_false,if_false,ih]
   cases idxE kv k with
   | none=>simp
   | some j=>simp [Nat.add_assoc,Nat.add_comm 1 j]
theorem idxE_none {kv:List Ent} {k:ByteArray}:idxE kv k=none↔k∉kv.map Prod.fst:=by
 induction kv with
 | nil=>simp [idxE]
 | cons x r ih =>
  obtain ⟨a,b⟩:=x
  simp only [idxE,List.map_cons,List.mem_cons,not_or]
  by_cases e:k=a
  ·simp [e]
  ·simp [e,ih]
theorem idxE_some {kv:List Ent} {k:ByteArray} {j:Nat} (h:idxE kv k=some j):∃ hj:j < kv.length,kv[j].1=k:=by
 induction kv generalizing j with
 | nil=>simp [idxE] at h
 | cons x r ih =>
  obtain ⟨a,b⟩:=x
  simp only [idxE] at h
  split at h
  ·rename_i e; simp at h; subst h; exact ⟨by simp,e.symm⟩
  ·cases hj:idxE r k with
   | none=>simp [hj] at h
   | some i =>
    simp [hj] at h
    obtain ⟨h1,h2⟩:=ih hj
    subst h
    exact ⟨by simp; omega,by simpa using h2⟩
theorem idxE_get {kv ents:List Ent} (hp:kv.Perm ents) (hs:Sorted ents) (k:ByteArray):(idxE kv k).map (fun j=>(kv.getD j default).2)=getE ents k:=by
 cases h:idxE kv k with
 | none =>
  have h1:=idxE_none.1 h
  have h2:k∉ents.map Prod.fst:=fun hm=>h1 ((hp.map Prod.fst).mem_iff.2 hm)
  simp [getE_none.2 h2]
 | some j =>
  obtain ⟨hj,hk⟩:=idxE_some h
  have hm:(k,kv[j].2)∈ents:=by
   rw [← hk]
   exact hp.mem_iff.1 (List.getElem_mem hj)
  simp [getE_of_mem hs hm,List.getD_eq_getElem?_getD,List.getElem?_eq_getElem hj]
theorem delE_perm {ents:List Ent} {k v:ByteArray} (h:getE ents k=some v):ents.Perm ((k,v) :: delE ents k):=by
 induction ents with
 | nil=>simp [getE] at h
 | cons x r ih =>
  obtain ⟨a,b⟩:=x
  simp only [getE] at h
  by_cases e:a=k
  ·simp [e] at h; simp [delE,e,h]
  ·simp only [e,if_false] at h
   simp only [delE,e,if_false]
   exact ((ih h).cons (a,b)).trans (List.Perm.swap _ _ _)
theorem putE_perm_in {ents:List Ent} (hs:Sorted ents) {k v0:ByteArray} (v:ByteArray) (h:getE ents k=some v0):(putE ents k v).Perm ((k,v) :: delE ents k):=by
 induction ents with
 | nil=>simp [getE] at h
 | cons x r ih =>
  obtain ⟨a,b⟩:=x
  have hp:=List.pairwise_cons.1 hs
  simp only [getE] at h
  by_cases e:a=k
  ·simp [putE,delE,e,KLt.irrefl]
  ·simp only [e,if_false] at h
   have hlt:KLt a k:=hp.1 _ (getE_mem h)
   simp only [putE,delE,e,if_false,hlt,if_true]
   exact ((ih hp.2 h).cons (a,b)).trans (List.Perm.swap _ _ _)
theorem putE_perm_new {ents:List Ent} {k:ByteArray} (v:ByteArray) (h:getE ents k=none):(putE ents k v).Perm ((k,v) :: ents):=by
 induction ents with
 | nil=>simp [putE]
 | cons x r ih =>
  obtain ⟨a,b⟩:=x
  simp only [getE] at h
  by_cases e:a=k
  ·simp [e] at h
  ·simp only [e,if_false] at h
   simp only [putE,e,if_false]
   split
   ·exact ((ih h).cons (a,b)).trans (List.Perm.swap _ _ _)
   ·exact List.Perm.refl _
theorem perm_set {kv:List Ent} {j:Nat} (hj:j < kv.length) (x:Ent):(kv.set j x).Perm (x :: kv.eraseIdx j):=by
 induction kv generalizing j with
 | nil=>simp at hj
 | cons y r ih =>
  cases j with
  | zero=>simp
  | succ j =>
   simp only [List.length_cons,Nat.add_lt_add_iff_right] at hj
   simp only [List.set_cons_succ,List.eraseIdx_cons_succ]
   exact ((ih hj).cons y).trans (List.Perm.swap _ _ _)
theorem perm_erase {kv:List Ent} {j:Nat} (hj:j < kv.length):kv.Perm (kv[j] :: kv.eraseIdx j):=by
 have:=perm_set hj kv[j]
 rwa [List.set_getElem_self] at this
theorem erase_perm {kv ents:List Ent} (hp:kv.Perm ents) (hs:Sorted ents) {k:ByteArray} {j:Nat} (h:idxE kv k=some j):(kv.eraseIdx j).Perm (delE ents k):=by
 obtain ⟨hj,hk⟩:=idxE_some h
 have hg:=idxE_get hp hs k
 rw [h] at hg
 simp only [Option.map_some,List.getD_eq_getElem?_getD,List.getElem?_eq_getElem hj,Option.getD_some] at hg
 have h1:=delE_perm hg.symm
 have h2:=perm_erase hj
 rw [show kv[j]=(k,kv[j].2) by rw [← hk]] at h2
 exact List.Perm.cons_inv (h2.symm.trans (hp.trans h1))
structure MapT (P:Program) (t tk te:TypeId):Prop where
 und:P.underlying t=some (.map tk te)
 key:P.underlying tk=some .string
 elem:(P.info? te).map (·.zero)=some (some (.string ⟨#[]⟩))
section
variable {P:Program} {w:World} {t tk te:TypeId} (T:MapT P t tk te) {mb:Nat} {es:Array MapEntry} {clk:Nat} {ents:List Ent}
include T
theorem run_findKey_str (k:ByteArray) {kv:List Ent} (h:es.toList.map (fun e=>(e.key,e.val))=kv.map (fun p=>(Value.string p.1,Value.string p.2))) :
  (Instr.findKey tk (.string k) es.toList).run P w = .ok ((idxE kv k).map fun j=>(j,Value.string ((kv.getD j default).2))) w:=by
 simp only [Instr.findKey,Sem.run_bind,run_underlying T.key,Result.andThen_ok,findNow_str k es.toList kv 0 h,Nat.zero_add,Sem.run_pure]
theorem run_checkKey_str (b:Bool) (n:Nat) (k:ByteArray):(Instr.checkKey b (n+1) tk (.string k)).run P w = .ok () w:=by
 simp [Instr.checkKey,run_underlying T.key]
theorem run_lookup_str (hm:w.heap[mb]? = some (.map es clk)) (hr:MRep es ents) (hs:Sorted ents) (k:ByteArray) :
  (Instr.lookup t (.map (some mb)) (.string k) true).run P w = .ok (.tuple #[.string ((getE ents k).getD emptyB),.bool (getE ents k).isSome]) w:=by
 obtain ⟨kv,h1,h2⟩:=hr
 have hg:=idxE_get h2 hs k
 obtain ⟨i,hi,hz⟩:=Option.map_eq_some_iff.1 T.elem
 have hck:=run_checkKey_str T (w:=w) es.isEmpty 9999 k
 have hfk:=run_findKey_str T (w:=w) k h1
 have hgo:∀ {α:Type} (f:Obj→Sem α),Sem.run P (Sem.getObj mb f) w=(f (.map es clk)).run P w:=fun f=>by simp [Sem.run,hm]
 cases h:idxE kv k with
 | none =>
  rw [h] at hg hfk
  simp only [Option.map_none] at hg hfk
  simp [Instr.lookup,run_underlying T.und,getObj,hgo,hck,hfk,zeroValue,typeInfo,hi,hz,← hg,emptyB]
 | some j =>
  rw [h] at hg hfk
  simp only [Option.map_some] at hg hfk
  simp [Instr.lookup,run_underlying T.und,getObj,hgo,hck,hfk,← hg]
def setMap (w:World) (mb:Nat) (es:Array MapEntry) (clk:Nat):World:={ w with heap:=w.heap.setIfInBounds mb (.map es clk) }
theorem run_mapUpdate_str (hm:w.heap[mb]? = some (.map es clk)) (hr:MRep es ents) (hs:Sorted ents) (k v:ByteArray) :
  ∃ es' clk',(Instr.mapUpdate t (.map (some mb)) (.string k) (.string v)).run P w = .ok () (setMap w mb es' clk')∧MRep es' (putE ents k v):=by
 obtain ⟨kv,h1,h2⟩:=hr
 have hck:=run_checkKey_str T (w:=w) false 9999 k
 have hfk:=run_findKey_str T (w:=w) k h1
 have hgo:∀ {α:Type} (f:Obj→Sem α),Sem.run P (Sem.getObj mb f) w=(f (.map es clk)).run P w:=fun f=>by simp [Sem.run,hm]
 have hso:∀ (o:Obj),Sem.run P (Sem.setObj mb o (.pure ())) w = .ok () { w with heap:=w.heap.setIfInBounds mb o }:=fun o=>by simp [Sem.run,hm]
 cases h:idxE kv k with
 | none =>
  rw [h] at hfk
  simp only [Option.map_none] at hfk
  refine ⟨es.push { key:=.string k,val:=.string v,born:=clk },clk+1,?_,kv ++ [(k,v)],?_,?_⟩
  ·simp [Instr.mapUpdate,run_underlying T.und,getObj,setObj,hgo,hso,hck,hfk,setMap]
  ·simp [h1]
  ·have hn:getE ents k=none:=by rw [← idxE_get h2 hs k,h]; rfl
   refine List.perm_append_comm.trans ?_
   exact ((h2.cons (k,v)).trans (putE_perm_new v hn).symm)
 | some j =>
  obtain ⟨hj,hk⟩:=idxE_some h
  rw [h] at hfk
  simp only [Option.map_some] at hfk
  have hlen:es.size=kv.length:=by simpa using congrArg List.length h1
  have hej:es[j]? = some es[j]:=Array.getElem?_eq_getElem (by omega)
  have hkey:es[j].key = .string k:=by
   have:=congrArg (fun l=>l[j]?) h1
   simp only [List.getElem?_map,Array.getElem?_toList,hej,Option.map_some,List.getElem?_eq_getElem hj,Option.some.injEq,Prod.mk.injEq] at this
   rw [this.1,hk]
  have hb:(k == k)=true:=by rw [ba_beq]; simp
  refine ⟨es.modify j fun e => { e with key:=.string k,val:=.string v },clk,?_,kv.set j (k,v),?_,?_⟩
  ·simp [Instr.mapUpdate,run_underlying T.und,getObj,setObj,hgo,hso,hck,hfk,setMap,hej,hkey,Instr.keyThatStays,Instr.sameBits,hb]
  ·apply List.ext_getElem?
   intro i
   have hi:=congrArg (fun l=>l[i]?) h1
   simp only [List.getElem?_map,Array.getElem?_toList] at hi
   simp only [List.getElem?_map,Array.getElem?_toList,Array.getElem?_modify,List.getElem?_set]
   by_cases hij:j=i
   ·subst hij
    simp [hej,hj]
   ·simp [hij,hi]
  ·have hg:∃ v0,getE ents k=some v0:=⟨_,by rw [← idxE_get h2 hs k,h]; rfl⟩
   obtain ⟨v0,hv0⟩:=hg
   exact (perm_set hj _).trans (((erase_perm h2 hs h).cons _).trans (putE_perm_in hs v hv0).symm)
theorem run_delete_str (ty:TypeId) (hm:w.heap[mb]? = some (.map es clk)) (hr:MRep es ents) (hs:Sorted ents) (k:ByteArray) :
  ∃ es' clk',(Builtin.delete_ #[t,tk] ty #[.map (some mb),.string k]).run P w = .ok (.tuple #[]) (setMap w mb es' clk')∧MRep es' (delE ents k):=by
 obtain ⟨kv,h1,h2⟩:=hr
 have hck:=run_checkKey_str T (w:=w) es.isEmpty 9999 k
 have hfk:=run_findKey_str T (w:=w) k h1
 have hgo:∀ {α:Type} (f:Obj→Sem α),Sem.run P (Sem.getObj mb f) w=(f (.map es clk)).run P w:=fun f=>by simp [Sem.run,hm]
 have hso:∀ (o:Obj),Sem.run P (Sem.setObj mb o (.pure ())) w = .ok () { w with heap:=w.heap.setIfInBounds mb o }:=fun o=>by simp [Sem.run,hm]
 cases h:idxE kv k with
 | none =>
  rw [h] at hfk
  simp only [Option.map_none] at hfk
  have hn:(getE ents k).isSome=false:=by rw [← idxE_get h2 hs k,h]; rfl
  refine ⟨es,clk,?_,kv,h1,?_⟩
  ·simp [Builtin.delete_,run_underlying T.und,getObj,setObj,hgo,hso,hck,hfk,setMap]
  ·rw [delE_keys_not hn]; exact h2
 | some j =>
  obtain ⟨hj,hk⟩:=idxE_some h
  rw [h] at hfk
  simp only [Option.map_some] at hfk
  have hlen:es.size=kv.length:=by simpa using congrArg List.length h1
  refine ⟨es.eraseIdxIfInBounds j,clk,?_,kv.eraseIdx j,?_,erase_perm h2 hs h⟩
  ·simp [Builtin.delete_,run_underlying T.und,getObj,setObj,hgo,hso,hck,hfk,setMap]
  ·have:(es.eraseIdxIfInBounds j).toList=es.toList.eraseIdx j:=by
    unfold Array.eraseIdxIfInBounds
    rw [dif_pos (by omega)]
    simp
   rw [this,map_erase,map_erase,h1]
end
end Go.Proofs.YtnkilceibkkjlaaGreat
