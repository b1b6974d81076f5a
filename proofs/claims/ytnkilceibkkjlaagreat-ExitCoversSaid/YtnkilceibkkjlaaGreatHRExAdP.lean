/- What is proved here: the reference's history: how many checkpoints, one of them, one written, the last. Conditions: sizes, ints below 2^63. operations of drawn regions over withdrawals: slices of one and of four ints, a withdrawal's fields. No condition. the reference's history: a checkpoint written, the last, what it was at a block, one more (Push). Conditions: sizes, ints below 2^63, words below 2^64. what a withdra -/
import Derived.Test.YtnkilceibkkjlaaGreatHExHat
import Derived.Test.YtnkilceibkkjlaaGreatHExA
import Derived.Test.YtnkilceibkkjlaaGreatHRowW
import Derived.Test.YtnkilceibkkjlaaGreatHExG
import Derived.Test.YtnkilceibkkjlaaGreatHRCell
set_option maxRecDepth 100000
set_option maxHeartbeats 16000000
namespace Go.Proofs.YtnkilceibkkjlaaGreat
open Go.RowKit
theorem four_ints (W:World) (x y z u:Int):IntsAt (W.alloc (.cells #[.int .i64 x,.int .i64 y,.int .i64 z,.int .i64 u] 3)) (.slice (some ⟨W.heap.size,0,none⟩) 4 4) [x,y,z,u] :=
 intsAt_cells (l:=[x,y,z,u]) fun j v hj=>by
  rw [cell_of_row _ _ _ _ _ _ (heap_alloc_new W _)]
  match j,hj with
  | 0,hj=>cases hj; rfl
  | 1,hj=>cases hj; rfl
  | 2,hj=>cases hj; rfl
  | 3,hj=>cases hj; rfl
theorem rg_ints1 {ops:Array Oper} {o:Oper} {a:Act} {w:World} {K:Value→World→Prop} {x:Operand} {m:Int} (hg:Region.wanted o (yielded ops a.tmps)=true) (ho:o.op = .buildSlice 75 1 #[(0,x)]) (hx:a.eval x = .int .i64 m)
  (hk:K (.slice (some ⟨w.heap.size,0,none⟩) 1 1) (w.alloc (.cells #[.int .i64 m] 3))):rgDo Tryz.prog ops o a w K:=by
 refine rg_value' hg ?_ hk
 unfold execOp
 simp only [ho,hx,List.map_toArray,List.map_cons,List.map_nil]
 go_simp
theorem rg_ints4 {ops:Array Oper} {o:Oper} {a:Act} {w:World} {K:Value→World→Prop} {x y z u:Operand} {m n k l:Int} (hg:Region.wanted o (yielded ops a.tmps)=true) (ho:o.op = .buildSlice 75 4 #[(0,x),(1,y),(2,z),(3,u)]) (hx:a.eval x = .int .i64 m) (hy:a.eval y = .int .i64 n) (hz:a.eval z = .int .i64 k) (hu:a.eval u = .int .i64 l)
  (hk:K (.slice (some ⟨w.heap.size,0,none⟩) 4 4) (w.alloc (.cells #[.int .i64 m,.int .i64 n,.int .i64 k,.int .i64 l] 3))):rgDo Tryz.prog ops o a w K:=by
 refine rg_value' hg ?_ hk
 unfold execOp
 simp only [ho,hx,hy,hz,hu,List.map_toArray,List.map_cons,List.map_nil]
 go_simp
theorem keyI1_any (t:Nat) (ht1:1≤t) (ht2:t≤255) (a:Int) (ha:I63 a) (W:World) (v:Value) (hv:IntsAt W v [a]):Calls Tryz.prog 90 #[.int .i64 t,v] W fun e w'=>e = .returned (.string (keyL t [a]))∧Below W.heap.size W w' :=
 key_any t ht1 ht2 v [a] W hv (show ([a]:List Int).length < 1000000000 from (by decide:1 < 1000000000)) (by intro x hx; rw [List.mem_singleton] at hx; subst hx; exact ha)
theorem rg_ex0 {ops:Array Oper} {o:Oper} {a:Act} {w:World} {K:Value→World→Prop} {x:Operand} {g:Nat} (hg:Region.wanted o (yielded ops a.tmps)=true) (ho:o.op = .fieldAddr 26 x 0) (hx:a.eval x = .pointer (some ⟨g,0,none⟩)) (hk:K (.pointer (some ⟨g,0,none⟩)) w):rgDo Tryz.prog ops o a w K:=by
 refine rg_value hg ?_ hk
 unfold execOp
 simp only [ho,hx]
 go_simp
theorem rg_ex1 {ops:Array Oper} {o:Oper} {a:Act} {w:World} {K:Value→World→Prop} {x:Operand} {g:Nat} (hg:Region.wanted o (yielded ops a.tmps)=true) (ho:o.op = .fieldAddr 26 x 1) (hx:a.eval x = .pointer (some ⟨g,0,none⟩)) (hk:K (.pointer (some ⟨g,1,none⟩)) w):rgDo Tryz.prog ops o a w K:=by
 refine rg_value hg ?_ hk
 unfold execOp
 simp only [ho,hx]
 go_simp
theorem rg_ex2 {ops:Array Oper} {o:Oper} {a:Act} {w:World} {K:Value→World→Prop} {x:Operand} {g:Nat} (hg:Region.wanted o (yielded ops a.tmps)=true) (ho:o.op = .fieldAddr 26 x 2) (hx:a.eval x = .pointer (some ⟨g,0,none⟩)) (hk:K (.pointer (some ⟨g,2,none⟩)) w):rgDo Tryz.prog ops o a w K:=by
 refine rg_value hg ?_ hk
 unfold execOp
 simp only [ho,hx]
 go_simp
theorem rg_ex3 {ops:Array Oper} {o:Oper} {a:Act} {w:World} {K:Value→World→Prop} {x:Operand} {g:Nat} (hg:Region.wanted o (yielded ops a.tmps)=true) (ho:o.op = .fieldAddr 26 x 3) (hx:a.eval x = .pointer (some ⟨g,0,none⟩)) (hk:K (.pointer (some ⟨g,3,none⟩)) w):rgDo Tryz.prog ops o a w K:=by
 refine rg_value hg ?_ hk
 unfold execOp
 simp only [ho,hx]
 go_simp
theorem rg_ex4 {ops:Array Oper} {o:Oper} {a:Act} {w:World} {K:Value→World→Prop} {x:Operand} {g:Nat} (hg:Region.wanted o (yielded ops a.tmps)=true) (ho:o.op = .fieldAddr 26 x 4) (hx:a.eval x = .pointer (some ⟨g,0,none⟩)) (hk:K (.pointer (some ⟨g,4,none⟩)) w):rgDo Tryz.prog ops o a w K:=by
 refine rg_value hg ?_ hk
 unfold execOp
 simp only [ho,hx]
 go_simp
theorem rg_ex5 {ops:Array Oper} {o:Oper} {a:Act} {w:World} {K:Value→World→Prop} {x:Operand} {g:Nat} (hg:Region.wanted o (yielded ops a.tmps)=true) (ho:o.op = .fieldAddr 26 x 5) (hx:a.eval x = .pointer (some ⟨g,0,none⟩)) (hk:K (.pointer (some ⟨g,8,none⟩)) w):rgDo Tryz.prog ops o a w K:=by
 refine rg_value hg ?_ hk
 unfold execOp
 simp only [ho,hx]
 go_simp
theorem FV.set {b:Nat} {w W:World} {L:List Nat} {s:St} {rs:List (Nat × Obj)} (hq:FV b w L s rs W) (hz:s.size < 1000000000000) (k v:ByteArray) (hk:k≠emptyB):Calls Tryz.prog 198 #[.pointer (some ⟨b,0,none⟩),.string k,.string v] W fun e W'=>e = .returned (.int .i64 0)∧FV b w L (s.set k v) rs W' :=
 QV.call hq fun L' h1=>(rset_any W b s L' k v h1 hk hz).mono fun _ _ ⟨he,h2⟩=>⟨he,h2⟩
theorem FV.setInt {b:Nat} {w W:World} {L:List Nat} {s:St} {rs:List (Nat × Obj)} (hq:FV b w L s rs W) (hz:s.size < 1000000000000) (k:ByteArray) (n:Int) (hn:n < 9223372036854775808):Calls Tryz.prog 189 #[.pointer (some ⟨b,0,none⟩),.string k,.int .i64 n] W fun e W'=>e = .returned (.tuple #[])∧FV b w L (s.setInt k n) rs W' :=
 QV.call hq fun L' h1=>(rsetInt_any W b s L' k n hn h1 hz).mono fun _ _ ⟨he,h2⟩=>⟨he,h2⟩
theorem ptB_some (b:Nat) (a:W4):ptB b a≠emptyB:=fun h=>by
 have h1:=congrArg ByteArray.size h
 unfold ptB at h1
 rw [ByteArray.size_append] at h1
 have h8:(numB b).size=8:=rfl
 have h0:emptyB.size=0:=rfl
 rw [h8,h0] at h1
 omega
theorem set_put (s:St) {k v:ByteArray} (hk:k≠emptyB) (hv:v≠emptyB):s.set k v=s.put k v:=by
 unfold St.put
 rw [if_neg hv,if_neg hk]
theorem Und.srtPut {s s':St} (h:Und s s'∧Sorted s'.ents) (k v:ByteArray):Und s (s'.put k v)∧Sorted (s'.put k v).ents:=⟨h.1.put h.2 k v,put_srt h.2 k v⟩
theorem hnew_und {s:St} (hs:Sorted s.ents) (t:Nat) {l:List Int} (hpos:∀ x∈l,0≤x) (b:Nat) (a:W4):Und s (s.hnew t l b a)∧Sorted (s.hnew t l b a).ents:=by
 unfold St.hnew
 rw [set_put _ (kpos t hpos (by omega)) (ptB_some _ _)]
 exact Und.srtPut (Und.srtPut ⟨Und.refl s,hs⟩ _ _) _ _
theorem hpu_und {s:St} (hs:Sorted s.ents) (t:Nat) {l:List Int} (hpos:∀ x∈l,0≤x) (b:Nat) (a:W4):Und s (hpuSt s t l b a)∧Sorted (hpuSt s t l b a).ents:=by
 unfold hpuSt
 split
 ·split
  ·exact ⟨Und.refl s,hs⟩
  ·split
   ·rename_i h0 _ _
    rw [set_put _ (kpos t hpos (by omega)) (ptB_some _ _)]
    exact Und.srtPut ⟨Und.refl s,hs⟩ _ _
   ·split
    ·exact ⟨Und.refl s,hs⟩
    ·exact hnew_und hs t hpos b a
 ·exact hnew_und hs t hpos b a
theorem hpu_same {s:St} {t:Nat} {l:List Int} {b:Nat} {a:W4} (h:hpuE s t l b≠0):hpuSt s t l b a=s:=by
 unfold hpuE at h
 split at h
 ·rename_i h1
  unfold hpuSt
  rw [if_pos h1.1,if_pos h1.2]
 ·exact absurd rfl h
theorem hpuSt_fit {s:St} {f:Nat} (hf:s.Fit f) (t:Nat) (l:List Int) (b:Nat) (a:W4):(hpuSt s t l b a).Fit (f+4):=by
 have h40:∀ b a,(ptB b a).size≤1000000:=fun b a=>by
  unfold ptB
  rw [ByteArray.size_append,show (numB b).size=8 from rfl,show (amtB a).size=32 by show (amtL a).toArray.size=32; simp [amtL]]
  omega
 have hn:(s.hnew t l b a).Fit (f+4):=(hf.setInt _ _).set _ (h40 _ _)
 unfold hpuSt
 split
 ·split
  ·exact hf.mono (by omega)
  ·split
   ·exact (hf.set _ (h40 _ _)).mono (by omega)
   ·split
    ·exact hf.mono (by omega)
    ·exact hn
 ·exact hn
theorem Ex.good_at {x:Ex} (h:x.good=true):1≤x.st∧1≤x.sg∧0≤x.op∧0≤x.bl∧x.bl≤1099511627776∧uN x.wo < M128∧uCmp x.mx oneW≤0:=by
 unfold Ex.good at h
 simp only [Bool.and_eq_true,decide_eq_true_eq] at h
 exact h
theorem note_und {s:St} (hs:Sorted s.ents) {x:Ex} (hop:0≤x.op) (hsg:0≤x.sg):Und s (noteSt s x)∧Sorted (noteSt s x).ents:=by
 unfold noteSt
 split
 ·exact ⟨Und.refl s,hs⟩
 ·split
  ·refine hpu_und hs _ (fun y hy => ?_) _ _
   simp only [List.mem_cons,List.not_mem_nil,or_false] at hy
   rcases hy with rfl | rfl
   ·exact hop
   ·exact hsg
  ·exact ⟨Und.refl s,hs⟩
theorem note_same {s:St} {x:Ex} (h:noteE s x≠0):noteSt s x=s:=by
 unfold noteE at h
 unfold noteSt
 by_cases h0:x.op=0
 ·rw [if_pos h0]
 ·rw [if_neg h0] at h ⊢
  by_cases h1:uAddC (s.hlast 16 [x.op,x.sg]) (sdW x.wo x.mx)=0
  ·rw [if_pos h1] at h ⊢
   exact hpu_same h
  ·rw [if_neg h1]
theorem noteSt_fit {s:St} {f:Nat} (hf:s.Fit f) (x:Ex):(noteSt s x).Fit (f+4):=by
 unfold noteSt
 split
 ·exact hf.mono (by omega)
 ·split
  ·exact hpuSt_fit hf _ _ _ _
  ·exact hf.mono (by omega)
def Hand.ad2 (h:Hand) (s:St) (x:Ex):St:=h.addSt (noteSt s x) (keyL 19 [x.sg]) x.wo
def Hand.adN (h:Hand) (s:St) (x:Ex):Int:=(((h.ad2 s x).int (keyL 14 []):Nat):Int)+1
def Hand.ad3 (h:Hand) (s:St) (x:Ex):St:=(h.ad2 s x).setInt (keyL 14 []) (h.adN s x)
def Hand.ad4 (h:Hand) (s:St) (x:Ex):St:=(h.ad3 s x).put (keyL 15 [h.adN s x]) (rowB [x.st,x.op,x.sg,x.bl])
def Hand.ad5 (h:Hand) (s:St) (x:Ex):St:=(h.ad4 s x).setAmt (keyL 17 [h.adN s x]) x.wo
def Hand.ad6 (h:Hand) (s:St) (x:Ex):St:=(h.ad5 s x).setAmt (keyL 18 [h.adN s x]) x.mx
def Hand.ad7 (h:Hand) (s:St) (x:Ex):St:=(h.ad6 s x).setInt (keyL 20 [x.st]) ((((h.ad6 s x).int (keyL 20 [x.st]):Nat):Int)+1)
def xadE (s:St) (x:Ex):Int:=if x.good=false then 2 else if 16≤s.int (keyL 20 [x.st]) then 7 else if noteE s x=0 then moreE ((noteSt s x).amt (keyL 19 [x.sg])) x.wo else noteE s x
def Hand.xadN (h:Hand) (s:St) (x:Ex):Int:=if xadE s x=0 then h.adN s x else 0
def Hand.xadSt (h:Hand) (s:St) (x:Ex):St:=if xadE s x=0 then h.ad7 s x else s
theorem xad_bad {h:Hand} {s:St} {x:Ex} (hg:x.good=false):xadE s x=2∧h.xadN s x=0∧h.xadSt s x=s:=by
 have he:xadE s x=2:=by unfold xadE; rw [if_pos hg]
 unfold Hand.xadN Hand.xadSt
 rw [he,if_neg (by decide),if_neg (by decide)]
 exact ⟨rfl,rfl,rfl⟩
theorem xad_full {h:Hand} {s:St} {x:Ex} (hg:x.good=true) (hn:16≤s.int (keyL 20 [x.st])):xadE s x=7∧h.xadN s x=0∧h.xadSt s x=s:=by
 have he:xadE s x=7:=by unfold xadE; rw [if_neg (by rw [hg]; decide),if_pos hn]
 unfold Hand.xadN Hand.xadSt
 rw [he,if_neg (by decide),if_neg (by decide)]
 exact ⟨rfl,rfl,rfl⟩
theorem xad_note {h:Hand} {s:St} {x:Ex} (hg:x.good=true) (hn:¬ 16≤s.int (keyL 20 [x.st])) (h1:noteE s x≠0):xadE s x=noteE s x∧h.xadN s x=0∧h.xadSt s x=s:=by
 have he:xadE s x=noteE s x:=by unfold xadE; rw [if_neg (by rw [hg]; decide),if_neg hn,if_neg h1]
 unfold Hand.xadN Hand.xadSt
 rw [he,if_neg h1,if_neg h1]
 exact ⟨rfl,rfl,rfl⟩
theorem xad_more {h:Hand} {s:St} {x:Ex} (hg:x.good=true) (hn:¬ 16≤s.int (keyL 20 [x.st])) (h1:noteE s x=0) {m:Int} (hm:moreE ((noteSt s x).amt (keyL 19 [x.sg])) x.wo=m) (h2:m≠0):xadE s x=m∧h.xadN s x=0∧h.xadSt s x=s:=by
 have he:xadE s x=m:=by unfold xadE; rw [if_neg (by rw [hg]; decide),if_neg hn,if_pos h1,hm]
 unfold Hand.xadN Hand.xadSt
 rw [he,if_neg h2,if_neg h2]
 exact ⟨rfl,rfl,rfl⟩
theorem xad_ok {h:Hand} {s:St} {x:Ex} (hg:x.good=true) (hn:¬ 16≤s.int (keyL 20 [x.st])) (h1:noteE s x=0) (hm:moreE ((noteSt s x).amt (keyL 19 [x.sg])) x.wo=0):xadE s x=0∧h.xadN s x=h.adN s x∧h.xadSt s x=h.ad7 s x:=by
 have he:xadE s x=0:=by unfold xadE; rw [if_neg (by rw [hg]; decide),if_neg hn,if_pos h1,hm]
 unfold Hand.xadN Hand.xadSt
 rw [he,if_pos rfl,if_pos rfl]
 exact ⟨rfl,rfl,rfl⟩
theorem ad2_back {h:Hand} {s:St} {x:Ex} (hs:Sorted s.ents) (hon:h.on=true) (hg:x.good=true) (hm:moreE ((noteSt s x).amt (keyL 19 [x.sg])) x.wo≠0):h.st (h.ad2 s x) ((h.ad2 s x).undo s.past.length)=s∧s.past.length≤(h.ad2 s x).past.length:=by
 obtain ⟨_,g2,g3,_⟩:=Ex.good_at hg
 have hU:=(note_und hs g3 (Int.le_trans (by decide) g2)).1
 unfold Hand.ad2 Hand.addSt Hand.st
 rw [if_neg hm,if_pos hon]
 exact ⟨hU.2,hU.1⟩
theorem Hand.ad2_fit {h:Hand} {s:St} {f:Nat} (hf:s.Fit f) (x:Ex):(h.ad2 s x).Fit (f+6):=by
 unfold Hand.ad2 Hand.addSt
 split
 ·exact Hand.st_fit ((noteSt_fit hf x).mono (by omega)) ((noteSt_fit hf x).setAmt _ _)
 ·exact (noteSt_fit hf x).mono (by omega)
theorem rowB_size (a b c d:Int):(rowB [a,b,c,d]).size≤1000000:=by
 show (rowBy [a,b,c,d]).toArray.size≤_
 have h8:∀ n,(be8 n).length=8:=fun n=>rfl
 simp [rowBy,h8]
theorem Hand.ad3_fit {h:Hand} {s:St} {f:Nat} (hf:s.Fit f) (x:Ex):(h.ad3 s x).Fit (f+8):=(Hand.ad2_fit hf x).setInt _ _
theorem Hand.ad4_fit {h:Hand} {s:St} {f:Nat} (hf:s.Fit f) (x:Ex):(h.ad4 s x).Fit (f+10):=(Hand.ad3_fit hf x).put _ (rowB_size _ _ _ _)
theorem Hand.ad5_fit {h:Hand} {s:St} {f:Nat} (hf:s.Fit f) (x:Ex):(h.ad5 s x).Fit (f+12):=(Hand.ad4_fit hf x).setAmt _ _
theorem Hand.ad6_fit {h:Hand} {s:St} {f:Nat} (hf:s.Fit f) (x:Ex):(h.ad6 s x).Fit (f+14):=(Hand.ad5_fit hf x).setAmt _ _
theorem Hand.xadSt_fit {h:Hand} {s:St} {f:Nat} (hf:s.Fit f) (x:Ex):(h.xadSt s x).Fit (f+16):=by
 unfold Hand.xadSt
 split
 ·exact (Hand.ad6_fit hf x).setInt _ _
 ·exact hf.mono (by omega)
end Go.Proofs.YtnkilceibkkjlaaGreat
