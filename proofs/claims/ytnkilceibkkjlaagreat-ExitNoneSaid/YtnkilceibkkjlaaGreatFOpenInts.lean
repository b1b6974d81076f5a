/- What is proved here: the reference's Num: the eight bytes of a number that is not below nought. the reference's Nums at any text. the reference's Key of a table and whichever numbers. Its condition: fewer than 10^9 numbers, each below 2^63. keys.Key, and the reference's, of one, two or three numbers that the caller lays into a new slice. Their condition: each number below 2^63. a slice of ints that came in, opened. a  -/
import Derived.Test.YtnkilceibkkjlaaGreatFNum
import Derived.Test.YtnkilceibkkjlaaGreatFRow
import Derived.ChangeSlices
import Derived.Test.YtnkilceibkkjlaaGreatFBase
set_option maxRecDepth 100000
set_option maxHeartbeats 16000000
namespace Go.Proofs.YtnkilceibkkjlaaGreat
open Go.RowKit
def bytesV (l:List UInt8):List Value:=l.map fun (b:UInt8)=>Value.int .u8 (b.toNat:Int)
theorem bytesV_len (l:List UInt8):(bytesV l).length=l.length:=List.length_map _
theorem fold_bytes:∀ (l:List UInt8) (s:ByteArray),(l.map (fun (b:UInt8)=>(b.toNat:Int))).foldl (fun r n=>r.push (UInt8.ofNat n.toNat)) s=⟨(s.data.toList ++ l).toArray⟩
 | [],s=>by cases s; simp
 | x :: l,s=>by
  simp only [List.map_cons,List.foldl_cons]
  rw [fold_bytes l]
  cases s
  simp [ByteArray.push]
theorem run_conv_own {w:World} {g n c:Nat} {l:List UInt8} (h:Own w 5 1 (.slice (some ⟨g,0,none⟩) n c) n (bytesV l)) :
  (convert 209 9 (.slice (some ⟨g,0,none⟩) n c)).run Tryz.prog w = .ok (.string ⟨l.toArray⟩) w:=by
 have hl:l.length=n:=by have:=h.1; rw [bytesV_len] at this; omega
 rw [run_convert_bytes_string _ _ _ 5 _ _ _ (by kernel_rfl) (by kernel_rfl) (by kernel_rfl)]
 rw [run_bytesToString _ _ n c (l.map (fun (b:UInt8)=>(b.toNat:Int)))]
 ·rw [fold_bytes]
  simp
 ·have:=run_loadCells_list (P:=Tryz.prog) w ⟨g,0,none⟩ (bytesV l) (fun j v hj=>h.cells (g:=g) rfl j v hj)
  rw [bytesV_len,hl] at this
  simpa [bytesV,Function.comp_def] using this
theorem news_one (w:World) (x:Value) (t:TypeId):∀ j u,[x][j]? = some u→(w.alloc (.cells #[x] t)).cell? ((⟨w.heap.size,0,none⟩:Addr).add j)=some u:=fun j u hj=>by
 rw [Addr.add_lit,cell_of_row _ _ _ _ _ _ (heap_alloc_new w _)]
 simpa using hj
def NumTo (w:World) (n k:Nat) (v:Value) (wr:World):Prop:=Own wr 5 1 v k (bytesV ((be8 n).take k))∧(∀ g,v.ownBlock=some g→w.heap.size≤g)∧Below w.heap.size w wr
theorem NumTo.next {w:World} {n k:Nat} {v:Value} {wr:World} (h:NumTo w n k v wr) (b:Int) (hb:(be8 n)[k]?.map (fun (b:UInt8)=>(b.toNat:Int))=some b) :
  ∃ xs,Own (wr.alloc (.cells #[.int .u8 b] 5)) 5 1 v k xs∧∀ v' w',Appended (wr.alloc (.cells #[.int .u8 b] 5)) 5 1 v k 1 xs [.int .u8 b] v' w'→NumTo w n (k+1) v' w':=by
 obtain ⟨h1,h2,h3⟩:=h
 refine ⟨_,h1.fr ((Fr.refl (fun _=>False) wr).alloc _) (fun _ _=>id),fun v' w' hA=>⟨?_,?_,?_⟩⟩
 ·have:=hA.own
  obtain ⟨x,hx,rfl⟩:=Option.map_eq_some_iff.1 hb
  rw [List.take_add_one,hx]
  simpa [bytesV] using this
 ·intro g hg
  rcases hA.block g hg with h | h
  ·exact h2 g h
  ·have:=h3.size
   simp at h
   omega
 ·exact (h3.alloc h3.size _).grown hA.grown (Nat.le_trans h3.size (by simp)) h2
theorem NumTo.done {w:World} {n:Nat} {v:Value} {wr:World} (h:NumTo w n 8 v wr):∃ g c,v = .slice (some ⟨g,0,none⟩) 8 c∧(convert 209 9 (.slice (some ⟨g,0,none⟩) 8 c)).run Tryz.prog wr = .ok (.string (numB n)) wr∧Below w.heap.size w wr:=by
 obtain ⟨h1,h2,h3⟩:=h
 have h4:=h1
 rcases h1.2 with ⟨_,h0⟩ | ⟨g,c,cur,rfl,_⟩
 ·omega
 ·exact ⟨g,c,rfl,by rw [run_conv_own h4]; rfl,h3⟩
end Go.Proofs.YtnkilceibkkjlaaGreat
namespace Go.Proofs.YtnkilceibkkjlaaGreat
open Go.RowKit
end Go.Proofs.YtnkilceibkkjlaaGreat
namespace Go.Proofs.YtnkilceibkkjlaaGreat
open Go.RowKit
def RKeyTo (t:Nat) (l:List Int) (w:World) (k:Nat) (s:ByteArray) (wr:World):Prop:=k≤l.length∧(∀ n∈l.take k,¬ n < 0)∧s=⟨(keyBytes t (l.take k)).toArray⟩∧Below w.heap.size w wr
theorem RKeyTo.next {t:Nat} {l:List Int} {w:World} {k:Nat} {s:ByteArray} {wr:World} (h:RKeyTo t l w k s wr) {n:Nat} (hn:l[k]? = some (n:Int)):RKeyTo t l w (k+1) (s ++ numB n) wr:=by
 obtain ⟨h1,h2,rfl,h4⟩:=h
 have hkl:k < l.length:=(List.getElem?_eq_some_iff.1 hn).1
 refine ⟨by omega,?_,?_,h4⟩
 ·rw [take_one_more l k _ hn]
  intro m hm
  rcases List.mem_append.1 hm with hm | hm
  ·exact h2 m hm
  ·rw [List.mem_singleton.1 hm]; omega
 ·rw [take_one_more l k _ hn,keyBytes_snoc]
  apply ba_ext
  rw [show ((⟨(keyBytes t (List.take k l)).toArray⟩:ByteArray) ++ numB n).data=(keyBytes t (List.take k l)).toArray ++ (numB n).data from ByteArray.data_append]
  simp [numB]
end Go.Proofs.YtnkilceibkkjlaaGreat
namespace Go.Proofs.YtnkilceibkkjlaaGreat
open Go.RowKit
theorem key_new0 (t:Nat) (ht1:1≤t) (ht2:t≤255) (w:World):Calls Tryz.prog 90 #[.int .i64 t,.slice none 0 0] w fun e w'=>e = .returned (.string (keyL t []))∧Below w.heap.size w w' :=
 key_any t ht1 ht2 _ [] w (.inl ⟨rfl,rfl⟩) (by simp) (by simp)
end Go.Proofs.YtnkilceibkkjlaaGreat
namespace Go.Proofs.YtnkilceibkkjlaaGreat
open Go.RowKit Go.ChangeShapes Go.WideShapes Go.ChangeAt
section
variable {H:Type} {enc:TypeId × Value→H} {w:World} {base:Nat} {spare:Nat→Bool} {held:Bool}
theorem wf_lt {n:Int} (h:(Lit.int .i64 n).wf=true) : -9223372036854775808≤n∧n < 9223372036854775808:=by
 have e1:IntKind.i64.min = -9223372036854775808:=rfl
 have e2:IntKind.i64.max=9223372036854775807:=rfl
 simp only [Lit.wf,Bool.and_eq_true,decide_eq_true_eq,e1,e2] at h
 omega
end
end Go.Proofs.YtnkilceibkkjlaaGreat
namespace Go.Proofs.YtnkilceibkkjlaaGreat
open Go.RowKit Go.ChangeShapes Go.WideShapes Go.ChangeAt
section
variable {H:Type} {enc:TypeId × Value→H} {w:World} {base:Nat} {spare:Nat→Bool} {held:Bool}
end
end Go.Proofs.YtnkilceibkkjlaaGreat
