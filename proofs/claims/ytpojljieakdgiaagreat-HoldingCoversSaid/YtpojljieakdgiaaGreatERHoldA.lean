/- What is proved here: the reference's holdings, read: Deposit, Factor, part, Part, Worth. Their conditions: sizes. the reference's holdings: Worth, set. Their conditions: sizes. -/
import Derived.Test.YtpojljieakdgiaaGreatERCellM
import Derived.Test.YtpojljieakdgiaaGreatERFacG
set_option maxRecDepth 100000
set_option maxHeartbeats 16000000
namespace Go.Proofs.YtpojljieakdgiaaGreat
open Go.RowKit
theorem rkey2_any (t:Nat) (ht1:1≤t) (ht2:t≤255) (a b:Int) (ha:I63 a) (hb:I63 b) (W:World):Calls Tryz.prog 89 #[.int .i64 t,.slice (some ⟨W.heap.size,0,none⟩) 2 2] (W.alloc (iRow a b)) fun e w'=>e = .returned (.string (keyL t [a,b]))∧Below W.heap.size W w' :=
 (rkey_any t ht1 ht2 _ [a,b] _ (two_ints W a b) (by simp) (fun n hn=>by
  simp only [List.mem_cons,List.not_mem_nil,or_false] at hn
  rcases hn with rfl | rfl
  ·exact ha
  ·exact hb)).mono fun e w' ⟨he,hb⟩=>⟨he,bl_then (bl_alloc (Below.refl _ W) _) hb⟩
theorem BV.key {w:World} (t:Nat) (ht1:1≤t) (ht2:t≤255) (a b:Int) (ha:I63 a) (hb:I63 b):Hid (∀ rs W,BV w rs W→Calls Tryz.prog 89 #[.int .i64 t,.slice (some ⟨W.heap.size,0,none⟩) 2 2] (W.alloc (iRow a b)) fun e w'=>e = .returned (.string (keyL t [a,b]))∧BV w rs w') :=
 fun _ W hW=>(rkey2_any t ht1 ht2 a b ha hb W).mono fun _ _ ⟨he,hb⟩=>⟨he,hW.below hb⟩
end Go.Proofs.YtpojljieakdgiaaGreat
