/- What is proved here: amounts in bytes, of the reference: the same as the program's. No condition. amounts in a store, of the reference. Its conditions: sizes. the reference's Add, Sub and Move of amounts in a store. Their conditions: sizes. the reference's Move of amounts in a store. Its conditions: sizes. -/
import Derived.Test.YtpojljieakdgiaaGreatERFacA
import Derived.Test.YtpojljieakdgiaaGreatEAmtG
import Derived.Test.YtpojljieakdgiaaGreatEDivP
import Derived.Test.YtpojljieakdgiaaGreatEHoldP
set_option maxRecDepth 100000
set_option maxHeartbeats 16000000
namespace Go.Proofs.YtpojljieakdgiaaGreat
open Go.RowKit
def BTo (W1:World) (x:W4) (k:Nat) (v:Value) (wr:World):Prop:=Own wr 5 1 v k (bytesV ((amtL x).take k))∧(∀ g,v.ownBlock=some g→W1.heap.size≤g)∧Below W1.heap.size W1 wr
theorem amtL_at (x:W4) (k:Nat) (hk:k < 32):(amtL x)[k]? = some (uByte x k):=by
 unfold amtL
 rw [List.getElem?_map,List.getElem?_range hk]; rfl
theorem BTo.next {W1:World} {x:W4} {k:Nat} {v:Value} {wr:World} (h:BTo W1 x k v wr) (hk:k < 32) (b:Int) (hb:(((uByte x k).toNat:Nat):Int)=b) :
  ∃ xs,Own (wr.alloc (.cells #[.int .u8 b] 5)) 5 1 v k xs∧∀ v' w',Appended (wr.alloc (.cells #[.int .u8 b] 5)) 5 1 v k 1 xs [.int .u8 b] v' w'→BTo W1 x (k+1) v' w':=by
 obtain ⟨h1,h2,h3⟩:=h
 refine ⟨_,h1.fr ((Fr.refl (fun _=>False) wr).alloc _) (fun _ _=>id),fun v' w' hA=>⟨?_,?_,?_⟩⟩
 ·have:=hA.own
  rw [List.take_add_one,amtL_at x k hk]
  subst hb
  simpa [bytesV] using this
 ·intro g hg
  rcases hA.block g hg with h | h
  ·exact h2 g h
  ·have:=h3.size
   simp at h
   omega
 ·exact (h3.alloc h3.size _).grown hA.grown (Nat.le_trans h3.size (by simp)) h2
theorem BTo.done {W1:World} {x:W4} {v:Value} {wr:World} (h:BTo W1 x 32 v wr):∃ g c,v = .slice (some ⟨g,0,none⟩) 32 c∧(convert 188 9 (.slice (some ⟨g,0,none⟩) 32 c)).run Tryz.prog wr = .ok (.string (amtB x)) wr∧Below W1.heap.size W1 wr:=by
 obtain ⟨h1,h2,h3⟩:=h
 have h4:=h1
 rcases h1.2 with ⟨_,h0⟩ | ⟨g,c,cur,rfl,_⟩
 ·omega
 ·exact ⟨g,c,rfl,by rw [run_conv_own h4]; rfl,h3⟩
theorem BTo.row {W1:World} {x:W4} {k:Nat} {v:Value} {wr:World} (h:BTo W1 x k v wr) {g:Nat} {o:Obj} (hg:W1.heap[g]? = some o):wr.heap[g]? = some o:=(h.2.2.block g (lt_of_at hg)).trans hg
theorem rbytes_any (x:W4) (w:World):Calls Tryz.prog 222 #[uV x] w fun e w'=>∃ v,e = .returned v∧BTo (w.alloc (uO x)) x 32 v w':=by
 have H0:Hid (BTo (w.alloc (uO x)) x 0 (.slice none 0 0) (w.alloc (uO x))):=⟨Own.nil _ _ _,fun g hg=>by simp [Value.ownBlock] at hg,Below.refl _ _⟩
 have HR:Hid (∀ k v wr,BTo (w.alloc (uO x)) x k v wr→wr.heap[w.heap.size]? = some (uO x)):=fun k v wr h=>h.row (heap_alloc_new w _)
 go_enter Tryz.func222,Tryz.ntmps222
 go_wp2_with fail
 go_loopw [3,4] (fun v iv wr=>∃ k:Nat,iv = .int .i64 (31 - (k:Int))∧k≤32∧BTo (w.alloc (uO x)) x k v wr) (fun _ iv _=>(intOf iv+1).toNat)
 case atStart=>exact ⟨0,rfl,by omega,H0.out⟩
 case round =>
  obtain ⟨k,rfl,hk,hB⟩:=hrel
  have hrow:=HR.out k _ wr hB
  have HB:=Lib.hid hB
  clear H0
  by_cases hlt:k < 32
  ·have h4:(31 - k) / 8 < 4:=by omega
   have cA:wr.cell? ⟨w.heap.size,(31 - k) / 8,none⟩=some (.int .u64 (x.at ((31 - k) / 8))):=by rw [cell_of_row _ _ _ _ _ _ hrow]; exact uL_at x _ h4
   have hval:(((x.at ((31 - k) / 8):Nat):Int) / 2 ^ (8*((31 - k) % 8)) % 256:Int)=(((uByte x k).toNat:Nat):Int):=by
    unfold uByte
    rw [UInt8.toNat_ofNat']
    simp
   obtain ⟨xs,ho,hst⟩:=hB.next hlt _ rfl
   have HO:=Lib.hid ho
   have HST:=Lib.hid hst
   have hi:(31 - (k:Int))=((31 - k:Nat):Int):=by omega
   rw [hi]
   clear ho hst hB HB hrow
   generalize x.at ((31 - k) / 8)=a at *
   go_wp2_with (at_builtin; refine wpList_append_Own rfl _ _ 188 188 rfl bytesT bytesT _ k xs rfl HO.out _ 1 _ [.int .u8 (((uByte x k).toNat:Nat):Int)] rfl rfl (news_one _ _ _) (one_u8 _) (by unfold maxLen; omega) (by omega) ?_)
   intro v' w' hA
   have HR2:=Lib.hid (HST.out v' w' hA)
   clear hA
   go_wp2_with fail
   go_roundw
   case rel=>exact ⟨k+1,by first | rfl | go_num,by omega,HR2.out⟩
   case measure=>simp [intOf]
  ·obtain rfl:k=32:=by omega
   clear hB
   go_wp2_with fail
   go_ret
   exact ⟨_,rfl,HB.out⟩
theorem rkamount_any (x:W4) (w:World):Calls Tryz.prog 199 #[uV x] w fun e w'=>e = .returned (.string (amtB x))∧Below w.heap.size w w':=by
 have hx4:=row4 (heap_alloc_new w (.cells (uL x) 28))
 obtain ⟨q0,q1,q2,q3,_⟩:=hx4
 have HB:Hid (Calls Tryz.prog 222 #[uV x] (w.alloc (.cells (uL x) 28)) fun e w'=>∃ g c,e = .returned (.slice (some ⟨g,0,none⟩) 32 c)∧(convert 188 9 (.slice (some ⟨g,0,none⟩) 32 c)).run Tryz.prog w' = .ok (.string (amtB x)) w'∧Below w.heap.size w w') :=
  (rbytes_any x _).mono fun e w' ⟨v,he,hA⟩=>by
   obtain ⟨g,c,rfl,h1,h2⟩:=hA.done
   exact ⟨g,c,he,h1,bl_then (bl_alloc (Below.refl _ w) _) (bl_then (bl_alloc (Below.refl _ _) _) h2)⟩
 go_enter Tryz.func199,Tryz.ntmps199
 go_wp2_with (go_at_call 222; refine HB.out.mono ?_; rintro e w' ⟨g,c,rfl,hcv,hb⟩)
 go_ret
 exact ⟨rfl,hb⟩
theorem rsetAmt_any (w:World) (b:Nat) (s:St) (L:List Nat) (k:ByteArray) (x:W4) (h:RRep w b s L) (hb:s.size < 1000000000000) :
  Calls Tryz.prog 153 #[.pointer (some ⟨b,0,none⟩),.string k,uV x] w fun e w'=>e = .returned (.tuple #[])∧RetR w b L (.tuple #[]) (s.setAmt k x) (.returned (.tuple #[])) w':=by
 have hb1:=bl_alloc (Below.refl _ w) (.cells (uL x) 28)
 by_cases h0:x=(0,0,0,0)
 ·have e:s.setAmt k x=s.del k:=by unfold St.setAmt St.put; rw [if_pos h0,if_pos rfl]
  rw [e]
  have HD:Hid (∀ w1,Below w.heap.size w w1→Calls Tryz.prog 184 #[.pointer (some ⟨b,0,none⟩),.string k] w1 fun e w'=>e = .returned (.bool (getE s.ents k).isSome)∧RetR w b L (.tuple #[]) (s.del k) (.returned (.tuple #[])) w'):=fun w1 h1=>(rdelete_any w1 b s L k (h.below h1) hb).mono fun e w' h2=>⟨h2.1,RetR.of_below h1 ⟨rfl,h2.2⟩⟩
  have HB1:=Lib.hid hb1
  subst h0
  have hE:∀ w,(Op.equalIn 10000 28 (.agg #[.int .u64 0,.int .u64 0,.int .u64 0,.int .u64 0]) (.agg #[.int .u64 0,.int .u64 0,.int .u64 0,.int .u64 0])).run Tryz.prog w = .ok true w:=fun w=>eqU (0,0,0,0) (0,0,0,0) w
  generalize RetR w b L (.tuple #[]) (s.del k)=R at *
  clear h hb e hb1
  go_enter Tryz.func153,Tryz.ntmps153
  go_wp2_with (go_at_call 184; refine (HD.out _ HB1.out).mono ?_; rintro e w' ⟨rfl,hR⟩)
  refine bodyPost_ret (results_none rfl _ _ _) rfl ?_
  exact ⟨rfl,hR⟩
 ·have HS:Hid (∀ w1,Below w.heap.size w w1→Calls Tryz.prog 198 #[.pointer (some ⟨b,0,none⟩),.string k,.string (amtB x)] w1 fun e w'=>∃ n,e = .returned (.int .i64 n)∧RetR w b L (.tuple #[]) (s.setAmt k x) (.returned (.tuple #[])) w'):=fun w1 h1=>by
   have hne:¬ amtB x=emptyB:=fun e=>by have:=congrArg (fun z:ByteArray=>z.data.size) e; simp [amtB,amtL,emptyB] at this
   unfold St.setAmt St.put
   rw [if_neg h0,if_neg hne]
   by_cases hk:k=emptyB
   ·rw [if_pos hk,hk]
    exact (rset_empty w1 b (amtB x)).mono fun e w' ⟨he,hw⟩=>⟨2,he,RetR.of_below h1 ⟨rfl,L,hw ▸ h.below h1,hw ▸ Step.refl _ _⟩⟩
   ·rw [if_neg hk]
    exact (rset_any w1 b s L k (amtB x) (h.below h1) hk hb).mono fun e w' h2=>⟨0,h2.1,RetR.of_below h1 ⟨rfl,h2.2⟩⟩
  have HK:Hid (Calls Tryz.prog 199 #[uV x] (w.alloc (.cells (uL x) 28)) fun e w'=>e = .returned (.string (amtB x))∧Below w.heap.size w w'):=(rkamount_any x _).mono fun e w' ⟨he,hb⟩=>⟨he,bl_then hb1 hb⟩
  have hE:∀ w,(Op.equalIn 10000 28 (.agg #[.int .u64 x.1,.int .u64 x.2.1,.int .u64 x.2.2.1,.int .u64 x.2.2.2]) (.agg #[.int .u64 0,.int .u64 0,.int .u64 0,.int .u64 0])).run Tryz.prog w = .ok false w:=eqU_ne0 h0
  have hq:=row4 (heap_alloc_new w (.cells (uL x) 28))
  obtain ⟨q0,q1,q2,q3,_⟩:=hq
  generalize RetR w b L (.tuple #[]) (s.setAmt k x)=R at *
  generalize amtB x=nb at *
  clear h hb hb1
  go_enter Tryz.func153,Tryz.ntmps153
  go_wp2_with (first | (go_at_call 199; refine HK.out.mono ?_; rintro e w1 ⟨rfl,hb1⟩) | (go_at_call 198; refine (HS.out _ hb1).mono ?_; rintro e w' ⟨n,rfl,hR⟩))
  go_end0
  exact ⟨rfl,hR⟩
abbrev FV (b:Nat) (w:World) (L:List Nat) (s:St) (rs:List (Nat × Obj)) (W:World):Prop:=QV (FRep b) w L s rs W
theorem FV.start {b:Nat} {w:World} {L:List Nat} {s:St} (h:RRep w b s L):FV b w L s [] w:=QV.start (fRep_ok b) h
def ROn (w:World) (b:Nat) (L:List Nat) (s:St) (W:World):Prop:=∃ L',RRep W b s L'∧Step w L W L'
theorem FV.done {b:Nat} {w W:World} {L:List Nat} {s:St} {rs:List (Nat × Obj)} (h:FV b w L s rs W):ROn w b L s W:=QV.done h
theorem FV.cset {b:Nat} {w W:World} {L:List Nat} {s:St} {rs:List (Nat × Obj)} (hq:FV b w L s rs W) (hz:s.size < 1000000000000) (k:ByteArray) (x:W4):Calls Tryz.prog 153 #[.pointer (some ⟨b,0,none⟩),.string k,uV x] W fun e W'=>e = .returned (.tuple #[])∧FV b w L (s.setAmt k x) rs W' :=
 QV.call hq fun L' h1=>(rsetAmt_any W b s L' k x h1 hz).mono fun _ _ ⟨he,h2⟩=>⟨he,h2.2⟩
abbrev H1:Hand:=⟨none,true,[]⟩
end Go.Proofs.YtpojljieakdgiaaGreat
