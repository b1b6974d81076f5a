/- What is proved here: the reference's fractions and amounts (chapter 3), and its factor.Good. Their condition: words below 2^64. holding.undo of the program as a deferred call. Its conditions: sizes, keys in order. holdings of the program: Put. Its conditions: sizes. holdings of the program: Put, whole. Its conditions: sizes. amounts in bytes, of the reference: the same as the program's. No condition. amounts in a stor -/
import Derived.Test.YtnkilceibkkjlaaGreatIHoldB
import Derived.Test.YtnkilceibkkjlaaGreatIRDown
import Derived.Test.YtnkilceibkkjlaaGreatIUndG
import Derived.Test.YtnkilceibkkjlaaGreatIHoldD
import Derived.Test.YtnkilceibkkjlaaGreatIFqD
import Derived.Test.YtnkilceibkkjlaaGreatIHistP
import Derived.Test.YtnkilceibkkjlaaGreatIMulU
import Derived.Test.YtnkilceibkkjlaaGreatIDivP
import Derived.Test.YtnkilceibkkjlaaGreatIFqB
import Derived.WalkMore
set_option maxRecDepth 100000
set_option maxHeartbeats 16000000
namespace Go.Proofs.YtnkilceibkkjlaaGreat
open Go.RowKit
def putC (a o t:Int) (x:W4):Prop:=x=(0,0,0,0)∨¬ uN x < M128∨a < 1∨t < 1∨o < 0
instance (a o t:Int) (x:W4):Decidable (putC a o t x):=by unfold putC; infer_instance
def Hand.putS1 (h:Hand) (s:St) (a t:Int) (m x:W4):St:=h.wr s a t (sumW (s.dep a t) x) (growW (s.dep a t) (s.fct a t) m x)
def Hand.putE (h:Hand) (s:St) (a o t:Int) (m x:W4):Int:=if putC a o t x then 2 else if m=(0,0,0,0) then 14 else if growB (s.dep a t) (s.fct a t) m x then moreE ((h.putS1 s a t m x).amt (keyL 12 [o,t])) x else 6
end Go.Proofs.YtnkilceibkkjlaaGreat
namespace Go.Proofs.YtnkilceibkkjlaaGreat
open Go.RowKit
theorem rfrom_any (f:Nat→Nat) (hf:∀ i,f i < 256) (g c:Nat) (w:World) (hg:g < w.heap.size) (hc:∀ j,j < 32→w.cell? ⟨g,j,none⟩=some (.int .u8 (f j:Nat))):Calls Tryz.prog 213 #[.slice (some ⟨g,0,none⟩) 32 c] w fun e w'=>e = .returned (.tuple #[uV (uFrom f 32),.bool true])∧Below w.heap.size w w':=by
 have H0:=Lib.hid (FAt.start w)
 have HC:Hid (∀ i wr,i < 32→FAt w (uFrom f i) wr→wr.cell? ⟨g,i,none⟩=some (.int .u8 (f i:Nat))):=fun i wr hi h=>by rw [h.hb.cell (p:=⟨g,i,none⟩) hg]; exact hc i hi
 have HN:Hid (∀ wr i,i < 32→FAt w (uFrom f i) wr→∀ v:Int,v=(((uFrom f (i+1)).at ((31 - i) / 8):Nat):Int)→FAt w (uFrom f (i+1)) (wr.setCell ⟨w.heap.size+1,(31 - i) / 8,none⟩ (.int .u64 v))):=fun wr i hi h v hv=>by
  refine ⟨h.hb.setCell (p:=⟨w.heap.size+1,(31 - i) / 8,none⟩) (by simp) _,by rw [Below.heap_setCell _ _ _ _ (by simp)]; exact h.hr,?_⟩
  have e:uFrom f (i+1)=(uFrom f i).set ((31 - i) / 8) ((uFrom f (i+1)).at ((31 - i) / 8)):=by
   rw [uFrom,set_at _ _ _ _ (by omega) (by omega),if_pos rfl]
  rw [hv,e,set_at _ _ _ _ (by omega) (by omega),if_pos rfl,← uL_set _ _ _ (by omega)]
  exact heap_setCell_same _ _ _ _ _ _ h.ho
 have HV:Hid (∀ i,i < 32→bits .or .u64 (((uFrom f i).at ((31 - i) / 8):Nat):Int) (IntKind.u64.wrap (((f i:Nat):Int)*2 ^ (8*((31 - i) % 8))))=(((uFrom f (i+1)).at ((31 - i) / 8):Nat):Int)):=uFrom_or f hf
 have hf8:=hf
 clear hc
 go_enter Tryz.func213,Tryz.ntmps213
 go_wp2_with fail
 go_loopw [14] (fun iv wr=>∃ i:Nat,iv = .int .i64 i∧i≤32∧FAt w (uFrom f i) wr) (fun iv _=>32 - (intOf iv).toNat)
 case atStart=>exact ⟨0,rfl,by omega,H0.out⟩
 case round =>
  obtain ⟨i,rfl,hi,hA⟩:=hrel
  have HA:=Lib.hid hA
  clear hA H0
  by_cases hlt:i < 32
  ·have h4:(31 - i) / 8 < 4:=by omega
   have cA:=HC.out i wr hlt HA.out
   have cD:wr.cell? ⟨w.heap.size+1,(31 - i) / 8,none⟩=some (.int .u64 ((uFrom f i).at ((31 - i) / 8))):=by rw [cell_of_row _ _ _ _ _ _ HA.out.ho]; exact uL_at _ _ h4
   have fD:wr.frozen? ⟨w.heap.size+1,(31 - i) / 8,none⟩=false:=frozen_of_row _ _ _ _ _ HA.out.ho
   have HV1:=Lib.hid (HV.out i hlt)
   have HN1:=Lib.hid (HN.out wr i hlt HA.out)
   have hfi:=hf8 i
   generalize (uFrom f i).at ((31 - i) / 8)=a at *
   generalize f i=b at *
   go_wp2_with fail
   refine ⟨⟨i+1,by go_num,by omega,HN1.out _ HV1.out⟩,by simp [intOf]; omega⟩
  ·obtain rfl:i=32:=by omega
   obtain ⟨o0,o1,o2,o3,_⟩:=row4 HA.out.ho
   obtain ⟨_,_,_,_,r0,r1,r2,r3⟩:=row4 HA.out.hr
   clear HN HC HV
   go_wp2_with fail
   refine bodyPost_ret (results_cell_row2 rfl _ _ w.heap.size 24 (uL (uFrom f 32)) (0,0) _ rfl (put4 HA.out.hr _) Tryz.underlying24 rfl (by kernel_rfl)) rfl ?_
   exact ⟨rfl,put4_below HA.out.hb (by omega) _ _ _ _⟩
theorem rfrom_not (a:Option Addr) (n c:Nat) (hn:n≠32) (w:World):Calls Tryz.prog 213 #[.slice a n c] w fun e w'=>e = .returned (.tuple #[uV (0,0,0,0),.bool false])∧Below w.heap.size w w':=by
 have HA:=Lib.hid (FAt.start w)
 have hne:((n:Int) == 32)=false:=beq_eq_false_iff_ne.2 (by omega)
 have HE:Hid (((w.alloc (.cells (uL (0,0,0,0)) 24)).alloc (.cells (uL (0,0,0,0)) 24)).heap[w.heap.size]? = some (.cells (uL (0,0,0,0)) 24 (0,0))):=HA.out.hr
 go_enter Tryz.func213,Tryz.ntmps213
 go_wp2_with fail
 refine bodyPost_ret (results_cell_row2 rfl _ _ w.heap.size 24 (uL (0,0,0,0)) (0,0) _ rfl HE.out Tryz.underlying24 rfl (by kernel_rfl)) rfl ?_
 exact ⟨rfl,HA.out.hb⟩
def BTo (W1:World) (x:W4) (k:Nat) (v:Value) (wr:World):Prop:=Own wr 5 1 v k (bytesV ((amtL x).take k))∧(∀ g,v.ownBlock=some g→W1.heap.size≤g)∧Below W1.heap.size W1 wr
theorem amtL_at (x:W4) (k:Nat) (hk:k < 32):(amtL x)[k]? = some (uByte x k):=by
 unfold amtL
 rw [List.getElem?_map,List.getElem?_range hk]; rfl
theorem BTo.next {W1:World} {x:W4} {k:Nat} {v:Value} {wr:World} (h:BTo W1 x k v wr) (hk:k < 32) (b:Int) (hb:(((uByte x k).toNat:Nat):Int)=b) :
  ∃ xs,Own (wr.alloc (.cells #[.int .u8 b] 5)) 5 1 v k xs∧∀ v' w',Appended (wr.alloc (.cells #[.int .u8 b] 5)) 5 1 v k 1 xs [.int .u8 b] v' w'→BTo W1 x (k+1) v' w':=by
 obtain ⟨h1,h2,h3⟩:=h
 refine ⟨_,h1.fr ((Fr.refl (fun _=>False) wr).alloc _) (fun _ _=>id),fun v' w' hA=>⟨?_,?_,?_⟩⟩
 ·have:=hA.own
  rw [List.take_add_one,amtL_at x k hk]
  subst hb
  simpa [bytesV] using this
 ·intro g hg
  rcases hA.block g hg with h | h
  ·exact h2 g h
  ·have:=h3.size
   simp at h
   omega
 ·exact (h3.alloc h3.size _).grown hA.grown (Nat.le_trans h3.size (by simp)) h2
theorem BTo.done {W1:World} {x:W4} {v:Value} {wr:World} (h:BTo W1 x 32 v wr):∃ g c,v = .slice (some ⟨g,0,none⟩) 32 c∧(convert 209 9 (.slice (some ⟨g,0,none⟩) 32 c)).run Tryz.prog wr = .ok (.string (amtB x)) wr∧Below W1.heap.size W1 wr:=by
 obtain ⟨h1,h2,h3⟩:=h
 have h4:=h1
 rcases h1.2 with ⟨_,h0⟩ | ⟨g,c,cur,rfl,_⟩
 ·omega
 ·exact ⟨g,c,rfl,by rw [run_conv_own h4]; rfl,h3⟩
theorem BTo.row {W1:World} {x:W4} {k:Nat} {v:Value} {wr:World} (h:BTo W1 x k v wr) {g:Nat} {o:Obj} (hg:W1.heap[g]? = some o):wr.heap[g]? = some o:=(h.2.2.block g (lt_of_at hg)).trans hg
theorem rbytes_any (x:W4) (w:World):Calls Tryz.prog 233 #[uV x] w fun e w'=>∃ v,e = .returned v∧BTo (w.alloc (uO x)) x 32 v w':=by
 have H0:Hid (BTo (w.alloc (uO x)) x 0 (.slice none 0 0) (w.alloc (uO x))):=⟨Own.nil _ _ _,fun g hg=>by simp [Value.ownBlock] at hg,Below.refl _ _⟩
 have HR:Hid (∀ k v wr,BTo (w.alloc (uO x)) x k v wr→wr.heap[w.heap.size]? = some (uO x)):=fun k v wr h=>h.row (heap_alloc_new w _)
 go_enter Tryz.func233,Tryz.ntmps233
 go_wp2_with fail
 go_loopw [3,4] (fun v iv wr=>∃ k:Nat,iv = .int .i64 (31 - (k:Int))∧k≤32∧BTo (w.alloc (uO x)) x k v wr) (fun _ iv _=>(intOf iv+1).toNat)
 case atStart=>exact ⟨0,rfl,by omega,H0.out⟩
 case round =>
  obtain ⟨k,rfl,hk,hB⟩:=hrel
  have hrow:=HR.out k _ wr hB
  have HB:=Lib.hid hB
  clear H0
  by_cases hlt:k < 32
  ·have h4:(31 - k) / 8 < 4:=by omega
   have cA:wr.cell? ⟨w.heap.size,(31 - k) / 8,none⟩=some (.int .u64 (x.at ((31 - k) / 8))):=by rw [cell_of_row _ _ _ _ _ _ hrow]; exact uL_at x _ h4
   have hval:(((x.at ((31 - k) / 8):Nat):Int) / 2 ^ (8*((31 - k) % 8)) % 256:Int)=(((uByte x k).toNat:Nat):Int):=by
    unfold uByte
    rw [UInt8.toNat_ofNat']
    simp
   obtain ⟨xs,ho,hst⟩:=hB.next hlt _ rfl
   have HO:=Lib.hid ho
   have HST:=Lib.hid hst
   have hi:(31 - (k:Int))=((31 - k:Nat):Int):=by omega
   rw [hi]
   clear ho hst hB HB hrow
   generalize x.at ((31 - k) / 8)=a at *
   go_wp2_with (at_builtin; refine wpList_append_Own rfl _ _ 209 209 rfl bytesT bytesT _ k xs rfl HO.out _ 1 _ [.int .u8 (((uByte x k).toNat:Nat):Int)] rfl rfl (news_one _ _ _) (one_u8 _) (by unfold maxLen; omega) (by omega) ?_)
   intro v' w' hA
   have HR2:=Lib.hid (HST.out v' w' hA)
   clear hA
   go_wp2_with fail
   go_roundw
   case rel=>exact ⟨k+1,by first | rfl | go_num,by omega,HR2.out⟩
   case measure=>simp [intOf]
  ·obtain rfl:k=32:=by omega
   clear hB
   go_wp2_with fail
   go_ret
   exact ⟨_,rfl,HB.out⟩
theorem rkamount_any (x:W4) (w:World):Calls Tryz.prog 199 #[uV x] w fun e w'=>e = .returned (.string (amtB x))∧Below w.heap.size w w':=by
 have hx4:=row4 (heap_alloc_new w (.cells (uL x) 24))
 obtain ⟨q0,q1,q2,q3,_⟩:=hx4
 have HB:Hid (Calls Tryz.prog 233 #[uV x] (w.alloc (.cells (uL x) 24)) fun e w'=>∃ g c,e = .returned (.slice (some ⟨g,0,none⟩) 32 c)∧(convert 209 9 (.slice (some ⟨g,0,none⟩) 32 c)).run Tryz.prog w' = .ok (.string (amtB x)) w'∧Below w.heap.size w w') :=
  (rbytes_any x _).mono fun e w' ⟨v,he,hA⟩=>by
   obtain ⟨g,c,rfl,h1,h2⟩:=hA.done
   exact ⟨g,c,he,h1,bl_then (bl_alloc (Below.refl _ w) _) (bl_then (bl_alloc (Below.refl _ _) _) h2)⟩
 go_enter Tryz.func199,Tryz.ntmps199
 go_wp2_with (go_at_call 233; refine HB.out.mono ?_; rintro e w' ⟨g,c,rfl,hcv,hb⟩)
 go_ret
 exact ⟨rfl,hb⟩
theorem rtoAmount_any (s:ByteArray) (w:World):Calls Tryz.prog 165 #[.string s] w fun e w'=>e = .returned (.tuple #[uV (toAmt s),.bool (s.size == 32)])∧Below w.heap.size w w':=by
 obtain ⟨c,w2,hcv,hb2,hlt,hcell⟩:=conv_to s (w.alloc (.cells (uL (0,0,0,0)) 24))
 have hb1:=bl_then (bl_alloc (Below.refl _ w) _) hb2
 have HF:Hid (Calls Tryz.prog 213 #[.slice (some ⟨w.heap.size+1,0,none⟩) s.size c] w2 fun e w'=>e = .returned (.tuple #[uV (toAmt s),.bool (s.size == 32)])∧Below w.heap.size w w'∧w'.heap[w.heap.size]? = some (.cells (uL (0,0,0,0)) 24 (0,0))):=by
  have hrow:w2.heap[w.heap.size]? = some (.cells (uL (0,0,0,0)) 24 (0,0)):=(hb2.block _ (by simp)).trans (heap_alloc_new w (.cells (uL (0,0,0,0)) 24))
  have fin:∀ {w'},Below w2.heap.size w2 w'→Below w.heap.size w w'∧w'.heap[w.heap.size]? = some (.cells (uL (0,0,0,0)) 24 (0,0)):=fun hb=>⟨bl_then hb1 hb,(hb.block _ (Array.getElem?_eq_some_iff.1 hrow).1).trans hrow⟩
  rw [World.size_alloc] at hlt hcell
  by_cases h:s.size=32
  ·unfold toAmt
   rw [h,if_pos rfl]
   exact (rfrom_any (fun i=>(s.data.getD i 0).toNat) (fun i=>UInt8.toNat_lt _) _ c w2 hlt (fun j hj=>hcell j (by omega))).mono fun e w' ⟨he,hb⟩=>⟨he,fin hb⟩
  ·unfold toAmt
   rw [if_neg h,beq_eq_false_iff_ne.2 h]
   exact (rfrom_not _ s.size c h w2).mono fun e w' ⟨he,hb⟩=>⟨he,fin hb⟩
 rw [World.size_alloc] at hcv
 have hcv:(convert 9 209 (.string s)).run Tryz.prog (w.alloc (.cells #[.int .u64 0,.int .u64 0,.int .u64 0,.int .u64 0] 24)) = .ok (.slice (some ⟨w.heap.size+1,0,none⟩) s.size c) w2:=hcv
 clear hb2 hlt hcell hb1
 generalize toAmt s=x at *
 go_enter Tryz.func165,Tryz.ntmps165
 go_wp2_with fail
 refine HF.out.mono ?_
 rintro e w3 ⟨rfl,hb3,hrow⟩
 have HR:=Lib.hid hrow
 obtain ⟨_,_,_,_,r0,r1,r2,r3⟩:=row4 hrow
 clear hrow HF
 go_wp2_with fail
 refine bodyPost_ret (results_cell_row2 rfl _ _ w.heap.size 24 (uL x) (0,0) _ rfl (put4 HR.out x) Tryz.underlying24 rfl (by kernel_rfl)) rfl ?_
 exact ⟨rfl,put4_below hb3 (by omega) _ _ _ _⟩
theorem ramount_at (w:World) (b:Nat) (k v:ByteArray) (ok:Bool) (hG:∀ w1,Below w.heap.size w w1→RGetIs w1 b k v ok):Calls Tryz.prog 91 #[.pointer (some ⟨b,0,none⟩),.string k] w fun e w'=>e = .returned (uV (toAmt v))∧Below w.heap.size w w':=by
 have hb0:=bl_alloc (Below.refl _ w) (.cells (uL (0,0,0,0)) 24)
 have HG:Hid (RGetIs (w.alloc (.cells (uL (0,0,0,0)) 24)) b k v ok):=hG _ hb0
 have HT:Hid (Calls Tryz.prog 165 #[.string v] (w.alloc (.cells (uL (0,0,0,0)) 24)) fun e w'=>e = .returned (.tuple #[uV (toAmt v),.bool (v.size == 32)])∧Below w.heap.size w w'∧w'.heap[w.heap.size]? = some (.cells (uL (0,0,0,0)) 24 (0,0))) :=
  (rtoAmount_any v _).mono fun e w' ⟨he,hb⟩=>⟨he,bl_then hb0 hb,(hb.block _ (by simp)).trans (heap_alloc_new w (.cells (uL (0,0,0,0)) 24))⟩
 clear hG hb0
 generalize toAmt v=x at *
 unfold RGetIs at HG
 go_enter Tryz.func91,Tryz.ntmps91
 go_wp2_with fail
 refine Calls.mono HG.out ?_
 rintro e w' ⟨rfl,rfl⟩
 go_wp2_with fail
 refine HT.out.mono ?_
 rintro e w3 ⟨rfl,hb3,hrow⟩
 have HR:=Lib.hid hrow
 obtain ⟨_,_,_,_,r0,r1,r2,r3⟩:=row4 hrow
 have hn3:w.heap.size < w3.heap.size:=(Array.getElem?_eq_some_iff.1 hrow).1
 have hne:w3.heap.size≠w.heap.size:=by omega
 have hne2:=Ne.symm hne
 clear hrow HT HG
 go_wp2_with fail
 refine bodyPost_ret (results_cell_row rfl _ _ w.heap.size 24 (uL x) (0,0) _ rfl ?_ Tryz.underlying24 rfl (by kernel_rfl)) rfl ?_
 ·rw [heap_alloc_old _ _ (by simpa using hn3)]; exact put4 HR.out x
 ·exact ⟨rfl,bl_alloc (put4_below hb3 (by omega) _ _ _ _) _⟩
theorem ramt_any (w:World) (b:Nat) (s:St) (L:List Nat) (k:ByteArray) (h:RRep w b s L) (hn:s.ents.length < 1000000000000):Calls Tryz.prog 91 #[.pointer (some ⟨b,0,none⟩),.string k] w fun e w'=>e = .returned (uV (s.amt k))∧Below w.heap.size w w' :=
 ramount_at w b k (s.val k) (getE s.ents k).isSome fun w1 h1=>rget_any w1 b s L k (h.below h1) hn
theorem rsetAmt_any (w:World) (b:Nat) (s:St) (L:List Nat) (k:ByteArray) (x:W4) (h:RRep w b s L) (hb:s.size < 1000000000000) :
  Calls Tryz.prog 134 #[.pointer (some ⟨b,0,none⟩),.string k,uV x] w fun e w'=>e = .returned (.tuple #[])∧RetR w b L (.tuple #[]) (s.setAmt k x) (.returned (.tuple #[])) w':=by
 have hb1:=bl_alloc (Below.refl _ w) (.cells (uL x) 24)
 by_cases h0:x=(0,0,0,0)
 ·have e:s.setAmt k x=s.del k:=by unfold St.setAmt St.put; rw [if_pos h0,if_pos rfl]
  rw [e]
  have HD:Hid (∀ w1,Below w.heap.size w w1→Calls Tryz.prog 136 #[.pointer (some ⟨b,0,none⟩),.string k] w1 fun e w'=>e = .returned (.bool (getE s.ents k).isSome)∧RetR w b L (.tuple #[]) (s.del k) (.returned (.tuple #[])) w'):=fun w1 h1=>(rdelete_any w1 b s L k (h.below h1) hb).mono fun e w' h2=>⟨h2.1,RetR.of_below h1 ⟨rfl,h2.2⟩⟩
  have HB1:=Lib.hid hb1
  subst h0
  have hE:∀ w,(Op.equalIn 10000 24 (.agg #[.int .u64 0,.int .u64 0,.int .u64 0,.int .u64 0]) (.agg #[.int .u64 0,.int .u64 0,.int .u64 0,.int .u64 0])).run Tryz.prog w = .ok true w:=fun w=>eqU (0,0,0,0) (0,0,0,0) w
  generalize RetR w b L (.tuple #[]) (s.del k)=R at *
  clear h hb e hb1
  go_enter Tryz.func134,Tryz.ntmps134
  go_wp2_with (go_at_call 136; refine (HD.out _ HB1.out).mono ?_; rintro e w' ⟨rfl,hR⟩)
  refine bodyPost_ret (results_none rfl _ _ _) rfl ?_
  exact ⟨rfl,hR⟩
 ·have HS:Hid (∀ w1,Below w.heap.size w w1→Calls Tryz.prog 198 #[.pointer (some ⟨b,0,none⟩),.string k,.string (amtB x)] w1 fun e w'=>∃ n,e = .returned (.int .i64 n)∧RetR w b L (.tuple #[]) (s.setAmt k x) (.returned (.tuple #[])) w'):=fun w1 h1=>by
   have hne:¬ amtB x=emptyB:=fun e=>by have:=congrArg (fun z:ByteArray=>z.data.size) e; simp [amtB,amtL,emptyB] at this
   unfold St.setAmt St.put
   rw [if_neg h0,if_neg hne]
   by_cases hk:k=emptyB
   ·rw [if_pos hk,hk]
    exact (rset_empty w1 b (amtB x)).mono fun e w' ⟨he,hw⟩=>⟨2,he,RetR.of_below h1 ⟨rfl,L,hw ▸ h.below h1,hw ▸ Step.refl _ _⟩⟩
   ·rw [if_neg hk]
    exact (rset_any w1 b s L k (amtB x) (h.below h1) hk hb).mono fun e w' h2=>⟨0,h2.1,RetR.of_below h1 ⟨rfl,h2.2⟩⟩
  have HK:Hid (Calls Tryz.prog 199 #[uV x] (w.alloc (.cells (uL x) 24)) fun e w'=>e = .returned (.string (amtB x))∧Below w.heap.size w w'):=(rkamount_any x _).mono fun e w' ⟨he,hb⟩=>⟨he,bl_then hb1 hb⟩
  have hE:∀ w,(Op.equalIn 10000 24 (.agg #[.int .u64 x.1,.int .u64 x.2.1,.int .u64 x.2.2.1,.int .u64 x.2.2.2]) (.agg #[.int .u64 0,.int .u64 0,.int .u64 0,.int .u64 0])).run Tryz.prog w = .ok false w:=eqU_ne0 h0
  have hq:=row4 (heap_alloc_new w (.cells (uL x) 24))
  obtain ⟨q0,q1,q2,q3,_⟩:=hq
  generalize RetR w b L (.tuple #[]) (s.setAmt k x)=R at *
  generalize amtB x=nb at *
  clear h hb hb1
  go_enter Tryz.func134,Tryz.ntmps134
  go_wp2_with (first | (go_at_call 199; refine HK.out.mono ?_; rintro e w1 ⟨rfl,hb1⟩) | (go_at_call 198; refine (HS.out _ hb1).mono ?_; rintro e w' ⟨n,rfl,hR⟩))
  go_end0
  exact ⟨rfl,hR⟩
abbrev FV (b:Nat) (w:World) (L:List Nat) (s:St) (rs:List (Nat × Obj)) (W:World):Prop:=QV (FRep b) w L s rs W
theorem FV.start {b:Nat} {w:World} {L:List Nat} {s:St} (h:RRep w b s L):FV b w L s [] w:=QV.start (fRep_ok b) h
def ROn (w:World) (b:Nat) (L:List Nat) (s:St) (W:World):Prop:=∃ L',RRep W b s L'∧Step w L W L'
theorem FV.done {b:Nat} {w W:World} {L:List Nat} {s:St} {rs:List (Nat × Obj)} (h:FV b w L s rs W):ROn w b L s W:=QV.done h
theorem FV.camt {b:Nat} {w W:World} {L:List Nat} {s:St} {rs:List (Nat × Obj)} {f:Nat} (hq:FV b w L s rs W) (hf:s.Fit f) (hm:f < 100000000000) (k:ByteArray):Calls Tryz.prog 91 #[.pointer (some ⟨b,0,none⟩),.string k] W fun e W'=>e = .returned (uV (s.amt k))∧Below W.heap.size W W':=by
 obtain ⟨L',h1,_⟩:=hq.on
 exact ramt_any W b s L' k h1 (by have:=hf.size; unfold St.size at this; omega)
theorem FV.cset {b:Nat} {w W:World} {L:List Nat} {s:St} {rs:List (Nat × Obj)} (hq:FV b w L s rs W) (hz:s.size < 1000000000000) (k:ByteArray) (x:W4):Calls Tryz.prog 134 #[.pointer (some ⟨b,0,none⟩),.string k,uV x] W fun e W'=>e = .returned (.tuple #[])∧FV b w L (s.setAmt k x) rs W' :=
 QV.call hq fun L' h1=>(rsetAmt_any W b s L' k x h1 hz).mono fun _ _ ⟨he,h2⟩=>⟨he,h2.2⟩
abbrev H1:Hand:=⟨none,true,[]⟩
end Go.Proofs.YtnkilceibkkjlaaGreat
namespace Go.Proofs.YtnkilceibkkjlaaGreat
open Go.RowKit
theorem getE_put {s:St} (hs:Sorted s.ents) (k v j:ByteArray):getE (s.put k v).ents j=if k=j then (if v=emptyB then none else if k=emptyB then getE s.ents j else some v) else getE s.ents j:=by
 unfold St.put
 by_cases hv:v=emptyB
 ·rw [if_pos hv,if_pos hv]
  unfold St.del
  split
  ·exact getE_delE _ hs _ _
  ·rename_i h
   by_cases hj:k=j
   ·subst hj
    rw [if_pos rfl]
    cases hg:getE s.ents k with
    | none=>rfl
    | some u=>rw [hg] at h; exact absurd rfl h
   ·rw [if_neg hj]
 ·rw [if_neg hv,if_neg hv]
  by_cases hk:k=emptyB
  ·rw [if_pos hk,if_pos hk]; split <;> rfl
  ·rw [if_neg hk,if_neg hk]
   unfold St.set
   split
   ·rename_i h
    by_cases hj:k=j
    ·subst hj; rw [if_pos rfl]; exact h
    ·rw [if_neg hj]
   ·exact getE_putE _ hs _ _ _
theorem put_comm {s:St} (hs:Sorted s.ents) {k1 k2:ByteArray} (hk:k1≠k2) (u v:ByteArray):((s.put k1 u).put k2 v).ents=((s.put k2 v).put k1 u).ents:=by
 refine sorted_ext (put_srt (put_srt hs _ _) _ _) (put_srt (put_srt hs _ _) _ _) fun j => ?_
 rw [getE_put (put_srt hs _ _),getE_put (put_srt hs _ _),getE_put hs,getE_put hs]
 by_cases h1:k1=j
 ·subst h1
  rw [if_neg (Ne.symm hk),if_neg (Ne.symm hk)]
 ·rw [if_neg h1,if_neg h1]
theorem keyL_first {t:Nat} {l:List Int} (h:∀ n∈l,¬ n < 0):(keyL t l).data[0]? = some (UInt8.ofNat t):=by
 rw [keyL_pos h]
 show (keyBytes t l).toArray[0]? = _
 unfold keyBytes
 simp
theorem uByte_nat (x:W4) (i:Nat):(uByte x i).toNat=x.at ((31 - i) / 8) / 2 ^ (8*((31 - i) % 8)) % 256:=rfl
theorem top_step (v p:Nat) (hp:p < 8):v / 2 ^ (8*(p+1))*2 ^ (8*(p+1))+v / 2 ^ (8*p) % 256*2 ^ (8*p)=v / 2 ^ (8*p)*2 ^ (8*p):=by
 match p,hp with
 | 0,_ | 1,_ | 2,_ | 3,_ | 4,_ | 5,_ | 6,_ | 7,_=>simp only [Nat.reduceMul,Nat.reduceAdd,Nat.reducePow]; omega
theorem uFrom_at (f:Nat→Nat) (x:W4) (hx:x.Ok) (hf:∀ i,i < 32→f i=x.at ((31 - i) / 8) / 2 ^ (8*((31 - i) % 8)) % 256):∀ i,i≤32→∀ j,j < 4→(uFrom f i).at j=x.at j / 2 ^ (8*min 8 (32 - i - 8*j))*2 ^ (8*min 8 (32 - i - 8*j))
 | 0,_,j,hj=>by
  have h8:min 8 (32 - 0 - 8*j)=8:=by omega
  rw [h8]
  have h0:x.at j / 2 ^ (8*8)=0:=Nat.div_eq_of_lt (hx.at j)
  rw [h0,Nat.zero_mul]
  match j,hj with
  | 0,_ | 1,_ | 2,_ | 3,_=>rfl
 | i+1,hi,j,hj=>by
  have ih:=uFrom_at f x hx hf i (by omega)
  have hk:(31 - i) / 8 < 4:=by omega
  show ((uFrom f i).set ((31 - i) / 8) ((uFrom f i).at ((31 - i) / 8)+f i*2 ^ (8*((31 - i) % 8)))).at j=_
  rw [set_at _ _ _ _ hk hj]
  by_cases e:(31 - i) / 8=j
  ·rw [if_pos e,ih _ hk,hf i (by omega),e]
   have e1:min 8 (32 - i - 8*j)=(31 - i) % 8+1:=by omega
   have e2:min 8 (32 - (i+1) - 8*j)=(31 - i) % 8:=by omega
   rw [e1,e2]
   exact top_step _ _ (Nat.mod_lt _ (by decide))
  ·rw [if_neg e,ih j hj]
   have e1:min 8 (32 - i - 8*j)=min 8 (32 - (i+1) - 8*j):=by omega
   rw [e1]
theorem amtB_size (x:W4):(amtB x).size=32:=by
 show (amtL x).toArray.size=32
 simp [amtL]
theorem amtB_at (x:W4) (i:Nat) (hi:i < 32):(amtB x).data.getD i 0=uByte x i:=by
 show (amtL x).toArray.getD i 0=_
 have:(amtL x).toArray[i]? = some (uByte x i):=by
  unfold amtL
  rw [List.getElem?_toArray,List.getElem?_map,List.getElem?_range hi]; rfl
 rw [Array.getD_eq_getD_getElem?,this]; rfl
theorem toAmt_amtB {x:W4} (hx:x.Ok):toAmt (amtB x)=x:=by
 unfold toAmt
 rw [if_pos (amtB_size x)]
 refine uCmp_eq fun j hj => ?_
 rw [uFrom_at _ x hx (fun i hi=>by rw [amtB_at x i hi,uByte_nat]) 32 (Nat.le_refl _) j hj]
 have:min 8 (32 - 32 - 8*j)=0:=by omega
 rw [this,Nat.mul_zero,Nat.pow_zero,Nat.div_one,Nat.mul_one]
theorem amt_own {s:St} (hs:Sorted s.ents) {k:ByteArray} (hk:k≠emptyB) {x:W4} (hx:x.Ok):(s.setAmt k x).amt k=x:=by
 unfold St.amt St.val St.setAmt
 rw [getE_put hs,if_pos rfl]
 by_cases h0:x=(0,0,0,0)
 ·rw [if_pos h0,if_pos rfl]
  subst h0
  show toAmt emptyB=_
  unfold toAmt
  rw [if_neg (by decide)]
 ·rw [if_neg h0,if_neg (fun e=>by have:=congrArg ByteArray.size e; rw [amtB_size] at this; exact absurd this (by decide)),if_neg hk]
  exact toAmt_amtB hx
theorem hpt_ptB {b:Nat} {a:W4} (hb:b < 9223372036854775808) (ha:a.Ok):hpt (ptB b a)=(b,a):=by
 have ht:=toAmt_amtB ha
 have h8:(numB b).size=8:=rfl
 have h32:(amtB a).size=32:=by show (amtL a).toArray.size=32; simp [amtL]
 have hs:(numB b ++ amtB a).size=40:=by rw [ByteArray.size_append,h8,h32]
 have e1:(numB b ++ amtB a).extract 0 8=numB b:=ByteArray.extract_append_eq_left h8.symm
 have e2:(numB b ++ amtB a).extract 8 40=amtB a:=ByteArray.extract_append_eq_right h8.symm (by rw [h8,h32])
 unfold hpt ptB
 rw [hs,if_neg (by omega),e1,e2,numsL_numB b hb]
 generalize amtB a=z at *
 show (if z.size=32 then (b,toAmt z) else _)=_
 rw [if_pos h32,ht]
def bsr (p:Nat→Bool):Nat→Nat→Nat→Nat
 | 0,lo,_=>lo
 | k+1,lo,hi=>if hi≤lo then lo else if p (lo+(hi - lo) / 2) then bsr p k (lo+(hi - lo) / 2+1) hi else bsr p k lo (lo+(hi - lo) / 2)
def St.hpI (s:St) (t:Nat) (l:List Int) (i:Int):Nat × W4:=hpt (s.val (keyL t (l ++ [i])))
def St.hpos (s:St) (t:Nat) (l:List Int) (b:Int):Nat:=bsr (fun i=>decide (((s.hpI t l (i:Nat)).1:Int)≤b)) (s.hlen t l) 0 (s.hlen t l)
def St.hat (s:St) (t:Nat) (l:List Int) (b:Int):W4:=if s.hpos t l b=0 then (0,0,0,0) else (s.hpI t l ((s.hpos t l b:Nat) - 1)).2
theorem hat_ok (s:St) (t:Nat) (l:List Int) (b:Int):(s.hat t l b).Ok:=by
 unfold St.hat; split
 ·exact u0_ok
 ·exact hpt_ok _
structure HatAt (h:Hand) (w:World) (s:St) (wr:World):Prop where
 v:HV h w s [(w.heap.size,zO)] wr
 b:Below w.heap.size w wr
end Go.Proofs.YtnkilceibkkjlaaGreat
namespace Go.Proofs.YtnkilceibkkjlaaGreat
open Go.RowKit
theorem FV.set {b:Nat} {w W:World} {L:List Nat} {s:St} {rs:List (Nat × Obj)} (hq:FV b w L s rs W) (hz:s.size < 1000000000000) (k v:ByteArray) (hk:k≠emptyB):Calls Tryz.prog 198 #[.pointer (some ⟨b,0,none⟩),.string k,.string v] W fun e W'=>e = .returned (.int .i64 0)∧FV b w L (s.set k v) rs W' :=
 QV.call hq fun L' h1=>(rset_any W b s L' k v h1 hk hz).mono fun _ _ ⟨he,h2⟩=>⟨he,h2⟩
theorem FV.setInt {b:Nat} {w W:World} {L:List Nat} {s:St} {rs:List (Nat × Obj)} (hq:FV b w L s rs W) (hz:s.size < 1000000000000) (k:ByteArray) (n:Int) (hn:n < 9223372036854775808):Calls Tryz.prog 189 #[.pointer (some ⟨b,0,none⟩),.string k,.int .i64 n] W fun e W'=>e = .returned (.tuple #[])∧FV b w L (s.setInt k n) rs W' :=
 QV.call hq fun L' h1=>(rsetInt_any W b s L' k n hn h1 hz).mono fun _ _ ⟨he,h2⟩=>⟨he,h2⟩
end Go.Proofs.YtnkilceibkkjlaaGreat
namespace Go.Proofs.YtnkilceibkkjlaaGreat
open Go.RowKit
end Go.Proofs.YtnkilceibkkjlaaGreat
namespace Go.Proofs.YtnkilceibkkjlaaGreat
open Go.RowKit
def gapW (fr tq:W4):W4:=if uSubC fr tq=0 then uSubS fr tq else (0,0,0,0)
def xcutC (fr tq:W4) (o b d:Int):Bool:=!(uSubC fr tq == 0) || (decide (o < 1) || (!(decide (uCmp fr oneW≤0)) || (decide (b < 0) || decide (d < 0))))
def xcutW (s:St) (sl:W4) (t:Int) (fr tq:W4):W4:=minW (dnW sl (gapW fr tq) sqW) (s.left t)
def xcutE (o b d:Int) (tq fr:W4):Int:=if xcutC fr tq o b d then 2 else 0
def Hand.cutX (h:Hand) (s:St) (sl:W4) (o t b d:Int) (tq fr:W4):St:=if xcutC fr tq o b d then s else h.subSt s (keyL 19 [t]) (xcutW s sl t fr tq)
def St.slash (s:St) (o t b d:Int):W4:=if d < 0∨b≤d then s.hlast 16 [o,t] else gapW (s.hlast 16 [o,t]) (s.hat 16 [o,t] (b - d - 1))
end Go.Proofs.YtnkilceibkkjlaaGreat
namespace Go.Proofs.YtnkilceibkkjlaaGreat
open Go.RowKit
end Go.Proofs.YtnkilceibkkjlaaGreat
