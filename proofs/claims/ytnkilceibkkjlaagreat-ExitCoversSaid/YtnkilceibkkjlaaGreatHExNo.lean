/- What is proved here: the reference's withdrawals: Add. Conditions: sizes. slices.Sorted(maps.Keys(m)) of a map of ints to bools: its keys, sorted, in a slice of its own. Its condition: the map is owned; sizes. (The layings: printed by gen_iter.py.) exits of the program: the numbers of what waits (ids, Open, All). Conditions: sizes. exits of a store that no call made: Add, Done, the numbers of what waits. Conditions: s -/
import Derived.Test.YtnkilceibkkjlaaGreatHRExAdP
import Derived.Test.YtnkilceibkkjlaaGreatHRExD
import Derived.Test.YtnkilceibkkjlaaGreatHRUndo
import Derived.Shelf.SlIterI.Nil
import Derived.Shelf.SortM.Plain
import Derived.Shelf.SortM.SortNone
import Derived.Ground.GgzProg
import Derived.Ground.SlgmProg
import Derived.Test.YtnkilceibkkjlaaGreatHRFacA
import Derived.Test.YtnkilceibkkjlaaGreatHExGet
import Derived.Test.YtnkilceibkkjlaaGreatHExAd
set_option maxRecDepth 100000
set_option maxHeartbeats 16000000
namespace Go.Proofs.YtnkilceibkkjlaaGreat
open Go.RowKit
theorem FV.next {b:Nat} {w W:World} {L:List Nat} {s:St} {rs:List (Nat × Obj)} {f:Nat} (hq:FV b w L s rs W) (hf:s.Fit f) (hm:f < 100000000) (k:ByteArray) (hn:s.int k < 1000000000000):Calls Tryz.prog 186 #[.pointer (some ⟨b,0,none⟩),.string k] W fun e W'=>e = .returned (.int .i64 (((s.int k:Nat):Int)+1))∧FV b w L (s.setInt k (((s.int k:Nat):Int)+1)) rs W' :=
 QV.call hq fun L' h1=>(rnext_any W b s L' k h1 (Nat.lt_of_le_of_lt hf.size (by omega)) (Nat.lt_of_le_of_lt (hf.val _) (by decide)) hn).mono fun _ _ ⟨he,h2⟩=>⟨he,h2⟩
theorem FV.undo {b:Nat} {w W:World} {L:List Nat} {s:St} {rs:List (Nat × Obj)} {f m:Nat} (hq:FV b w L s rs W) (hf:s.Fit f) (hm:f < 100000000) (hmp:m≤s.past.length):Calls Tryz.prog 133 #[.pointer (some ⟨b,0,none⟩),.int .i64 m] W fun e W'=>e = .returned (.bool true)∧FV b w L (s.undo m) rs W' :=
 QV.call hq fun L' h1=>(rundo_any W b s L' m h1 hmp (fun k=>Nat.lt_of_le_of_lt (undoK_size k) (Nat.lt_of_le_of_lt hf.size (by omega)))).mono fun _ _ ⟨he,h2⟩=>⟨he,h2⟩
end Go.Proofs.YtnkilceibkkjlaaGreat
namespace Go.Proofs.YtnkilceibkkjlaaGreat
open Go.RowKit Go.Maps Go.Sort Go.Shelf
def keysA_ren:Go.Shelf.Ren:=⟨fun | 7=>179 | 10=>227 | n=>n,fun | 23=>227 | 26=>3 | 3=>4 | 28=>230 | 0=>0 | 27=>229 | 33=>130 | 4=>4 | n=>n,fun | n=>n⟩
theorem keysA:Go.Proofs.SlLaysZI.n7 Tryz.prog keysA_ren:={
 mixed:=by kernel_rfl
 f7:=⟨Tryz.f179.name,by decide,Tryz.func179.trans (congrArg some (by kernel_rfl))⟩
 f10:=⟨Tryz.f227.name,by decide,Tryz.func227.trans (congrArg some (by kernel_rfl))⟩
 t0:=Tryz.underlying0
 a0:=Tryz.isAgg0
 z0:=Tryz.sizeOf0
 v0:=Tryz.zeroValue0
 t4:=Tryz.underlying4
 a4:=Tryz.isAgg4
 z4:=Tryz.sizeOf4
 v4:=Tryz.zeroValue4
 t23:=Tryz.underlying227
 a23:=Tryz.isAgg227
 z23:=Tryz.sizeOf227
 v23:=Tryz.zeroValue227
 t26:=Tryz.underlying3
 a26:=Tryz.isAgg3
 z26:=Tryz.sizeOf3
 v26:=Tryz.zeroValue3
 t27:=Tryz.underlying229
 a27:=Tryz.isAgg229
 z27:=Tryz.sizeOf229
 v27:=Tryz.zeroValue229
 t28:=Tryz.underlying230
 a28:=Tryz.isAgg230
 z28:=Tryz.sizeOf230
 v28:=Tryz.zeroValue230
 t33:=Tryz.underlying130
 a33:=Tryz.isAgg130
 z33:=Tryz.sizeOf130
 v33:=Tryz.zeroValue130 }
def sortedA_ren:Go.Shelf.Ren:=⟨fun | 6=>178 | 8=>225 | 9=>226 | 11=>250 | 13=>252 | 12=>251 | 23=>275 | 24=>276 | 14=>266 | 15=>267 | 16=>268 | 17=>269 | 18=>270 | 19=>271 | 20=>272 | 21=>273 | 22=>274 | 25=>280 | 26=>281 | 27=>282 | 28=>283 | 29=>284 | 30=>285 | 31=>288 | n=>n,fun | 26=>3 | 28=>230 | 24=>75 | 0=>0 | 3=>3 | 37=>59 | 48=>181 | 50=>22 | 4=>4 | 40=>309 | 39=>308 | 45=>256 | 5=>5 | 9=>9 | 51=>316 | 55=>320 | 57=>324 | 58=>118 | 33=>130 | n=>n,fun | n=>n⟩
theorem sortedA:Go.Proofs.SlLaysZI.n6 Tryz.prog sortedA_ren:={
 mixed:=by kernel_rfl
 f6:=⟨Tryz.f178.name,by decide,Tryz.func178.trans (congrArg some (by kernel_rfl))⟩
 f8:=⟨Tryz.f225.name,by decide,Tryz.func225.trans (congrArg some (by kernel_rfl))⟩
 f11:=⟨Tryz.f250.name,by decide,Tryz.func250.trans (congrArg some (by kernel_rfl))⟩
 t0:=Tryz.underlying0
 a0:=Tryz.isAgg0
 z0:=Tryz.sizeOf0
 v0:=Tryz.zeroValue0
 t24:=Tryz.underlying75
 a24:=Tryz.isAgg75
 z24:=Tryz.sizeOf75
 v24:=Tryz.zeroValue75
 t26:=Tryz.underlying3
 a26:=Tryz.isAgg3
 z26:=Tryz.sizeOf3
 v26:=Tryz.zeroValue3
 t28:=Tryz.underlying230
 a28:=Tryz.isAgg230
 z28:=Tryz.sizeOf230
 v28:=Tryz.zeroValue230
 i26:=by kernel_rfl }
def sortA_ren:Go.Shelf.Ren:=⟨fun | 5=>226 | 8=>252 | 7=>251 | 19=>275 | 20=>276 | 10=>266 | 11=>267 | 12=>268 | 13=>269 | 14=>270 | 15=>271 | 16=>272 | 17=>273 | 18=>274 | 30=>280 | 31=>281 | 32=>282 | 33=>283 | 34=>284 | 35=>285 | 40=>288 | n=>n,fun | 23=>75 | 25=>3 | 3=>3 | 32=>59 | 22=>75 | 0=>0 | 44=>181 | 46=>22 | 4=>4 | 36=>309 | 35=>308 | 41=>256 | 5=>5 | 9=>9 | 53=>316 | 57=>320 | 63=>324 | 64=>118 | n=>n,fun | n=>n⟩
theorem sortA:Go.Proofs.SlLaysM.n5 Tryz.prog sortA_ren:={
 mixed:=by kernel_rfl
 f5:=⟨Tryz.f226.name,by decide,Tryz.func226.trans (congrArg some (by kernel_rfl))⟩
 f7:=⟨Tryz.f251.name,by decide,Tryz.func251.trans (congrArg some (by kernel_rfl))⟩
 f8:=Tryz.func252.trans (congrArg some (by kernel_rfl))
 f10:=⟨Tryz.f266.name,by decide,Tryz.func266.trans (congrArg some (by kernel_rfl))⟩
 f11:=⟨Tryz.f267.name,by decide,Tryz.func267.trans (congrArg some (by kernel_rfl))⟩
 f12:=⟨Tryz.f268.name,by decide,Tryz.func268.trans (congrArg some (by kernel_rfl))⟩
 f13:=⟨Tryz.f269.name,by decide,Tryz.func269.trans (congrArg some (by kernel_rfl))⟩
 f14:=⟨Tryz.f270.name,by decide,Tryz.func270.trans (congrArg some (by kernel_rfl))⟩
 f15:=⟨Tryz.f271.name,by decide,Tryz.func271.trans (congrArg some (by kernel_rfl))⟩
 f16:=⟨Tryz.f272.name,by decide,Tryz.func272.trans (congrArg some (by kernel_rfl))⟩
 f17:=⟨Tryz.f273.name,by decide,Tryz.func273.trans (congrArg some (by kernel_rfl))⟩
 f18:=⟨Tryz.f274.name,by decide,Tryz.func274.trans (congrArg some (by kernel_rfl))⟩
 f19:=Tryz.func275.trans (congrArg some (by kernel_rfl))
 f20:=Tryz.func276.trans (congrArg some (by kernel_rfl))
 f30:=⟨Tryz.f280.name,by decide,Tryz.func280.trans (congrArg some (by kernel_rfl))⟩
 f31:=Tryz.func281.trans (congrArg some (by kernel_rfl))
 f32:=Tryz.func282.trans (congrArg some (by kernel_rfl))
 f33:=⟨Tryz.f283.name,by decide,Tryz.func283.trans (congrArg some (by kernel_rfl))⟩
 f34:=⟨Tryz.f284.name,by decide,Tryz.func284.trans (congrArg some (by kernel_rfl))⟩
 f35:=⟨Tryz.f285.name,by decide,Tryz.func285.trans (congrArg some (by kernel_rfl))⟩
 f40:=⟨Tryz.f288.name,by decide,Tryz.func288.trans (congrArg some (by kernel_rfl))⟩
 t0:=Tryz.underlying0
 a0:=Tryz.isAgg0
 z0:=Tryz.sizeOf0
 v0:=Tryz.zeroValue0
 t3:=Tryz.underlying3
 a3:=Tryz.isAgg3
 z3:=Tryz.sizeOf3
 v3:=Tryz.zeroValue3
 t4:=Tryz.underlying4
 a4:=Tryz.isAgg4
 z4:=Tryz.sizeOf4
 v4:=Tryz.zeroValue4
 t5:=Tryz.underlying5
 a5:=Tryz.isAgg5
 z5:=Tryz.sizeOf5
 v5:=Tryz.zeroValue5
 t9:=Tryz.underlying9
 a9:=Tryz.isAgg9
 z9:=Tryz.sizeOf9
 v9:=Tryz.zeroValue9
 t22:=Tryz.underlying75
 a22:=Tryz.isAgg75
 z22:=Tryz.sizeOf75
 v22:=Tryz.zeroValue75
 t23:=Tryz.underlying75
 a23:=Tryz.isAgg75
 z23:=Tryz.sizeOf75
 v23:=Tryz.zeroValue75
 t25:=Tryz.underlying3
 a25:=Tryz.isAgg3
 z25:=Tryz.sizeOf3
 v25:=Tryz.zeroValue3
 t32:=Tryz.underlying59
 a32:=Tryz.isAgg59
 z32:=Tryz.sizeOf59
 v32:=Tryz.zeroValue59
 t35:=Tryz.underlying308
 a35:=Tryz.isAgg308
 z35:=Tryz.sizeOf308
 v35:=Tryz.zeroValue308
 t36:=Tryz.underlying309
 a36:=Tryz.isAgg309
 z36:=Tryz.sizeOf309
 v36:=Tryz.zeroValue309
 t41:=Tryz.underlying256
 a41:=Tryz.isAgg256
 z41:=Tryz.sizeOf256
 v41:=Tryz.zeroValue256
 t44:=Tryz.underlying181
 a44:=Tryz.isAgg181
 z44:=Tryz.sizeOf181
 v44:=Tryz.zeroValue181
 t46:=Tryz.underlying22
 a46:=Tryz.isAgg22
 z46:=Tryz.sizeOf22
 v46:=Tryz.zeroValue22
 t53:=Tryz.underlying316
 a53:=Tryz.isAgg316
 z53:=Tryz.sizeOf316
 v53:=Tryz.zeroValue316
 t57:=Tryz.underlying320
 a57:=Tryz.isAgg320
 z57:=Tryz.sizeOf320
 v57:=Tryz.zeroValue320
 t63:=Tryz.underlying324
 a63:=Tryz.isAgg324
 z63:=Tryz.sizeOf324
 v63:=Tryz.zeroValue324
 t64:=Tryz.underlying118
 a64:=Tryz.isAgg118
 z64:=Tryz.sizeOf118
 v64:=Tryz.zeroValue118 }
theorem sorts_A (m:Nat):AnyZI.SortsIn Tryz.prog sortedA_ren Fence.wide m :=
  ⟨fun blk off cap ss W hH hblk hsz=>callsIn_wide.2 (AnyM.slices_Sort_int sortA blk off cap ss W hH hblk hsz),
   fun p cap W=>callsIn_wide.2 (AnyM.slices_Sort_int_none sortA p cap W)⟩
theorem keys_call (mb:Option Nat) (W:World):Calls Tryz.prog 179 #[.map mb] W fun e w'=>e = .returned (.func (.func 227) #[] #[.pointer (some ⟨W.heap.size,0,none⟩)])∧w'=W.alloc (.cells #[.map mb] 227) :=
 (callsIn_wide (n:=5)).1 (AnyZI.keys_in keysA Fence.wide 5 trivial rfl mb W)
theorem sorted_call {H:Type} (b nn:Nat) (D0:DataW H) (R:Value→Option (DataW H × List MemPlace)) (w:World) (hown:w.ownsMap Tryz.prog 3 R b nn D0) (hmax:Maps.size D0≤maxLen) (hbytes:Maps.size D0*8≤140737488355328) :
  Calls Tryz.prog 178 #[.func (.func 227) #[] #[.pointer (some ⟨w.heap.size,0,none⟩)]] (w.alloc (.cells #[.map (some b)] 227)) fun e w'=>∃ (v:Value) (ss:List Int),e = .returned v∧ss.Perm (intKeys D0) ∧
   w'.ownsRow w.heap.size 3 1 v ss.length ((ss.mergeSort (fun x y=>decide (x≤y))).map encZ)∧Below w.heap.size w w':=by
 have hbl:=hown.lt
 have hseq:SeqGives Fence.wide 2 Tryz.prog 227 #[.pointer (some ⟨w.heap.size,0,none⟩)] encZ (fun ss=>ss.Perm (intKeys D0)) (Maps.size D0) (w.alloc (.cells #[.map (some b)] 227)) :=
  AnyZI.keys_gives (ρ:=keysA_ren) { keysA with } Fence.wide _ trivial rfl (by omega) w.heap.size b nn D0 _ (by simp) (by simp) (by
   obtain ⟨es,clock,hb,Ft,hs,hD⟩:=hown
   exact ⟨es,clock,(Below.heap_alloc _ _ b hbl).trans hb,Ft,hs,hD⟩)
 have cS:=AnyZI.sorted_in sortedA Fence.wide 5 trivial trivial trivial trivial rfl (by omega) (sorts_A _) (enters_of Tryz.func226 (by kernel_rfl) rfl) 227 #[.pointer (some ⟨w.heap.size,0,none⟩)] trivial (enters_of Tryz.func227 (by kernel_rfl) rfl) _ _ hmax hbytes _ hseq
 change CallsIn _ _ Tryz.prog 178 _ _ _ at cS
 refine ((callsIn_wide (n:=5)).1 cS).mono ?_
 rintro e w' ⟨v,ss,he,hS,hrow,_,hb⟩
 exact ⟨v,ss,he,hS,ownsRow_base_a hrow (by simp),((Below.refl _ w).alloc (Nat.le_refl _) _).trans (hb.mono (by simp))⟩
abbrev setZ (zs:List Int):DataW Unit:=setOf (.lit (.bool true)) (zs.map fun z=>Lit.int .i64 z)
theorem setZ_snoc (zs:List Int) (z:Int):setZ (zs ++ [z])=(setZ zs).put (.int .i64 z) (.lit (.bool true)):=by
 unfold setZ; rw [List.map_append,List.map_singleton,setOf_snoc]
theorem key_law:Go.Maps.Keyed Tryz.prog 3:=int_keyed Tryz.underlying3
theorem key_mk {z:Int} (h0:0≤z) (h1:z < 9223372036854775808):keyOf Tryz.prog 3 (.int .i64 z)=some (.int .i64 z) :=
 keyOf_int_mk Tryz.underlying3 (by
  have e1:IntKind.i64.min = -9223372036854775808:=rfl
  have e2:IntKind.i64.max=9223372036854775807:=rfl
  simp only [Lit.wf,Bool.and_eq_true,decide_eq_true_eq,e1,e2]; omega)
theorem sort_rise {zs ss:List Int} {w:World} {b n:Nat} (hr:zs.Pairwise (· < ·)) (h0:∀ z∈zs,0≤z∧z < 9223372036854775808) (hown:w.ownsMap Tryz.prog 3 (plainElem Tryz.prog 4) b n (setZ zs)) (hp:ss.Perm (intKeys (setZ zs))):ss.mergeSort (fun x y=>decide (x≤y))=zs∧ss.length=zs.length:=by
 have hnd:zs.Nodup:=hr.imp fun h=>by omega
 have hk:∀ x∈zs.map (fun z=>Lit.int .i64 z),WideAt.IsKeyLit x:=fun x hx=>by
  obtain ⟨z,hz,rfl⟩:=List.mem_map.1 hx
  exact key_law.key (key_mk (h0 z hz).1 (h0 z hz).2)
 have hc:CollectedI (setZ zs) (fun _=>false) zs:=⟨hnd,fun x=>by
  unfold setZ
  rw [has_setOf _ _ _ hk,List.any_eq_true]
  constructor
  ·intro hx
   exact ⟨⟨.int .i64 x,List.mem_map.2 ⟨x,hx,rfl⟩,by simp [Lit.sameKey]⟩,rfl⟩
  ·rintro ⟨⟨y,hy,hs⟩,_⟩
   obtain ⟨z,hz,rfl⟩:=List.mem_map.1 hy
   simp [Lit.sameKey] at hs
   rw [← hs]; exact hz⟩
 have hp2:=hp.trans (hc.perm hown key_law Tryz.underlying3 fun _=>rfl).symm
 refine ⟨?_,hp2.length_eq⟩
 rw [show (ss.mergeSort fun x y=>decide (x≤y))=ss.mergeSort leI from rfl,mergeSort_of_perm_i hp2]
 exact List.mergeSort_of_pairwise (hr.imp fun h=>by simp [leI]; omega)
end Go.Proofs.YtnkilceibkkjlaaGreat
namespace Go.Proofs.YtnkilceibkkjlaaGreat
open Go.RowKit Go.Maps
def nums1 (k:ByteArray):Option Nat:=match parseK k with
 | some (_,[x])=>some x
 | _=>none
def idOf (s:St) (P:List Nat→Bool) (x:Ent):Option Int:=match nums1 x.1 with
 | some n=>if P (rowOf (s.val x.1)) then some (n:Int) else none
 | none=>none
def St.ids (s:St) (P:List Nat→Bool):List Int:=(underE (keyL 15 []) s.ents).filterMap (idOf s P)
theorem idOf_some {s:St} {P:List Nat→Bool} {x:Ent} {z:Int} (h:idOf s P x=some z):∃ n:Nat,nums1 x.1=some n∧z=n∧P (rowOf (s.val x.1))=true:=by
 unfold idOf at h
 split at h
 ·rename_i n hn
  split at h
  ·cases h; exact ⟨n,hn,rfl,by assumption⟩
  ·cases h
 ·cases h
theorem app_lt1:∀ (p a b:List UInt8),p ++ a < p ++ b→a < b
 | [],_,_,h=>h
 | c :: p,a,b,h=>by
  rcases List.cons_lt_cons_iff.1 h with h2 | ⟨_,h2⟩
  ·exact absurd h2 (by simp)
  ·exact app_lt1 p a b h2
theorem fold_lt1:∀ (l1 l2:List UInt8) (x y:Nat),l1.length=l2.length→x < y→l1.foldl (fun x b=>x*256+b.toNat) x < l2.foldl (fun x b=>x*256+b.toNat) y
 | [],[],x,y,_,h=>h
 | [],_ :: _,_,_,hl,_=>by simp at hl
 | _ :: _,[],_,_,hl,_=>by simp at hl
 | a :: l1,b :: l2,x,y,hl,h=>by
  simp only [List.foldl_cons]
  have:=UInt8.toNat_lt a
  exact fold_lt1 l1 l2 _ _ (by simpa using hl) (by omega)
theorem lex_fold1:∀ (l1 l2:List UInt8) (x:Nat),l1.length=l2.length→l1 < l2→l1.foldl (fun x b=>x*256+b.toNat) x < l2.foldl (fun x b=>x*256+b.toNat) x
 | [],[],x,_,h=>absurd h (by simp)
 | [],_ :: _,_,hl,_=>by simp at hl
 | _ :: _,[],_,hl,_=>by simp at hl
 | a :: l1,b :: l2,x,hl,h=>by
  simp only [List.foldl_cons]
  rcases List.cons_lt_cons_iff.1 h with h2 | ⟨e,h2⟩
  ·have:a.toNat < b.toNat:=h2
   exact fold_lt1 l1 l2 _ _ (by simpa using hl) (by omega)
  ·rw [e]; exact lex_fold1 l1 l2 _ (by simpa using hl) h2
theorem be_be81 {x:Nat} (hx:x < 9223372036854775808):be (be8 x)=x:=by
 have h2:=numsL_numB x hx
 rw [numB_list,numsL_step _ (by rw [be8_len]; omega),List.take_of_length_le (by rw [be8_len]; omega),List.drop_of_length_le (by rw [be8_len]; omega)] at h2
 split at h2
 ·simp [numsL] at h2; exact h2
 ·cases h2
theorem be8_lt1 {x y:Nat} (hx:x < 9223372036854775808) (hy:y < 9223372036854775808) (h:be8 x < be8 y):x < y:=by
 have:=lex_fold1 (be8 x) (be8 y) 0 (by rw [be8_len,be8_len]) h
 have e1:=be_be81 hx
 have e2:=be_be81 hy
 unfold be at e1 e2
 omega
theorem one_key {s:St} {x:Ent} (hx:x∈underE (keyL 15 []) s.ents) {n:Nat} (h:nums1 x.1=some n):n < 9223372036854775808∧x.1=keyL 15 (asInts [n]):=by
 unfold nums1 at h
 split at h
 ·rename_i t p hp
  cases h
  obtain ⟨h1,h2⟩:=key_parse hp
  refine ⟨h2 n (by simp),?_⟩
  have hpre:=(List.mem_filter.1 hx).2
  rw [h1] at hpre ⊢
  have e1:(keyL 15 []).data.toList = [UInt8.ofNat 15]:=keyL_list 15 []
  have e2:=keyL_list t [n]
  have e3:UInt8.ofNat t=UInt8.ofNat 15:=by
   have h3:=isPre_iff.1 hpre
   rw [e1,e2] at h3
   obtain ⟨r,hr⟩:=h3
   have:=congrArg List.head? hr
   simpa using this.symm
  exact ba_ext (by rw [keyL_list,keyL_list,e3])
 ·cases h
theorem pair_fm {α β:Type} {R:α→α→Prop} {Q:β→β→Prop} (f:α→Option β):∀ (l:List α),l.Pairwise R→(∀ x∈l,∀ y∈l,R x y→∀ u v,f x=some u→f y=some v→Q u v)→(l.filterMap f).Pairwise Q
 | [],_,_=>List.Pairwise.nil
 | x :: l,h,hq=>by
  have ih:=pair_fm f l (List.pairwise_cons.1 h).2 fun a ha b hb=>hq a (List.mem_cons.2 (.inr ha)) b (List.mem_cons.2 (.inr hb))
  rw [List.filterMap_cons]
  cases hf:f x with
  | none=>simpa [hf] using ih
  | some u =>
   simp only
   refine List.pairwise_cons.2 ⟨fun v hv => ?_,ih⟩
   obtain ⟨y,hy,he⟩:=List.mem_filterMap.1 hv
   exact hq x (List.mem_cons.2 (.inl rfl)) y (List.mem_cons.2 (.inr hy)) ((List.pairwise_cons.1 h).1 y hy) u v hf he
theorem ids_rise {s:St} (hs:Sorted s.ents) (P:List Nat→Bool):(s.ids P).Pairwise (· < ·)∧∀ z∈s.ids P,0≤z∧z < 9223372036854775808:=by
 constructor
 ·refine pair_fm (R:=fun x y:Ent=>KLt x.1 y.1) (idOf s P) _ (List.Pairwise.filter _ hs) fun x hx y hy hxy u v hu hv => ?_
  obtain ⟨m,hm,rfl,_⟩:=idOf_some hu
  obtain ⟨n,hn,rfl,_⟩:=idOf_some hv
  obtain ⟨l1,k1⟩:=one_key hx hm
  obtain ⟨l2,k2⟩:=one_key hy hn
  rw [k1,k2] at hxy
  unfold KLt at hxy
  rw [keyL_list,keyL_list] at hxy
  simp only [List.flatMap_cons,List.flatMap_nil,List.append_nil] at hxy
  have:=be8_lt1 l1 l2 (app_lt1 [UInt8.ofNat 15] _ _ hxy)
  omega
 ·intro z hz
  obtain ⟨x,hx,he⟩:=List.mem_filterMap.1 hz
  obtain ⟨n,hn,rfl,_⟩:=idOf_some he
  have:=(one_key hx hn).1
  omega
end Go.Proofs.YtnkilceibkkjlaaGreat
namespace Go.Proofs.YtnkilceibkkjlaaGreat
open Go.RowKit Go.Maps
theorem xtable_any (t:Nat) (ht1:1≤t) (ht2:t≤255) (w:World):Calls Tryz.prog 177 #[.int .i64 t] w fun e w'=>e = .returned (.string (keyL t []))∧Below w.heap.size w w':=by
 have HK:=Lib.hid (key_new0 t ht1 ht2 w)
 generalize keyL t []=k at *
 clear ht1 ht2
 go_enter Tryz.func177,Tryz.ntmps177
 go_wp2_with (go_at_call 90; refine HK.out.mono ?_; rintro e w' ⟨rfl,hb⟩)
 go_ret
 exact ⟨rfl,hb⟩
theorem xgb_below {w w':World} (h:Below w.heap.size w w') (row:Option Nat):w.grownBy w' row:=⟨h.os,h.tape,h.output,h.size,fun k hk _=>h.block k hk⟩
end Go.Proofs.YtnkilceibkkjlaaGreat
