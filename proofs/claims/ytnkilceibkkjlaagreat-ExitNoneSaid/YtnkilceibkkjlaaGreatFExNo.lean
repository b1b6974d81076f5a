/- What is proved here: slices.Sorted(maps.Keys(m)) of a map of ints to bools: its keys, sorted, in a slice of its own. Its condition: the map is owned; sizes. (The layings: printed by gen_iter.py.) exits of a store that no call made: Add, Done, the numbers of what waits. Conditions: sizes. -/
import Derived.Shelf.SlIterI.Nil
import Derived.Shelf.SortM.Plain
import Derived.Shelf.SortM.SortNone
import Derived.Ground.GgzProg
import Derived.Ground.SlgmProg
import Derived.Test.YtnkilceibkkjlaaGreatFKpR
import Derived.Test.YtnkilceibkkjlaaGreatFExAd
import Derived.Test.YtnkilceibkkjlaaGreatFExSl
set_option maxRecDepth 100000
set_option maxHeartbeats 16000000
namespace Go.Proofs.YtnkilceibkkjlaaGreat
open Go.RowKit Go.Maps Go.Sort Go.Shelf
def keysA_ren:Go.Shelf.Ren:=⟨fun | 7=>179 | 10=>227 | n=>n,fun | 23=>227 | 26=>3 | 3=>4 | 28=>230 | 0=>0 | 27=>229 | 33=>130 | 4=>4 | n=>n,fun | n=>n⟩
theorem keysA:Go.Proofs.SlLaysZI.n7 Tryz.prog keysA_ren:={
 mixed:=by kernel_rfl
 f7:=⟨Tryz.f179.name,by decide,Tryz.func179.trans (congrArg some (by kernel_rfl))⟩
 f10:=⟨Tryz.f227.name,by decide,Tryz.func227.trans (congrArg some (by kernel_rfl))⟩
 t0:=Tryz.underlying0
 a0:=Tryz.isAgg0
 z0:=Tryz.sizeOf0
 v0:=Tryz.zeroValue0
 t4:=Tryz.underlying4
 a4:=Tryz.isAgg4
 z4:=Tryz.sizeOf4
 v4:=Tryz.zeroValue4
 t23:=Tryz.underlying227
 a23:=Tryz.isAgg227
 z23:=Tryz.sizeOf227
 v23:=Tryz.zeroValue227
 t26:=Tryz.underlying3
 a26:=Tryz.isAgg3
 z26:=Tryz.sizeOf3
 v26:=Tryz.zeroValue3
 t27:=Tryz.underlying229
 a27:=Tryz.isAgg229
 z27:=Tryz.sizeOf229
 v27:=Tryz.zeroValue229
 t28:=Tryz.underlying230
 a28:=Tryz.isAgg230
 z28:=Tryz.sizeOf230
 v28:=Tryz.zeroValue230
 t33:=Tryz.underlying130
 a33:=Tryz.isAgg130
 z33:=Tryz.sizeOf130
 v33:=Tryz.zeroValue130 }
def sortedA_ren:Go.Shelf.Ren:=⟨fun | 6=>178 | 8=>225 | 9=>226 | 11=>250 | 13=>252 | 12=>251 | 23=>275 | 24=>276 | 14=>266 | 15=>267 | 16=>268 | 17=>269 | 18=>270 | 19=>271 | 20=>272 | 21=>273 | 22=>274 | 25=>280 | 26=>281 | 27=>282 | 28=>283 | 29=>284 | 30=>285 | 31=>288 | n=>n,fun | 26=>3 | 28=>230 | 24=>75 | 0=>0 | 3=>3 | 37=>59 | 48=>181 | 50=>22 | 4=>4 | 40=>309 | 39=>308 | 45=>256 | 5=>5 | 9=>9 | 51=>316 | 55=>320 | 57=>324 | 58=>118 | 33=>130 | n=>n,fun | n=>n⟩
theorem sortedA:Go.Proofs.SlLaysZI.n6 Tryz.prog sortedA_ren:={
 mixed:=by kernel_rfl
 f6:=⟨Tryz.f178.name,by decide,Tryz.func178.trans (congrArg some (by kernel_rfl))⟩
 f8:=⟨Tryz.f225.name,by decide,Tryz.func225.trans (congrArg some (by kernel_rfl))⟩
 f11:=⟨Tryz.f250.name,by decide,Tryz.func250.trans (congrArg some (by kernel_rfl))⟩
 t0:=Tryz.underlying0
 a0:=Tryz.isAgg0
 z0:=Tryz.sizeOf0
 v0:=Tryz.zeroValue0
 t24:=Tryz.underlying75
 a24:=Tryz.isAgg75
 z24:=Tryz.sizeOf75
 v24:=Tryz.zeroValue75
 t26:=Tryz.underlying3
 a26:=Tryz.isAgg3
 z26:=Tryz.sizeOf3
 v26:=Tryz.zeroValue3
 t28:=Tryz.underlying230
 a28:=Tryz.isAgg230
 z28:=Tryz.sizeOf230
 v28:=Tryz.zeroValue230
 i26:=by kernel_rfl }
def sortA_ren:Go.Shelf.Ren:=⟨fun | 5=>226 | 8=>252 | 7=>251 | 19=>275 | 20=>276 | 10=>266 | 11=>267 | 12=>268 | 13=>269 | 14=>270 | 15=>271 | 16=>272 | 17=>273 | 18=>274 | 30=>280 | 31=>281 | 32=>282 | 33=>283 | 34=>284 | 35=>285 | 40=>288 | n=>n,fun | 23=>75 | 25=>3 | 3=>3 | 32=>59 | 22=>75 | 0=>0 | 44=>181 | 46=>22 | 4=>4 | 36=>309 | 35=>308 | 41=>256 | 5=>5 | 9=>9 | 53=>316 | 57=>320 | 63=>324 | 64=>118 | n=>n,fun | n=>n⟩
theorem sortA:Go.Proofs.SlLaysM.n5 Tryz.prog sortA_ren:={
 mixed:=by kernel_rfl
 f5:=⟨Tryz.f226.name,by decide,Tryz.func226.trans (congrArg some (by kernel_rfl))⟩
 f7:=⟨Tryz.f251.name,by decide,Tryz.func251.trans (congrArg some (by kernel_rfl))⟩
 f8:=Tryz.func252.trans (congrArg some (by kernel_rfl))
 f10:=⟨Tryz.f266.name,by decide,Tryz.func266.trans (congrArg some (by kernel_rfl))⟩
 f11:=⟨Tryz.f267.name,by decide,Tryz.func267.trans (congrArg some (by kernel_rfl))⟩
 f12:=⟨Tryz.f268.name,by decide,Tryz.func268.trans (congrArg some (by kernel_rfl))⟩
 f13:=⟨Tryz.f269.name,by decide,Tryz.func269.trans (congrArg some (by kernel_rfl))⟩
 f14:=⟨Tryz.f270.name,by decide,Tryz.func270.trans (congrArg some (by kernel_rfl))⟩
 f15:=⟨Tryz.f271.name,by decide,Tryz.func271.trans (congrArg some (by kernel_rfl))⟩
 f16:=⟨Tryz.f272.name,by decide,Tryz.func272.trans (congrArg some (by kernel_rfl))⟩
 f17:=⟨Tryz.f273.name,by decide,Tryz.func273.trans (congrArg some (by kernel_rfl))⟩
 f18:=⟨Tryz.f274.name,by decide,Tryz.func274.trans (congrArg some (by kernel_rfl))⟩
 f19:=Tryz.func275.trans (congrArg some (by kernel_rfl))
 f20:=Tryz.func276.trans (congrArg some (by kernel_rfl))
 f30:=⟨Tryz.f280.name,by decide,Tryz.func280.trans (congrArg some (by kernel_rfl))⟩
 f31:=Tryz.func281.trans (congrArg some (by kernel_rfl))
 f32:=Tryz.func282.trans (congrArg some (by kernel_rfl))
 f33:=⟨Tryz.f283.name,by decide,Tryz.func283.trans (congrArg some (by kernel_rfl))⟩
 f34:=⟨Tryz.f284.name,by decide,Tryz.func284.trans (congrArg some (by kernel_rfl))⟩
 f35:=⟨Tryz.f285.name,by decide,Tryz.func285.trans (congrArg some (by kernel_rfl))⟩
 f40:=⟨Tryz.f288.name,by decide,Tryz.func288.trans (congrArg some (by kernel_rfl))⟩
 t0:=Tryz.underlying0
 a0:=Tryz.isAgg0
 z0:=Tryz.sizeOf0
 v0:=Tryz.zeroValue0
 t3:=Tryz.underlying3
 a3:=Tryz.isAgg3
 z3:=Tryz.sizeOf3
 v3:=Tryz.zeroValue3
 t4:=Tryz.underlying4
 a4:=Tryz.isAgg4
 z4:=Tryz.sizeOf4
 v4:=Tryz.zeroValue4
 t5:=Tryz.underlying5
 a5:=Tryz.isAgg5
 z5:=Tryz.sizeOf5
 v5:=Tryz.zeroValue5
 t9:=Tryz.underlying9
 a9:=Tryz.isAgg9
 z9:=Tryz.sizeOf9
 v9:=Tryz.zeroValue9
 t22:=Tryz.underlying75
 a22:=Tryz.isAgg75
 z22:=Tryz.sizeOf75
 v22:=Tryz.zeroValue75
 t23:=Tryz.underlying75
 a23:=Tryz.isAgg75
 z23:=Tryz.sizeOf75
 v23:=Tryz.zeroValue75
 t25:=Tryz.underlying3
 a25:=Tryz.isAgg3
 z25:=Tryz.sizeOf3
 v25:=Tryz.zeroValue3
 t32:=Tryz.underlying59
 a32:=Tryz.isAgg59
 z32:=Tryz.sizeOf59
 v32:=Tryz.zeroValue59
 t35:=Tryz.underlying308
 a35:=Tryz.isAgg308
 z35:=Tryz.sizeOf308
 v35:=Tryz.zeroValue308
 t36:=Tryz.underlying309
 a36:=Tryz.isAgg309
 z36:=Tryz.sizeOf309
 v36:=Tryz.zeroValue309
 t41:=Tryz.underlying256
 a41:=Tryz.isAgg256
 z41:=Tryz.sizeOf256
 v41:=Tryz.zeroValue256
 t44:=Tryz.underlying181
 a44:=Tryz.isAgg181
 z44:=Tryz.sizeOf181
 v44:=Tryz.zeroValue181
 t46:=Tryz.underlying22
 a46:=Tryz.isAgg22
 z46:=Tryz.sizeOf22
 v46:=Tryz.zeroValue22
 t53:=Tryz.underlying316
 a53:=Tryz.isAgg316
 z53:=Tryz.sizeOf316
 v53:=Tryz.zeroValue316
 t57:=Tryz.underlying320
 a57:=Tryz.isAgg320
 z57:=Tryz.sizeOf320
 v57:=Tryz.zeroValue320
 t63:=Tryz.underlying324
 a63:=Tryz.isAgg324
 z63:=Tryz.sizeOf324
 v63:=Tryz.zeroValue324
 t64:=Tryz.underlying118
 a64:=Tryz.isAgg118
 z64:=Tryz.sizeOf118
 v64:=Tryz.zeroValue118 }
theorem sorts_A (m:Nat):AnyZI.SortsIn Tryz.prog sortedA_ren Fence.wide m :=
  ⟨fun blk off cap ss W hH hblk hsz=>callsIn_wide.2 (AnyM.slices_Sort_int sortA blk off cap ss W hH hblk hsz),
   fun p cap W=>callsIn_wide.2 (AnyM.slices_Sort_int_none sortA p cap W)⟩
theorem keys_call (mb:Option Nat) (W:World):Calls Tryz.prog 179 #[.map mb] W fun e w'=>e = .returned (.func (.func 227) #[] #[.pointer (some ⟨W.heap.size,0,none⟩)])∧w'=W.alloc (.cells #[.map mb] 227) :=
 (callsIn_wide (n:=5)).1 (AnyZI.keys_in keysA Fence.wide 5 trivial rfl mb W)
theorem sorted_call {H:Type} (b nn:Nat) (D0:DataW H) (R:Value→Option (DataW H × List MemPlace)) (w:World) (hown:w.ownsMap Tryz.prog 3 R b nn D0) (hmax:Maps.size D0≤maxLen) (hbytes:Maps.size D0*8≤140737488355328) :
  Calls Tryz.prog 178 #[.func (.func 227) #[] #[.pointer (some ⟨w.heap.size,0,none⟩)]] (w.alloc (.cells #[.map (some b)] 227)) fun e w'=>∃ (v:Value) (ss:List Int),e = .returned v∧ss.Perm (intKeys D0) ∧
   w'.ownsRow w.heap.size 3 1 v ss.length ((ss.mergeSort (fun x y=>decide (x≤y))).map encZ)∧Below w.heap.size w w':=by
 have hbl:=hown.lt
 have hseq:SeqGives Fence.wide 2 Tryz.prog 227 #[.pointer (some ⟨w.heap.size,0,none⟩)] encZ (fun ss=>ss.Perm (intKeys D0)) (Maps.size D0) (w.alloc (.cells #[.map (some b)] 227)) :=
  AnyZI.keys_gives (ρ:=keysA_ren) { keysA with } Fence.wide _ trivial rfl (by omega) w.heap.size b nn D0 _ (by simp) (by simp) (by
   obtain ⟨es,clock,hb,Ft,hs,hD⟩:=hown
   exact ⟨es,clock,(Below.heap_alloc _ _ b hbl).trans hb,Ft,hs,hD⟩)
 have cS:=AnyZI.sorted_in sortedA Fence.wide 5 trivial trivial trivial trivial rfl (by omega) (sorts_A _) (enters_of Tryz.func226 (by kernel_rfl) rfl) 227 #[.pointer (some ⟨w.heap.size,0,none⟩)] trivial (enters_of Tryz.func227 (by kernel_rfl) rfl) _ _ hmax hbytes _ hseq
 change CallsIn _ _ Tryz.prog 178 _ _ _ at cS
 refine ((callsIn_wide (n:=5)).1 cS).mono ?_
 rintro e w' ⟨v,ss,he,hS,hrow,_,hb⟩
 exact ⟨v,ss,he,hS,ownsRow_base_a hrow (by simp),((Below.refl _ w).alloc (Nat.le_refl _) _).trans (hb.mono (by simp))⟩
end Go.Proofs.YtnkilceibkkjlaaGreat
namespace Go.Proofs.YtnkilceibkkjlaaGreat
open Go.RowKit Go.Maps
theorem xmade0_q (w:World) (h:Hand) (s:St) (hoff:h.on=false) (hq:QSt w h s):Calls Tryz.prog 66 #[.pointer h.ptr] w fun e w'=>e = .returned (.bool false)∧Below w.heap.size w w':=by
 rcases hq with ⟨h0,_⟩ | ⟨_,hN,_⟩
 ·rw [hoff] at h0; cases h0
 ·exact hN.made.mono fun e w' ⟨he,hw⟩=>⟨he,hw ▸ Below.refl _ _⟩
theorem xadd0_q (w:World) (h:Hand) (s:St) (x:Ex) (hoff:h.on=false) (hq:QSt w h s) :
  Calls Tryz.prog 37 #[.pointer h.ptr,.agg x.L] w fun e w'=>e = .returned (.tuple #[.int .i64 0,.int .i64 1])∧Below w.heap.size w w':=by
 have hB:=((BV.start w).alloc (exO x)).alloc (eO 0)
 rw [World.size_alloc] at hB
 have HMD:Hid (∀ rs W,BV w rs W→Calls Tryz.prog 66 #[.pointer h.ptr] W fun e w'=>e = .returned (.bool false)∧BV w rs w'):=fun rs W hV=>hV.reads (xmade0_q W h s hoff (hq.below (BV.bl hV)))
 have HB:=Lib.hid hB
 clear hB hq hoff
 obtain ⟨xs,xo,xt,xb,W,M⟩:=x
 dsimp only [exO,Ex.L] at HB ⊢
 go_enter_defers Tryz.func37,Tryz.ntmps37
 go_upto_region 1 with fail
 generalize hw1:(w.alloc (.cells #[.int .i64 xs,.int .i64 xo,.int .i64 xt,.int .i64 xb,.int .u64 W.1,.int .u64 W.2.1,.int .u64 W.2.2.1,.int .u64 W.2.2.2,.int .u64 M.1,.int .u64 M.2.1,.int .u64 M.2.2.1,.int .u64 M.2.2.2] 26)).alloc (eO 0)=w1 at *
 clear hw1
 have HM1:=Lib.hid (HMD.out _ _ HB.out)
 clear HB HMD
 go_wp2_with fail
 refine Calls.mono HM1.out ?_
 rintro e w2 ⟨rfl,hB2⟩
 obtain ⟨c1,f1⟩:=row1 (hB2.row (g:=w.heap.size+1) (o:=eO 0) (by simp))
 have HZ:=Lib.hid (hB2.put1 (g:=w.heap.size+1) (e:=0) 1 (by simp) [] (fun _ hx=>by cases hx))
 clear hB2 HM1
 go_wp2_with fail
 exact ⟨_,results_tmp_err rfl _ _ (w.heap.size+1) 1 rfl (HZ.out.row (by simp)),rfl,BV.bl HZ.out⟩
theorem zeroEx_L:zeroEx.L = #[.int .i64 0,.int .i64 0,.int .i64 0,.int .i64 0,.int .u64 0,.int .u64 0,.int .u64 0,.int .u64 0,.int .u64 0,.int .u64 0,.int .u64 0,.int .u64 0]:=rfl
theorem none_ex (id:Int):St.ex ⟨[],[]⟩ id=zeroEx∧St.exIs ⟨[],[]⟩ id=false:=⟨rfl,rfl⟩
theorem xdone0_q (w:World) (h:Hand) (id:Int) (m:W4) (hoff:h.on=false) (hid:I63 id) (hq:QSt w h ⟨[],[]⟩) :
  Calls Tryz.prog 42 #[.pointer h.ptr,.int .i64 id,uV m] w fun e w'=>e = .returned (.tuple #[.agg #[.int .u64 0,.int .u64 0,.int .u64 0,.int .u64 0],.int .i64 1])∧Below w.heap.size w w':=by
 have hB:=((BV.start w).alloc (uO m)).alloc zO
 rw [World.size_alloc] at hB
 have HMD:Hid (∀ rs W,BV w rs W→Calls Tryz.prog 66 #[.pointer h.ptr] W fun e w'=>e = .returned (.bool false)∧BV w rs w'):=fun rs W hV=>hV.reads (xmade0_q W h ⟨[],[]⟩ hoff (hq.below (BV.bl hV)))
 have HGT:Hid (∀ rs W,BV w rs W→Calls Tryz.prog 44 #[.pointer h.ptr,.int .i64 id] W fun e w'=>e = .returned (.tuple #[.agg #[.int .i64 0,.int .i64 0,.int .i64 0,.int .i64 0,.int .u64 0,.int .u64 0,.int .u64 0,.int .u64 0,.int .u64 0,.int .u64 0,.int .u64 0,.int .u64 0],.bool false])∧BV w rs w'):=fun rs W hV=>hV.reads (by
  have:=xGet_q W h ⟨[],[]⟩ 0 id hid (hq.below (BV.bl hV)) St.Fit.empty (by decide)
  rw [(none_ex id).1,(none_ex id).2,zeroEx_L] at this
  exact this)
 have HB:=Lib.hid hB
 clear hB hq hoff hid
 go_enter Tryz.func42,Tryz.ntmps42
 go_upto_region 1 with fail
 generalize hw1:(w.alloc (uO m)).alloc zO=w1 at *
 clear hw1
 have HG1:=Lib.hid (HGT.out _ _ HB.out)
 clear HB HGT
 go_wp2_with fail
 refine Calls.mono HG1.out ?_
 rintro e w2 ⟨rfl,hB2⟩
 have HB3:=Lib.hid (hB2.alloc (.cells #[.int .i64 0,.int .i64 0,.int .i64 0,.int .i64 0,.int .u64 0,.int .u64 0,.int .u64 0,.int .u64 0,.int .u64 0,.int .u64 0,.int .u64 0,.int .u64 0] 26))
 clear HG1 hB2
 go_upto_region 2 with fail
 generalize hw3:w2.alloc (.cells #[.int .i64 0,.int .i64 0,.int .i64 0,.int .i64 0,.int .u64 0,.int .u64 0,.int .u64 0,.int .u64 0,.int .u64 0,.int .u64 0,.int .u64 0,.int .u64 0] 26)=w3 at *
 clear hw3
 have HM3:=Lib.hid (HMD.out _ _ HB3.out)
 clear HB3 HMD
 go_wp2_with fail
 refine Calls.mono HM3.out ?_
 rintro e w4 ⟨rfl,hB4⟩
 obtain ⟨z0,z1,z2,z3,z4,z5,z6,z7⟩:=row4 (hB4.u4 (g:=w.heap.size+1) (x:=(0,0,0,0)) (by simp))
 have HZ:=Lib.hid (hB4.put4 (g:=w.heap.size+1) (y:=(0,0,0,0)) (0,0,0,0) (by simp) [] (fun _ hx=>by cases hx))
 clear hB4 HM3
 go_wp2_with fail
 refine bodyPost_ret (results_cell_row2 rfl _ _ (w.heap.size+1) 24 (uL (0,0,0,0)) (0,0) _ rfl (HZ.out.row (by simp)) Tryz.underlying24 rfl (by kernel_rfl)) rfl ?_
 exact ⟨rfl,BV.bl HZ.out⟩
theorem xtable_any (t:Nat) (ht1:1≤t) (ht2:t≤255) (w:World):Calls Tryz.prog 177 #[.int .i64 t] w fun e w'=>e = .returned (.string (keyL t []))∧Below w.heap.size w w':=by
 have HK:=Lib.hid (key_new0 t ht1 ht2 w)
 generalize keyL t []=k at *
 clear ht1 ht2
 go_enter Tryz.func177,Tryz.ntmps177
 go_wp2_with (go_at_call 90; refine HK.out.mono ?_; rintro e w' ⟨rfl,hb⟩)
 go_ret
 exact ⟨rfl,hb⟩
theorem xgb_below {w w':World} (h:Below w.heap.size w w') (row:Option Nat):w.grownBy w' row:=⟨h.os,h.tape,h.output,h.size,fun k hk _=>h.block k hk⟩
theorem xids0_q (w:World) (h:Hand) (s:St) (fv:Value) (hq:QSt w h s) (hz:s.size < 1000000000000) (hu:underE (keyL 15 []) s.ents = []) :
  Calls Tryz.prog 115 #[.pointer h.ptr,fv] w fun e w'=>∃ a c,e = .returned (.slice a 0 c)∧Below w.heap.size w w':=by
 have hmm:=@run_makeMap Tryz.prog
 have HT:Hid (∀ W,Calls Tryz.prog 177 #[.int .i64 15] W fun e w'=>e = .returned (.string (keyL 15 []))∧Below W.heap.size W w'):=xtable_any 15 (by decide) (by decide)
 have HU:Hid (∀ W,Below w.heap.size w W→Calls Tryz.prog 101 #[.pointer h.ptr,.string (keyL 15 [])] W fun e w2=>∃ ad c,e = .returned (.slice ad 0 c)∧Below W.heap.size W w2):=fun W hW =>
  (under_q W h s (keyL 15 []) (hq.below hW) hz).mono fun e w2 ⟨v,he,hO⟩=>by
   obtain ⟨ad,c,rfl,hp⟩:=hO.1.pairs
   rw [hu] at he
   exact ⟨ad,c,he,hO.2.2⟩
 clear hq hz hu
 generalize keyL 15 []=kt at *
 have hM0:=World.ownsMap_made (H:=Unit) w Tryz.prog 3 (plainElem Tryz.prog 4)
 have hb0:=bl_alloc (Below.refl _ w) (.map #[] 0)
 have HM0:=Lib.hid (And.intro hM0 hb0)
 have HT1:=Lib.hid (HT.out (w.alloc (.map #[] 0)))
 clear hM0 hb0 HT
 go_enter Tryz.func115,Tryz.ntmps115
 go_wp2_with fail
 refine Calls.mono HT1.out ?_
 rintro e w1 ⟨rfl,hb1⟩
 have hM1:=HM0.out.1.kept (xgb_below hb1 none) (by simp)
 have hb01:=bl_then HM0.out.2 hb1
 have HU1:=Lib.hid (HU.out _ hb01)
 have H1:=Lib.hid (And.intro hM1 hb01)
 clear hb1 hM1 hb01 HU HT1 HM0
 go_wp2_with fail
 refine Calls.mono HU1.out ?_
 rintro e w2 ⟨ad,c,rfl,hb2⟩
 have hM2:=H1.out.1.kept (xgb_below hb2 none) (by simp)
 have hb02:=bl_then H1.out.2 hb2
 have HKC:Hid (Calls Tryz.prog 179 #[.map (some w.heap.size)] w2 fun e w'=>e = .returned (.func (.func 227) #[] #[.pointer (some ⟨w2.heap.size,0,none⟩)])∧w'=w2.alloc (.cells #[.map (some w.heap.size)] 227)):=keys_call _ w2
 have HSO:Hid (Calls Tryz.prog 178 #[.func (.func 227) #[] #[.pointer (some ⟨w2.heap.size,0,none⟩)]] (w2.alloc (.cells #[.map (some w.heap.size)] 227)) fun e w'=>∃ a c,e = .returned (.slice a 0 c)∧Below w.heap.size w w') :=
  (sorted_call w.heap.size 0 _ _ w2 hM2 (Nat.le_trans hM2.size_le (by decide)) (by have:=hM2.size_le; omega)).mono fun e w' ⟨v,ss,he,hp,hrow,hb⟩=>by
   have hn:ss.length=0:=by rw [hp.length_eq]; rfl
   rw [hn] at hrow
   rcases hrow.2 with ⟨rfl,_⟩ | ⟨g,cap,cur,rfl,_⟩
   ·exact ⟨none,0,he,bl_then hb02 hb⟩
   ·exact ⟨_,_,he,bl_then hb02 hb⟩
 clear hb2 hM2 hb02 HU1 H1
 generalize hmb:w.heap.size=mb at *
 have HMB:=Lib.hid hmb
 clear hmb
 go_wp2_with fail
 go_loopw [16] (fun iv wr=>iv = .int .i64 0∧w2=wr) (fun iv _=>0)
 case atStart=>exact ⟨rfl,rfl⟩
 case round =>
  obtain ⟨rfl,rfl⟩:=hrel
  go_wp2_with fail
  refine Calls.mono HKC.out ?_
  rintro e w5 ⟨rfl,rfl⟩
  go_wp2_with fail
  refine Calls.mono HSO.out ?_
  rintro e w6 ⟨a,c,rfl,hb6⟩
  have HB6:=Lib.hid hb6
  clear hb6 HSO HKC
  go_wp2_with fail
  go_ret
  have HB7:=HB6.out
  rw [← HMB.out] at HB7
  exact ⟨_,_,rfl,HB7⟩
theorem xopen0_q (w:World) (h:Hand) (s:St) (n:Int) (hq:QSt w h s) (hz:s.size < 1000000000000) (hu:underE (keyL 15 []) s.ents = []) :
  Calls Tryz.prog 47 #[.pointer h.ptr,.int .i64 n] w fun e w'=>∃ a c,e = .returned (.slice a 0 c)∧Below w.heap.size w w':=by
 have hb0:=bl_alloc (Below.refl _ w) (.cells #[.int .i64 n] 3)
 have HI:Hid (∀ fv,Calls Tryz.prog 115 #[.pointer h.ptr,fv] (w.alloc (.cells #[.int .i64 n] 3)) fun e w'=>∃ a c,e = .returned (.slice a 0 c)∧Below w.heap.size w w'):=fun fv=>(xids0_q _ h s fv (hq.below hb0) hz hu).mono fun e w' ⟨a,c,he,hb⟩=>⟨a,c,he,bl_then hb0 hb⟩
 clear hq hz hu hb0
 go_enter Tryz.func47,Tryz.ntmps47
 go_wp2_with fail
 refine Calls.mono (HI.out _) ?_
 rintro e w2 ⟨a,c,rfl,hb⟩
 have HB:=Lib.hid hb
 clear hb HI
 go_wp2_with fail
 go_ret
 exact ⟨_,_,rfl,HB.out⟩
theorem xall0_q (w:World) (h:Hand) (s:St) (hq:QSt w h s) (hz:s.size < 1000000000000) (hu:underE (keyL 15 []) s.ents = []) :
  Calls Tryz.prog 43 #[.pointer h.ptr] w fun e w'=>∃ a c,e = .returned (.slice a 0 c)∧Below w.heap.size w w':=by
 have HI:Hid (∀ fv,Calls Tryz.prog 115 #[.pointer h.ptr,fv] w fun e w'=>∃ a c,e = .returned (.slice a 0 c)∧Below w.heap.size w w'):=fun fv=>xids0_q _ h s fv hq hz hu
 clear hq hz hu
 go_enter Tryz.func43,Tryz.ntmps43
 go_wp2_with fail
 refine Calls.mono (HI.out _) ?_
 rintro e w2 ⟨a,c,rfl,hb⟩
 have HB:=Lib.hid hb
 clear hb HI
 go_wp2_with fail
 go_ret
 exact ⟨_,_,rfl,HB.out⟩
end Go.Proofs.YtnkilceibkkjlaaGreat
