/- What is proved here: history of the program: where a checkpoint stands, how many there are, one of them, the last. Conditions: sizes, ints below 2^63. -/
import Derived.Test.YtnkilceibkkjlaaGreatHExA
set_option maxRecDepth 100000
set_option maxHeartbeats 16000000
namespace Go.Proofs.YtnkilceibkkjlaaGreat
open Go.RowKit
theorem own_ints {w:World} {v:Value} {l:List Int} (h:Own w 3 1 v l.length (l.map fun n=>Value.int .i64 n)):IntsAt w v l:=by
 obtain ⟨_,a,c,he,hc⟩:=h.src
 rcases h.2 with ⟨rfl,h0⟩ | ⟨g,cap,cur,rfl,_⟩
 ·exact .inl ⟨rfl,List.eq_nil_of_length_eq_zero h0⟩
 ·cases he
  refine .inr ⟨_,_,rfl,fun j x hj => ?_⟩
  obtain ⟨ad,h5,h6⟩:=hc j (.int .i64 x) (by simp [hj])
  cases h5
  exact h6
theorem ints_src {w:World} {y:Value} {l:List Int} (h:IntsAt w y l):Src w 1 y l.length (l.map fun n=>Value.int .i64 n):=by
 refine ⟨by simp,?_⟩
 rcases h with ⟨rfl,rfl⟩ | ⟨a,c,rfl,hc⟩
 ·exact ⟨none,0,rfl,fun j u hj=>by simp at hj⟩
 ·refine ⟨some a,c,rfl,fun j u hj => ?_⟩
  rw [List.getElem?_map,Option.map_eq_some_iff] at hj
  obtain ⟨x,hx,rfl⟩:=hj
  exact ⟨a,rfl,hc j x hx⟩
def RetInts (w:World) (l:List Int) (e:Ending) (w':World):Prop:=∃ v,e = .returned v∧Own w' 3 1 v l.length (l.map fun n=>Value.int .i64 n)∧(∀ g,v.ownBlock=some g→w.heap.size≤g)∧Below w.heap.size w w'
theorem cloneI_any (w:World) (y:Value) (l:List Int) (h:IntsAt w y l) (hl:l.length < 1000000000000):Calls Tryz.prog 210 #[y] w (RetInts w l):=by
 have hS:=ints_src h
 rcases h with ⟨rfl,rfl⟩ | ⟨ad,c,rfl,hc⟩
 ·have HE:Hid (RetInts w [] (.returned (.slice none 0 0)) w):=⟨_,rfl,Own.nil _ _ _,fun g hg=>by simp [Value.ownBlock] at hg,Below.refl _ _⟩
  have hsn:=fun (w:World)=>Lib.run_eql_slice_nil (P:=Tryz.prog) w 75 3 none 0 0 0 0 intT.und
  generalize RetInts w []=R at *
  clear hS
  go_enter Tryz.func210,Tryz.ntmps210
  go_wp2
  exact HE.out
 ·have hown:Own (w.alloc (.cells #[] 3)) 3 1 (.slice (some ⟨w.heap.size,0,none⟩) 0 0) 0 [] :=
   ⟨rfl,.inr ⟨w.heap.size,0,#[],rfl,heap_alloc_new w _,Nat.le_refl _,Nat.zero_le _,Nat.zero_le _,rfl⟩⟩
  have hS2:=hS.below (w':=w.alloc (.cells #[] 3)) ((Below.refl _ w).alloc (Nat.le_refl _) _)
  have HE:Hid (∀ v' w',Appended (w.alloc (.cells #[] 3)) 3 1 (.slice (some ⟨w.heap.size,0,none⟩) 0 0) 0 l.length [] (l.map fun n=>Value.int .i64 n) v' w'→RetInts w l (.returned v') w'):=fun v' w' hA=>by
   refine ⟨v',rfl,by simpa using hA.own,fun g hg => ?_,((Below.refl _ w).alloc (Nat.le_refl _) _).grown hA.grown (by simp) (fun k hk=>by simp [Value.ownBlock] at hk; omega)⟩
   rcases hA.block g hg with h | h
   ·simp [Value.ownBlock] at h; omega
   ·simp at h; omega
  have hmx:0+l.length≤maxLen:=by unfold maxLen; omega
  have hone:∀ u∈l.map (fun n=>Value.int .i64 n),u.oneCell'=true:=fun u hu=>by
   obtain ⟨x,_,rfl⟩:=List.mem_map.1 hu; rfl
  generalize RetInts w l=R at *
  generalize (l.map fun n=>Value.int .i64 n)=xs at *
  generalize l.length=n at *
  have hsn:=fun (w:World)=>Lib.run_eql_slice_nil (P:=Tryz.prog) w 75 3 (some ad) n c 0 0 intT.und
  clear hS hc
  go_enter Tryz.func210,Tryz.ntmps210
  go_wp2_with (at_builtin; refine wpList_append_src rfl _ _ 75 75 rfl intT intT _ 0 [] rfl hown _ n xs rfl hS2 hone hmx (by omega) ?_)
  intro v' w' hA
  have hR:=HE.out v' w' hA
  go_wp2
  exact hR
structure IdOk (l:List Int):Prop where
 len:l.length≤100
 lt:∀ x∈l,I63 x
theorem histAt_any (t:Nat) (ht1:1≤t) (ht2:t≤255) (w:World) (y:Value) (l:List Int) (n:Int) (h:IntsAt w y l) (hl:IdOk l) (hn:I63 n):Calls Tryz.prog 228 #[.int .i64 t,y,.int .i64 n] w fun e w'=>e = .returned (.string (keyL t (l ++ [n])))∧Below w.heap.size w w':=by
 have HCL:=Lib.hid (cloneI_any w y l h (by have:=hl.len; omega))
 have hll:=hl.len
 have HF:Hid (∀ w2 v,Own w2 3 1 v l.length (l.map fun n=>Value.int .i64 n)→(∀ g,v.ownBlock=some g→w.heap.size≤g)→Below w.heap.size w w2→∃ a c,v = .slice a l.length c∧Own (w2.alloc (.cells #[.int .i64 n] 3)) 3 1 (.slice a l.length c) l.length (l.map fun n=>Value.int .i64 n)∧∀ v' w',Appended (w2.alloc (.cells #[.int .i64 n] 3)) 3 1 (.slice a l.length c) l.length 1 (l.map fun n=>Value.int .i64 n) [.int .i64 n] v' w' →
   Calls Tryz.prog 90 #[.int .i64 t,v'] w' fun e w3=>e = .returned (.string (keyL t (l ++ [n])))∧Below w.heap.size w w3):=fun w2 v ho hg hb=>by
  obtain ⟨_,a,c,rfl,_⟩:=ho.src
  refine ⟨a,c,rfl,ho.frame fun k hk=>(bl_alloc (Below.refl _ w2) _).block k (ho.lt k hk),fun v' w' hA => ?_⟩
  have hI:IntsAt w' v' (l ++ [n]):=own_ints (by have:=hA.own; simpa using this)
  refine (key_any t ht1 ht2 v' (l ++ [n]) w' hI (by simp; omega) fun x hx => ?_).mono fun e w3 ⟨he,hb3⟩=>⟨he,?_⟩
  ·rcases List.mem_append.1 hx with h1 | h1
   ·exact hl.lt x h1
   ·rw [List.mem_singleton] at h1; subst h1; exact hn
  ·have hb':Below w.heap.size w w':=(bl_alloc hb (.cells #[.int .i64 n] 3)).grown hA.grown (Nat.le_trans hb.size (by simp)) fun k hk=>hg k hk
   exact bl_then hb' hb3
 unfold RetInts at HCL
 clear h hl hn
 generalize (l.map fun n=>Value.int .i64 n)=xs at *
 generalize keyL t (l ++ [n])=kk at *
 go_enter Tryz.func228,Tryz.ntmps228
 go_wp2_with fail
 refine Calls.mono HCL.out ?_
 rintro e w2 ⟨v,rfl,ho,hg,hb⟩
 obtain ⟨a,c,rfl,hO,hA⟩:=HF.out w2 v ho hg hb
 have HOO:=Lib.hid hO
 have HAP:=Lib.hid hA
 clear ho hg hb HF HCL hO hA
 generalize l.length=m at *
 go_wp2_with (at_builtin; refine wpList_append_Own rfl _ _ 75 75 rfl intT intT _ m xs rfl HOO.out _ 1 _ [.int .i64 n] rfl rfl (news_one _ _ _) (by intro u hu; rw [List.mem_singleton.1 hu]; rfl) (by unfold maxLen; omega) (by omega) ?_)
 intro v' w' hA'
 have HK:=Lib.hid (HAP.out _ _ hA')
 clear hA' HAP HOO
 go_wp2_with fail
 refine Calls.mono HK.out ?_
 rintro e w3 ⟨rfl,hb3⟩
 go_wp2_with fail
 go_ret
 exact ⟨rfl,hb3⟩
def St.hlen (s:St) (t:Nat) (l:List Int):Nat:=s.int (keyL t l)
theorem histLen_q (w:World) (h:Hand) (s:St) (f:Nat) (t:Nat) (ht1:1≤t) (ht2:t≤255) (y:Value) (l:List Int) (hi:IntsAt w y l) (hl:IdOk l) (hq:QSt w h s) (hf:s.Fit f) (hm:f < 100000000000) :
  Calls Tryz.prog 180 #[.pointer h.ptr,.int .i64 t,y] w fun e w'=>e = .returned (.int .i64 (s.hlen t l))∧Below w.heap.size w w':=by
 have HK:=Lib.hid (key_any t ht1 ht2 y l w hi (by have:=hl.len; omega) hl.lt)
 have hr:=hq.read hf hm
 have HI:Hid (∀ W,Below w.heap.size w W→Calls Tryz.prog 99 #[.pointer h.ptr,.string (keyL t l)] W fun e w'=>e = .returned (.int .i64 (s.hlen t l))∧Below w.heap.size w w'):=fun W hb=>((hr.below hb).int (keyL t l)).mono fun e w' ⟨he,h1⟩=>⟨he,bl_then hb h1⟩
 clear hi hl hq hf hr
 generalize s.hlen t l=n at *
 generalize keyL t l=kk at *
 go_enter Tryz.func180,Tryz.ntmps180
 go_wp2_with fail
 refine Calls.mono HK.out ?_
 rintro e w2 ⟨rfl,hb⟩
 have HI2:=Lib.hid (HI.out w2 hb)
 clear hb HI HK
 go_wp2_with fail
 refine Calls.mono HI2.out ?_
 rintro e w3 ⟨rfl,hb⟩
 have HB:=Lib.hid hb
 clear hb HI2
 go_wp2_with fail
 go_ret
 exact ⟨rfl,HB.out⟩
def hpt (v:ByteArray):Nat × W4:=if v.size < 8 then (0,(0,0,0,0)) else match numsL (v.extract 0 8).data.toList with
 | some [n]=>if (v.extract 8 v.size).size=32 then (n,toAmt (v.extract 8 v.size)) else (0,(0,0,0,0))
 | _=>(0,(0,0,0,0))
theorem nums8 {l:List UInt8} (h:l.length=8):numsL l=if be l < 9223372036854775808 then some [be l] else none:=by
 rw [numsL_step l (by omega),List.take_of_length_le (by omega),List.drop_of_length_le (by omega)]
 split
 ·rfl
 ·rfl
abbrev pL (n:Int) (a:W4):Array Value:=#[.int .i64 n,.int .u64 a.1,.int .u64 a.2.1,.int .u64 a.2.2.1,.int .u64 a.2.2.2]
abbrev pO (n:Int) (a:W4):Obj:=.cells (pL n a) 233
theorem row5 {w:World} {g:Nat} {n:Int} {a:W4} (h:w.heap[g]? = some (pO n a)):(w.cell? ⟨g,0,none⟩=some (.int .i64 n)∧w.cell? ⟨g,1,none⟩=some (.int .u64 a.1)∧w.cell? ⟨g,2,none⟩=some (.int .u64 a.2.1)∧w.cell? ⟨g,3,none⟩=some (.int .u64 a.2.2.1)∧w.cell? ⟨g,4,none⟩=some (.int .u64 a.2.2.2))∧w.frozen? ⟨g,0,none⟩=false∧w.frozen? ⟨g,1,none⟩=false∧w.frozen? ⟨g,2,none⟩=false∧w.frozen? ⟨g,3,none⟩=false∧w.frozen? ⟨g,4,none⟩=false :=
 ⟨⟨by rw [cell_of_row _ _ _ _ _ _ h]; rfl,by rw [cell_of_row _ _ _ _ _ _ h]; rfl,by rw [cell_of_row _ _ _ _ _ _ h]; rfl,by rw [cell_of_row _ _ _ _ _ _ h]; rfl,by rw [cell_of_row _ _ _ _ _ _ h]; rfl⟩,frozen_of_row _ _ _ _ _ h,frozen_of_row _ _ _ _ _ h,frozen_of_row _ _ _ _ _ h,frozen_of_row _ _ _ _ _ h,frozen_of_row _ _ _ _ _ h⟩
theorem put5 {w:World} {g:Nat} {n:Int} {a:W4} (h:w.heap[g]? = some (pO n a)) (m:Int) (y:W4):(((((w.setCell ⟨g,0,none⟩ (.int .i64 m)).setCell ⟨g,1,none⟩ (.int .u64 y.1)).setCell ⟨g,2,none⟩ (.int .u64 y.2.1)).setCell ⟨g,3,none⟩ (.int .u64 y.2.2.1)).setCell ⟨g,4,none⟩ (.int .u64 y.2.2.2)).heap[g]? = some (pO m y) :=
 setCell_row _ (setCell_row _ (setCell_row _ (setCell_row _ (setCell_row _ h))))
theorem put5_below {k g:Nat} {w0 w:World} (h:Below k w0 w) (hg:k≤g) (a b c d e:Value):Below k w0 (((((w.setCell ⟨g,0,none⟩ a).setCell ⟨g,1,none⟩ b).setCell ⟨g,2,none⟩ c).setCell ⟨g,3,none⟩ d).setCell ⟨g,4,none⟩ e) :=
 ((((h.setCell (p:=⟨g,0,none⟩) hg _).setCell (p:=⟨g,1,none⟩) hg _).setCell (p:=⟨g,2,none⟩) hg _).setCell (p:=⟨g,3,none⟩) hg _).setCell (p:=⟨g,4,none⟩) hg _
theorem ReadAt.get {n:Nat} {w:World} {q:Option Addr} {s:St} (h:ReadAt n w q s) (k:ByteArray):∃ ok,GetIs w q k (s.val k) ok:=by
 rcases h with ⟨b,L,rfl,h,_,hv,_⟩ | ⟨h,_,rfl⟩
 ·exact ⟨_,h.get k⟩
 ·exact ⟨false,h.get k⟩
theorem ReadAt.vsz {n:Nat} {w:World} {q:Option Addr} {s:St} (h:ReadAt n w q s) (k:ByteArray):(s.val k).size < 1000000000000:=by
 rcases h with ⟨b,L,rfl,h,_,hv,_⟩ | ⟨h,_,rfl⟩
 ·exact hv k
 ·show emptyB.size < _; decide
theorem histRead_q (w:World) (h:Hand) (s:St) (f:Nat) (t:Nat) (ht1:1≤t) (ht2:t≤255) (y:Value) (l:List Int) (n:Int) (hi:IntsAt w y l) (hl:IdOk l) (hn:I63 n) (hq:QSt w h s) (hf:s.Fit f) (hm:f < 100000000000) :
  Calls Tryz.prog 181 #[.pointer h.ptr,.int .i64 t,y,.int .i64 n] w fun e w'=>e = .returned (.agg (pL (hpt (s.val (keyL t (l ++ [n])))).1 (hpt (s.val (keyL t (l ++ [n])))).2))∧Below w.heap.size w w':=by
 have hB:=(BV.start w).alloc (pO 0 (0,0,0,0))
 have HAT:=Lib.hid (histAt_any t ht1 ht2 (w.alloc (pO 0 (0,0,0,0))) y l n (hi.below (bl_alloc (Below.refl _ w) _)) hl hn)
 have hr:=hq.read hf hm
 have hvs:=hr.vsz (keyL t (l ++ [n]))
 have HGT:Hid (∀ rs W,BV w rs W→∃ ok,Calls Tryz.prog 140 #[.pointer h.ptr,.string (keyL t (l ++ [n]))] W fun e w'=>e = .returned (.tuple #[.string (s.val (keyL t (l ++ [n]))),.bool ok])∧BV w rs w'):=fun rs W hW=>by
  obtain ⟨ok,hg⟩:=(hr.below (BV.bl hW)).get (keyL t (l ++ [n]))
  exact ⟨ok,Calls.mono hg fun e w' ⟨he,hw⟩=>⟨he,by subst hw; exact hW⟩⟩
 generalize s.val (keyL t (l ++ [n]))=v at *
 generalize keyL t (l ++ [n])=kk at *
 have HATB:Hid (Calls Tryz.prog 228 #[.int .i64 t,y,.int .i64 n] (w.alloc (pO 0 (0,0,0,0))) fun e w'=>e = .returned (.string kk)∧BV w [(w.heap.size,pO 0 (0,0,0,0))] w'):=HAT.out.mono fun e w' ⟨he,hb⟩=>⟨he,QV.below hB hb⟩
 clear hB HAT hr hi hl hn hq hf
 by_cases h8:v.size < 8
 ·have hp:hpt v=(0,(0,0,0,0)):=by unfold hpt; rw [if_pos h8]
  rw [hp]
  have hd:decide ((v.size:Int) < 8)=true:=decide_eq_true (by omega)
  clear hp
  go_enter Tryz.func181,Tryz.ntmps181
  go_wp2_with fail
  refine Calls.mono HATB.out ?_
  rintro e w2 ⟨rfl,hB2⟩
  obtain ⟨ok,hg⟩:=HGT.out _ _ hB2
  have HG:=Lib.hid hg
  clear hB2 HATB HGT hg
  go_wp2_with fail
  refine Calls.mono HG.out ?_
  rintro e w3 ⟨rfl,hB3⟩
  have hz:=hB3.row (g:=w.heap.size) (o:=pO 0 (0,0,0,0)) (by simp)
  obtain ⟨⟨z0,z1,z2,z3,z4⟩,f0,f1,f2,f3,f4⟩:=row5 hz
  have HZ:=Lib.hid (put5 hz 0 (0,0,0,0))
  have HB:=Lib.hid (put5_below (BV.bl hB3) (Nat.le_refl _) (.int .i64 0) (.int .u64 0) (.int .u64 0) (.int .u64 0) (.int .u64 0))
  clear hz hB3 HG
  go_wp2_with fail
  refine bodyPost_ret (results_cell_row rfl _ _ w.heap.size 233 (pL 0 (0,0,0,0)) (0,0) _ rfl HZ.out Tryz.underlying233 rfl (by kernel_rfl)) rfl ?_
  exact ⟨rfl,HB.out⟩
 ·have h8':8≤v.size:=Nat.not_lt.1 h8
  have hd:decide ((v.size:Int) < 8)=false:=decide_eq_false (by omega)
  have hs8:(8:Int)≤(v.size:Int):=by omega
  have hl8:(v.extract 0 8).data.toList.length=8:=by
   show (v.extract 0 8).data.size=8
   have:(v.extract 0 8).size=8:=by rw [ByteArray.size_extract]; omega
   exact this
  have HTA:Hid (∀ rs W,BV w rs W→Calls Tryz.prog 141 #[.string (v.extract 8 v.size)] W fun e w'=>e = .returned (.tuple #[uV (toAmt (v.extract 8 v.size)),.bool ((v.extract 8 v.size).size == 32)])∧BV w rs w'):=fun rs W hW=>hW.reads (toAmount_any _ W)
  have hnu:∀ rs W,BV w rs W→Calls Tryz.prog 147 #[.string (v.extract 0 8)] W (RetNumsG W (numsL (v.extract 0 8).data.toList)):=fun rs W _=>nums_any (v.extract 0 8) (by rw [ByteArray.size_extract]; omega) W
  rw [nums8 hl8] at hnu
  by_cases hbe:be (v.extract 0 8).data.toList < 9223372036854775808
  ·rw [if_pos hbe] at hnu
   have HNU:Hid (∀ rs W,BV w rs W→Calls Tryz.prog 147 #[.string (v.extract 0 8)] W fun e w'=>∃ g c cur,e = .returned (.tuple #[.slice (some ⟨g,0,none⟩) 1 c,.bool true])∧BV w ((g,.cells cur 3) :: rs) w'∧cur[0]? = some (.int .i64 (be (v.extract 0 8).data.toList))):=fun rs W hW=>(hnu rs W hW).mono fun e w' ⟨hb,sl,he,ho,hg⟩=>by
    rcases ho.2 with ⟨_,h0⟩ | ⟨g,cap,cur,rfl,hg2,_,_,_,ht⟩
    ·cases h0
    ·refine ⟨g,cap,cur,he,QV.add1 hW hb (hg g rfl) hg2,?_⟩
     have:=congrArg (fun x=>x[0]?) ht
     simpa [List.getElem?_take] using this
   have hp:hpt v=if (v.extract 8 v.size).size=32 then (be (v.extract 0 8).data.toList,toAmt (v.extract 8 v.size)) else (0,(0,0,0,0)):=by
    unfold hpt
    rw [if_neg h8,nums8 hl8,if_pos hbe]
   clear hnu hl8 h8 hvs
   cases h32:((v.extract 8 v.size).size == 32) with
   | true =>
    rw [if_pos (by simpa using h32)] at hp
    rw [hp]
    rw [h32] at HTA
    clear hp h32
    generalize be (v.extract 0 8).data.toList=bn at *
    generalize toAmt (v.extract 8 v.size)=am at *
    go_enter Tryz.func181,Tryz.ntmps181
    go_wp2_with fail
    refine Calls.mono HATB.out ?_
    rintro e w2 ⟨rfl,hB2⟩
    obtain ⟨ok,hg⟩:=HGT.out _ _ hB2
    have HG:=Lib.hid hg
    clear hB2 HATB HGT hg
    go_wp2_with fail
    refine Calls.mono HG.out ?_
    rintro e w3 ⟨rfl,hB3⟩
    have HN3:=Lib.hid (HNU.out _ _ hB3)
    clear hB3 HNU HG
    go_wp2_with fail
    refine Calls.mono HN3.out ?_
    rintro e w4 ⟨g,c,cur,rfl,hB4,hcur⟩
    have HT4:=Lib.hid (HTA.out _ _ hB4)
    clear hB4 HTA HN3
    go_wp2_with fail
    refine Calls.mono HT4.out ?_
    rintro e w5 ⟨rfl,hB5⟩
    have hB6:=hB5.alloc (uO am)
    clear hB5 HT4
    go_upto_region 6 with fail
    generalize w5.alloc (uO am)=w6 at *
    generalize w5.heap.size=g1 at *
    have hg0:w6.cell? ⟨g,0,none⟩=some (.int .i64 bn):=by rw [cell_of_row _ _ _ _ _ _ (hB6.row (g:=g) (o:=.cells cur 3) (by simp))]; exact hcur
    obtain ⟨a0,a1,a2,a3,_⟩:=row4 (hB6.u4 (g:=g1) (x:=am) (by simp))
    have hz:=hB6.row (g:=w.heap.size) (o:=pO 0 (0,0,0,0)) (by simp)
    obtain ⟨⟨z0,z1,z2,z3,z4⟩,f0,f1,f2,f3,f4⟩:=row5 hz
    have HZ:=Lib.hid (put5 hz bn am)
    have HB:=Lib.hid (put5_below (BV.bl hB6) (Nat.le_refl _) (.int .i64 bn) (.int .u64 am.1) (.int .u64 am.2.1) (.int .u64 am.2.2.1) (.int .u64 am.2.2.2))
    clear hz hB6 hcur
    go_upto_region 8 with fail
    go_region_with fail
    all_goals
     go_wp2_with fail
     refine bodyPost_ret (results_cell_row rfl _ _ w.heap.size 233 (pL bn am) (0,0) _ rfl ?_ Tryz.underlying233 rfl (by kernel_rfl)) rfl ?_
     ·exact HZ.out
     ·exact ⟨rfl,bl_drew HB.out⟩
   | false =>
    rw [if_neg (by simpa using h32)] at hp
    rw [hp]
    rw [h32] at HTA
    clear hp h32
    generalize be (v.extract 0 8).data.toList=bn at *
    generalize toAmt (v.extract 8 v.size)=am at *
    go_enter Tryz.func181,Tryz.ntmps181
    go_wp2_with fail
    refine Calls.mono HATB.out ?_
    rintro e w2 ⟨rfl,hB2⟩
    obtain ⟨ok,hg⟩:=HGT.out _ _ hB2
    have HG:=Lib.hid hg
    clear hB2 HATB HGT hg
    go_wp2_with fail
    refine Calls.mono HG.out ?_
    rintro e w3 ⟨rfl,hB3⟩
    have HN3:=Lib.hid (HNU.out _ _ hB3)
    clear hB3 HNU HG
    go_wp2_with fail
    refine Calls.mono HN3.out ?_
    rintro e w4 ⟨g,c,cur,rfl,hB4,hcur⟩
    have HT4:=Lib.hid (HTA.out _ _ hB4)
    clear hB4 HTA HN3 hcur
    go_wp2_with fail
    refine Calls.mono HT4.out ?_
    rintro e w5 ⟨rfl,hB5⟩
    have hB6:=hB5.alloc (uO am)
    clear hB5 HT4
    go_upto_region 6 with fail
    generalize w5.alloc (uO am)=w6 at *
    generalize w5.heap.size=g1 at *
    have hz:=hB6.row (g:=w.heap.size) (o:=pO 0 (0,0,0,0)) (by simp)
    obtain ⟨⟨z0,z1,z2,z3,z4⟩,f0,f1,f2,f3,f4⟩:=row5 hz
    have HZ:=Lib.hid (put5 hz 0 (0,0,0,0))
    have HB:=Lib.hid (put5_below (BV.bl hB6) (Nat.le_refl _) (.int .i64 0) (.int .u64 0) (.int .u64 0) (.int .u64 0) (.int .u64 0))
    clear hz hB6
    go_wp2_with fail
    refine bodyPost_ret (results_cell_row rfl _ _ w.heap.size 233 (pL 0 (0,0,0,0)) (0,0) _ rfl HZ.out Tryz.underlying233 rfl (by kernel_rfl)) rfl ?_
    exact ⟨rfl,HB.out⟩
  ·rw [if_neg hbe] at hnu
   have HNU:Hid (∀ rs W,BV w rs W→Calls Tryz.prog 147 #[.string (v.extract 0 8)] W fun e w'=>e = .returned (.tuple #[.slice none 0 0,.bool false])∧BV w rs w'):=fun rs W hW=>(hnu rs W hW).mono fun e w' ⟨hb,he⟩=>⟨he,QV.below hW hb⟩
   have hp:hpt v=(0,(0,0,0,0)):=by
    unfold hpt
    rw [if_neg h8,nums8 hl8,if_neg hbe]
   rw [hp]
   clear hnu hl8 h8 hvs hp hbe
   generalize ((v.extract 8 v.size).size == 32)=b32 at *
   generalize toAmt (v.extract 8 v.size)=am at *
   go_enter Tryz.func181,Tryz.ntmps181
   go_wp2_with fail
   refine Calls.mono HATB.out ?_
   rintro e w2 ⟨rfl,hB2⟩
   obtain ⟨ok,hg⟩:=HGT.out _ _ hB2
   have HG:=Lib.hid hg
   clear hB2 HATB HGT hg
   go_wp2_with fail
   refine Calls.mono HG.out ?_
   rintro e w3 ⟨rfl,hB3⟩
   have HN3:=Lib.hid (HNU.out _ _ hB3)
   clear hB3 HNU HG
   go_wp2_with fail
   refine Calls.mono HN3.out ?_
   rintro e w4 ⟨rfl,hB4⟩
   have HT4:=Lib.hid (HTA.out _ _ hB4)
   clear hB4 HTA HN3
   go_wp2_with fail
   refine Calls.mono HT4.out ?_
   rintro e w5 ⟨rfl,hB5⟩
   have hB6:=hB5.alloc (uO am)
   clear hB5 HT4
   go_upto_region 6 with fail
   generalize w5.alloc (uO am)=w6 at *
   generalize w5.heap.size=g1 at *
   have hz:=hB6.row (g:=w.heap.size) (o:=pO 0 (0,0,0,0)) (by simp)
   obtain ⟨⟨z0,z1,z2,z3,z4⟩,f0,f1,f2,f3,f4⟩:=row5 hz
   have HZ:=Lib.hid (put5 hz 0 (0,0,0,0))
   have HB:=Lib.hid (put5_below (BV.bl hB6) (Nat.le_refl _) (.int .i64 0) (.int .u64 0) (.int .u64 0) (.int .u64 0) (.int .u64 0))
   clear hz hB6
   go_wp2_with fail
   refine bodyPost_ret (results_cell_row rfl _ _ w.heap.size 233 (pL 0 (0,0,0,0)) (0,0) _ rfl HZ.out Tryz.underlying233 rfl (by kernel_rfl)) rfl ?_
   exact ⟨rfl,HB.out⟩
theorem hpt_ok (v:ByteArray):(hpt v).2.Ok:=by
 unfold hpt
 split
 ·exact u0_ok
 ·split
  ·split
   ·exact toAmt_ok _
   ·exact u0_ok
  ·exact u0_ok
def St.hlast (s:St) (t:Nat) (l:List Int):W4:=if s.hlen t l=0 then (0,0,0,0) else (hpt (s.val (keyL t (l ++ [((s.hlen t l:Nat):Int) - 1])))).2
end Go.Proofs.YtnkilceibkkjlaaGreat
