/- What is proved here: fifo.Push, Peek, Pop and Len, over a store behind a handle. Conditions: sizes; a row of numbers none negative. an error's cell, a deferred call among rows, results in cells. No condition. what a withdrawal that is added leaves: the states on the way, and that they lead back. Conditions: sizes, a good withdrawal. operations of drawn regions over withdrawals: slices of one and of four ints, a withdr -/
import Derived.Test.YtnkilceibkkjlaaGreatIFqB
import Derived.Test.YtnkilceibkkjlaaGreatIAllocW
import Derived.Test.YtnkilceibkkjlaaGreatIUndG
import Derived.Test.YtnkilceibkkjlaaGreatIHistP
import Derived.Test.YtnkilceibkkjlaaGreatIBl
set_option maxRecDepth 100000
set_option maxHeartbeats 16000000
namespace Go.Proofs.YtnkilceibkkjlaaGreat
open Go.RowKit
theorem HV.ints {h:Hand} {w W:World} {s:St} {rs:List (Nat × Obj)} (hV:HV h w s rs W) {y:Value} {l:List Int} (hy:IntsAt w y l) (hn:∀ k,y.ownBlock=some k→k∉h.L):IntsAt W y l:=by
 obtain ⟨L',_,st⟩:=QV.done hV
 rcases hy with ⟨rfl,rfl⟩ | ⟨a,c,rfl,hc⟩
 ·exact .inl ⟨rfl,rfl⟩
 ·refine .inr ⟨a,c,rfl,fun j x hx => ?_⟩
  have h0:=hc j x hx
  have hlt:=World.block_lt_of_cell? w _ h0
  have hb:(a.add j).block=a.block:=by simp [Addr.add]; split <;> rfl
  rw [hb] at hlt
  rw [World.cell?_of_block (w:=w) (a:=a.add j) (by rw [hb]; exact st.fr.block _ hlt (hn _ rfl))]
  exact h0
theorem HV.lie {h:Hand} {w W:World} {s:St} {rs:List (Nat × Obj)} (hV:HV h w s rs W) {g:Nat} {l:List Int} (hy:LieAt w g l) (hn:g∉h.L):LieAt W g l:=by
 obtain ⟨L',_,st⟩:=QV.done hV
 intro j x hx
 have h0:=hy j x hx
 have hlt:=World.block_lt_of_cell? w _ h0
 rw [World.cell?_of_block (w:=w) (a:=⟨g,j,none⟩) (st.fr.block _ hlt hn)]
 exact h0
def pushE (s:St) (t:Nat) (l:List Int) (most:Nat):Int:=if most≤(ends s t l).2 - (ends s t l).1 then 7 else 0
def pushSt (s:St) (t:Nat) (l:List Int) (most:Nat) (r:List Int):St:=if most≤(ends s t l).2 - (ends s t l).1 then s else turnSt (s.put (keyL t (l ++ [((ends s t l).2:Int)])) (rowB r)) t l ((ends s t l).1:Int) (((ends s t l).2+1:Nat):Int)
theorem ends_le (s:St) (t:Nat) (l:List Int):(ends s t l).1≤(ends s t l).2:=by
 unfold ends endsOf
 split
 ·split
  ·assumption
  ·exact Nat.le_refl _
 ·exact Nat.le_refl _
theorem fqPush_q (t:Nat) (ht1:1≤t) (ht2:t≤255) (w:World) (h:Hand) (s:St) (f:Nat) (ad:Option Addr) (c:Nat) (l:List Int) (most g c2:Nat) (r:List Int) (hon:h.on=true) (hq:QSt w h s) (hf:s.Fit f) (hm:f < 10000000000) (hy:IntsAt w (.slice ad l.length c) l) (hl:IdOk l) (hl0:∀ x∈l,0≤x) (hyn:∀ k,(Value.slice ad l.length c).ownBlock=some k→k∉h.L)
  (hz:LieAt w g r) (hgn:g∉h.L) (hr0:0 < r.length) (hr1:r.length < 1000) (hr:∀ n∈r,0≤n∧n < 9223372036854775808) (hmo:1≤most∧most < 1000) (he:(ends s t l).2 < 4611686018427387904) :
  Calls Tryz.prog 145 #[.pointer h.ptr,.int .i64 t,.slice ad l.length c,.int .i64 most,.slice (some ⟨g,0,none⟩) r.length c2] w fun e w'=>e = .returned (.int .i64 (pushE s t l most))∧QOn w h (pushSt s t l most r) w':=by
 have hle:=ends_le s t l
 have HOF:Hid (Calls Tryz.prog 138 #[.pointer h.ptr,.int .i64 t,.slice ad l.length c] w fun e w'=>e = .returned (.agg (qL h.ptr t (.slice ad l.length c) (ends s t l).1 (ends s t l).2))∧HV h w s [] w'):=HV.reads (HV.start hq) fun L' h1=>of_any w h.ptr s t ht1 ht2 ad c l hy (by have:=hl.len; omega) hl.lt (h1.read hf (by omega))
 have HMD:Hid (∀ rs W,HV h w s rs W→Calls Tryz.prog 66 #[.pointer h.ptr] W fun e w'=>e = .returned (.bool true)∧HV h w s rs w'):=fun rs W hV=>hV.reads fun L' h1=>hmade_q W ⟨h.ptr,h.on,L'⟩ s hon h1
 have HKY:Hid (∀ rs W,HV h w s rs W→Calls Tryz.prog 90 #[.int .i64 t,.slice ad l.length c] W fun e w'=>e = .returned (.string (keyL t l))∧HV h w s rs w'):=fun rs W hV=>hV.reads fun L' h1=>key_any t ht1 ht2 _ l W (hV.ints hy hyn) (by have:=hl.len; omega) hl.lt
 have HGD:Hid (∀ rs W,HV h w s rs W→Calls Tryz.prog 205 #[.slice (some ⟨g,0,none⟩) r.length c2] W fun e w'=>e = .returned (.bool true)∧HV h w s rs w'):=fun rs W hV=>(fgood_yes W g c2 r hr0 (by omega) (hV.lie hz hgn) (fun n hn=>(hr n hn).1)).mono fun e w' ⟨he,hw⟩=>⟨he,by rw [← hw]; exact hV⟩
 have HLN:Hid (∀ rs W,HV h w s rs W→Calls Tryz.prog 139 #[.agg (qL h.ptr t (.slice ad l.length c) (ends s t l).1 (ends s t l).2)] W fun e w'=>e = .returned (.int .i64 (((ends s t l).2 - (ends s t l).1:Nat):Int))∧HV h w s rs w'):=fun rs W hV=>hV.reads fun L' h1=>qlen_any W h.ptr t _ _ _ hle (by omega)
 have HAT:Hid (∀ rs W,HV h w s rs W→Calls Tryz.prog 152 #[.agg (qL h.ptr t (.slice ad l.length c) (ends s t l).1 (ends s t l).2),.int .i64 ((ends s t l).2:Int)] W fun e w'=>e = .returned (.string (keyL t (l ++ [((ends s t l).2:Int)])))∧HV h w s rs w'):=fun rs W hV=>hV.reads fun L' h1=>fqAt_any t ht1 ht2 W h.ptr _ l _ _ _ (hV.ints hy hyn) hl (by unfold I63; omega)
 have hk0:keyL t l≠emptyB:=keyL_some t hl0
 have hf1:=hf.put (keyL t (l ++ [((ends s t l).2:Int)])) (rowB_shortL r (by omega))
 have hsz:s.size < 1000000000000:=Nat.lt_of_le_of_lt hf.size (by omega)
 have hsz1:(s.put (keyL t (l ++ [((ends s t l).2:Int)])) (rowB r)).size < 1000000000000:=Nat.lt_of_le_of_lt hf1.size (by omega)
 have HSR:Hid (∀ rs W,HV h w s rs W→Calls Tryz.prog 107 #[.pointer h.ptr,.string (keyL t (l ++ [((ends s t l).2:Int)])),.slice (some ⟨g,0,none⟩) r.length c2] W fun e w'=>e = .returned (.tuple #[])∧HV h w (s.put (keyL t (l ++ [((ends s t l).2:Int)])) (rowB r)) rs w'):=fun rs W hV=>QV.call hV fun L' h1=>hsetRow_q W ⟨h.ptr,h.on,L'⟩ s _ _ r hon h1 hsz ((hV.lie hz hgn).ints c2) (by omega) (by intro e; rw [e] at hr0; exact absurd hr0 (by decide)) hr
 have HTN:Hid (∀ rs W,HV h w (s.put (keyL t (l ++ [((ends s t l).2:Int)])) (rowB r)) rs W→Calls Tryz.prog 153 #[.agg (qL h.ptr t (.slice ad l.length c) (ends s t l).1 (ends s t l).2),.agg #[.int .i64 ((ends s t l).1:Int),.int .i64 (((ends s t l).2:Int)+1)]] W fun e w'=>e = .returned (.tuple #[])∧HV h w (turnSt (s.put (keyL t (l ++ [((ends s t l).2:Int)])) (rowB r)) t l ((ends s t l).1:Int) (((ends s t l).2+1:Nat):Int)) rs w'):=fun rs W hV=>QV.call hV fun L' h1=>fqTurn_q t ht1 ht2 W ⟨h.ptr,h.on,L'⟩ _ _ l _ _ _ _ hon h1 hsz1 (hV.ints hy hyn) hl (by unfold I63; omega) (by unfold I63; omega)
 have hkl:(keyL t l).toList≠[]:=fun e=>hk0 (by
  have h1:=toList_beq (keyL t l) emptyB
  rw [e] at h1
  have h2:emptyB.toList = []:=by unfold ByteArray.toList ByteArray.toList.loop; rfl
  rw [h2] at h1
  exact of_decide_eq_true (h1.symm.trans rfl))
 have hke:(keyL t l).toList.isEmpty=false:=by simpa using hkl
 have hd1:decide ((most:Int) < 1)=false:=decide_eq_false (by omega)
 have hlaw:(most≤(ends s t l).2 - (ends s t l).1→pushE s t l most=7∧pushSt s t l most r=s)∧(¬ most≤(ends s t l).2 - (ends s t l).1→pushE s t l most=0∧pushSt s t l most r=turnSt (s.put (keyL t (l ++ [((ends s t l).2:Int)])) (rowB r)) t l ((ends s t l).1:Int) (((ends s t l).2+1:Nat):Int)):=by
  unfold pushE pushSt
  exact ⟨fun h=>by rw [if_pos h,if_pos h]; exact ⟨rfl,rfl⟩,fun h=>by rw [if_neg h,if_neg h]; exact ⟨rfl,rfl⟩⟩
 have HLAW:=Lib.hid hlaw
 clear hlaw
 generalize pushE s t l most=rE at *
 generalize pushSt s t l most r=rS at *
 clear hq hf hf1 hsz hsz1 hy hz hyn hgn hk0 hr hr0 hl hl0
 generalize turnSt (s.put (keyL t (l ++ [((ends s t l).2:Int)])) (rowB r)) t l ((ends s t l).1:Int) (((ends s t l).2+1:Nat):Int)=s2 at *
 generalize s.put (keyL t (l ++ [((ends s t l).2:Int)])) (rowB r)=s1 at *
 generalize keyL t (l ++ [((ends s t l).2:Int)])=k1 at *
 generalize (ends s t l).1=e1 at *
 generalize (ends s t l).2=e2 at *
 generalize keyL t l=kk at *
 generalize l.length=nl at *
 generalize r.length=nr at *
 go_enter Tryz.func145,Tryz.ntmps145
 go_wp2_with fail
 refine Calls.mono HOF.out ?_
 rintro e w1 ⟨rfl,hV1⟩
 have hV2:=hV1.alloc (qO h.ptr t (.slice ad nl c) e1 e2)
 clear hV1 HOF
 go_upto_region 2 with fail
 generalize w1.alloc (qO h.ptr t (.slice ad nl c) e1 e2)=w2 at *
 generalize w1.heap.size=g1 at *
 have HV2:=Lib.hid hV2
 clear hV2
 go_wp2_with fail
 refine Calls.mono (HMD.out _ _ HV2.out) ?_
 rintro e w3 ⟨rfl,hV3⟩
 have HV3:=Lib.hid hV3
 clear hV3 HV2 HMD
 go_wp2_with fail
 refine Calls.mono (HKY.out _ _ HV3.out) ?_
 rintro e w4 ⟨rfl,hV4⟩
 have HV4:=Lib.hid hV4
 clear hV4 HV3 HKY
 go_wp2_with fail
 refine Calls.mono (HGD.out _ _ HV4.out) ?_
 rintro e w5 ⟨rfl,hV5⟩
 obtain ⟨c0,c1,c2',c3,c4⟩:=cellQ (q:=h.ptr) (t:=t) (v:=.slice ad nl c) (a:=e1) (b:=e2) (hV5.row (g:=g1) (by simp))
 have HV5:=Lib.hid hV5
 clear hV5 HV4 HGD
 go_wp2_with fail
 refine Calls.mono (HLN.out _ _ HV5.out) ?_
 rintro e w6 ⟨rfl,hV6⟩
 clear HV5 HLN c0 c1 c2' c3 c4
 by_cases hfull:most≤e2 - e1
 ·have hd2:decide ((most:Int)≤((e2 - e1:Nat):Int))=true:=decide_eq_true (by omega)
  have HR:Hid (QOn w h s w6):=HV.done hV6
  obtain ⟨r1,r2⟩:=HLAW.out.1 hfull
  rw [← r2] at HR
  have HRE:=Lib.hid r1
  clear hV6 r1 r2 HLAW
  go_wp2_with fail
  go_ret
  exact ⟨by rw [HRE.out]; rfl,HR.out⟩
 ·have hd2:decide ((most:Int)≤((e2 - e1:Nat):Int))=false:=decide_eq_false (by omega)
  obtain ⟨r1,r2⟩:=HLAW.out.2 hfull
  have HRE:=Lib.hid (And.intro r1 r2)
  clear r1 r2 HLAW
  obtain ⟨c0,c1,c2',c3,c4⟩:=cellQ (q:=h.ptr) (t:=t) (v:=.slice ad nl c) (a:=e1) (b:=e2) (hV6.row (g:=g1) (by simp))
  have HV6:=Lib.hid hV6
  clear hV6
  go_wp2_with fail
  refine Calls.mono (HAT.out _ _ HV6.out) ?_
  rintro e w7 ⟨rfl,hV7⟩
  have HV7:=Lib.hid hV7
  clear hV7 HV6 HAT c0 c1 c2' c3 c4
  go_wp2_with fail
  refine Calls.mono (HSR.out _ _ HV7.out) ?_
  rintro e w8 ⟨rfl,hV8⟩
  obtain ⟨c0,c1,c2',c3,c4⟩:=cellQ (q:=h.ptr) (t:=t) (v:=.slice ad nl c) (a:=e1) (b:=e2) (hV8.row (g:=g1) (by simp))
  have HV8:=Lib.hid hV8
  clear hV8 HV7 HSR
  go_wp2_with fail
  refine Calls.mono (HTN.out _ _ HV8.out) ?_
  rintro e w9 ⟨rfl,hV9⟩
  have HR:Hid (QOn w h s2 w9):=HV.done hV9
  clear hV9 HV8 HTN c0 c1 c2' c3 c4
  go_wp2_with fail
  go_ret
  exact ⟨by rw [HRE.out.1]; rfl,by rw [HRE.out.2]; exact HR.out⟩
theorem QSt.srt {w:World} {h:Hand} {s:St} (hq:QSt w h s):Sorted s.ents:=by
 rcases hq with ⟨_,b,_,mb,es,clk,bv,pv,bs,hS,_⟩ | ⟨_,_,hs,_⟩
 ·exact hS.srt
 ·rw [hs]; exact List.Pairwise.nil
theorem ptB_some (b:Nat) (a:W4):ptB b a≠emptyB:=fun h=>by
 have h1:=congrArg ByteArray.size h
 unfold ptB at h1
 rw [ByteArray.size_append] at h1
 have h8:(numB b).size=8:=rfl
 have h0:emptyB.size=0:=rfl
 rw [h8,h0] at h1
 omega
theorem set_put (s:St) {k v:ByteArray} (hk:k≠emptyB) (hv:v≠emptyB):s.set k v=s.put k v:=by
 unfold St.put
 rw [if_neg hv,if_neg hk]
theorem Und.srtPut {s s':St} (h:Und s s'∧Sorted s'.ents) (k v:ByteArray):Und s (s'.put k v)∧Sorted (s'.put k v).ents:=⟨h.1.put h.2 k v,put_srt h.2 k v⟩
theorem Ex.good_at {x:Ex} (h:x.good=true):1≤x.st∧1≤x.sg∧0≤x.op∧0≤x.bl∧x.bl≤1099511627776∧uN x.wo < M128∧uCmp x.mx oneW≤0:=by
 unfold Ex.good at h
 simp only [Bool.and_eq_true,decide_eq_true_eq] at h
 exact h
def Hand.ad2 (h:Hand) (s:St) (x:Ex):St:=h.addSt (noteSt s x) (keyL 19 [x.sg]) x.wo
def Hand.adN (h:Hand) (s:St) (x:Ex):Int:=(((h.ad2 s x).int (keyL 14 []):Nat):Int)+1
def Hand.ad3 (h:Hand) (s:St) (x:Ex):St:=(h.ad2 s x).setInt (keyL 14 []) (h.adN s x)
def Hand.ad4 (h:Hand) (s:St) (x:Ex):St:=(h.ad3 s x).put (keyL 15 [h.adN s x]) (rowB [x.st,x.op,x.sg,x.bl])
def Hand.ad5 (h:Hand) (s:St) (x:Ex):St:=(h.ad4 s x).setAmt (keyL 17 [h.adN s x]) x.wo
def Hand.ad6 (h:Hand) (s:St) (x:Ex):St:=(h.ad5 s x).setAmt (keyL 18 [h.adN s x]) x.mx
def Hand.ad7 (h:Hand) (s:St) (x:Ex):St:=(h.ad6 s x).setInt (keyL 20 [x.st]) ((((h.ad6 s x).int (keyL 20 [x.st]):Nat):Int)+1)
def xadE (s:St) (x:Ex):Int:=if x.good=false then 2 else if 16≤s.int (keyL 20 [x.st]) then 7 else if noteE s x=0 then moreE ((noteSt s x).amt (keyL 19 [x.sg])) x.wo else noteE s x
def Hand.xadN (h:Hand) (s:St) (x:Ex):Int:=if xadE s x=0 then h.adN s x else 0
def Hand.xadSt (h:Hand) (s:St) (x:Ex):St:=if xadE s x=0 then h.ad7 s x else s
theorem xad_bad {h:Hand} {s:St} {x:Ex} (hg:x.good=false):xadE s x=2∧h.xadN s x=0∧h.xadSt s x=s:=by
 have he:xadE s x=2:=by unfold xadE; rw [if_pos hg]
 unfold Hand.xadN Hand.xadSt
 rw [he,if_neg (by decide),if_neg (by decide)]
 exact ⟨rfl,rfl,rfl⟩
theorem xad_full {h:Hand} {s:St} {x:Ex} (hg:x.good=true) (hn:16≤s.int (keyL 20 [x.st])):xadE s x=7∧h.xadN s x=0∧h.xadSt s x=s:=by
 have he:xadE s x=7:=by unfold xadE; rw [if_neg (by rw [hg]; decide),if_pos hn]
 unfold Hand.xadN Hand.xadSt
 rw [he,if_neg (by decide),if_neg (by decide)]
 exact ⟨rfl,rfl,rfl⟩
theorem xad_note {h:Hand} {s:St} {x:Ex} (hg:x.good=true) (hn:¬ 16≤s.int (keyL 20 [x.st])) (h1:noteE s x≠0):xadE s x=noteE s x∧h.xadN s x=0∧h.xadSt s x=s:=by
 have he:xadE s x=noteE s x:=by unfold xadE; rw [if_neg (by rw [hg]; decide),if_neg hn,if_neg h1]
 unfold Hand.xadN Hand.xadSt
 rw [he,if_neg h1,if_neg h1]
 exact ⟨rfl,rfl,rfl⟩
theorem xad_more {h:Hand} {s:St} {x:Ex} (hg:x.good=true) (hn:¬ 16≤s.int (keyL 20 [x.st])) (h1:noteE s x=0) {m:Int} (hm:moreE ((noteSt s x).amt (keyL 19 [x.sg])) x.wo=m) (h2:m≠0):xadE s x=m∧h.xadN s x=0∧h.xadSt s x=s:=by
 have he:xadE s x=m:=by unfold xadE; rw [if_neg (by rw [hg]; decide),if_neg hn,if_pos h1,hm]
 unfold Hand.xadN Hand.xadSt
 rw [he,if_neg h2,if_neg h2]
 exact ⟨rfl,rfl,rfl⟩
theorem xad_ok {h:Hand} {s:St} {x:Ex} (hg:x.good=true) (hn:¬ 16≤s.int (keyL 20 [x.st])) (h1:noteE s x=0) (hm:moreE ((noteSt s x).amt (keyL 19 [x.sg])) x.wo=0):xadE s x=0∧h.xadN s x=h.adN s x∧h.xadSt s x=h.ad7 s x:=by
 have he:xadE s x=0:=by unfold xadE; rw [if_neg (by rw [hg]; decide),if_neg hn,if_pos h1,hm]
 unfold Hand.xadN Hand.xadSt
 rw [he,if_pos rfl,if_pos rfl]
 exact ⟨rfl,rfl,rfl⟩
end Go.Proofs.YtnkilceibkkjlaaGreat
namespace Go.Proofs.YtnkilceibkkjlaaGreat
open Go.RowKit
theorem be_inj':∀ (l1 l2:List UInt8) (x y:Nat),l1.length=l2.length→l1.foldl (fun x b=>x*256+b.toNat) x=l2.foldl (fun x b=>x*256+b.toNat) y→x=y∧l1=l2
 | [],[],x,y,_,h=>⟨h,rfl⟩
 | [],_ :: _,_,_,hl,_=>by simp at hl
 | _ :: _,[],_,_,hl,_=>by simp at hl
 | a :: l1,b :: l2,x,y,hl,h=>by
  simp only [List.foldl_cons] at h
  obtain ⟨h1,h2⟩:=be_inj' l1 l2 _ _ (by simpa using hl) h
  have ha:=UInt8.toNat_lt a
  have hb:=UInt8.toNat_lt b
  have hab:a.toNat=b.toNat:=by omega
  exact ⟨by omega,by rw [h2,UInt8.toNat_inj.1 hab]⟩
theorem be8_be {r:List UInt8} (hl:r.length=8) (hb:be r < 9223372036854775808):be8 (be r)=r:=by
 have h2:=numsL_numB (be r) hb
 rw [numB_list,numsL_step _ (by rw [be8_len]; omega),List.take_of_length_le (by rw [be8_len]; omega),List.drop_of_length_le (by rw [be8_len]; omega)] at h2
 split at h2
 ·simp [numsL] at h2
  exact ((be_inj' r (be8 (be r)) 0 0 (by rw [be8_len]; omega) h2.symm).2).symm
 ·cases h2
theorem numsL_inv:∀ (ns:List Nat) (r:List UInt8),numsL r=some ns→r=ns.flatMap be8∧∀ x∈ns,x < 9223372036854775808
 | [],r,h=>by
  have hl:=numsL_len r.length r [] (Nat.le_refl _) h
  simp at hl
  subst hl
  exact ⟨rfl,fun x hx=>by cases hx⟩
 | n :: ns,r,h=>by
  have hl:=numsL_len r.length r (n :: ns) (Nat.le_refl _) h
  simp at hl
  rw [numsL_step _ (by omega)] at h
  split at h
  ·next hb =>
   rw [Option.map_eq_some_iff] at h
   obtain ⟨ms,hm,e⟩:=h
   injection e with e1 e2
   subst e1
   subst e2
   obtain ⟨h1,h2⟩:=numsL_inv _ _ hm
   refine ⟨?_,fun x hx => ?_⟩
   ·rw [List.flatMap_cons,← h1,be8_be (by rw [List.length_take]; omega) hb,List.take_append_drop]
   ·rcases List.mem_cons.1 hx with rfl | hx
    ·exact hb
    ·exact h2 x hx
  ·cases h
def asInts (ns:List Nat):List Int:=ns.map fun (n:Nat)=>(n:Int)
theorem keyL_list (t:Nat) (ns:List Nat):(keyL t (asInts ns)).data.toList=UInt8.ofNat t :: ns.flatMap be8:=by
 rw [keyL_pos (by intro x hx; obtain ⟨n,_,rfl⟩:=List.mem_map.1 hx; omega)]
 simp [keyBytes,asInts,List.flatMap_map]
theorem key_parse {k:ByteArray} {t:Nat} {ns:List Nat} (h:parseK k=some (t,ns)):k=keyL t (asInts ns)∧∀ x∈ns,x < 9223372036854775808:=by
 unfold parseK at h
 cases hk:k.data.toList with
 | nil=>rw [hk] at h; cases h
 | cons b r =>
  rw [hk] at h
  have h':(if b=0 then none else (numsL r).map fun ns=>(b.toNat,ns))=some (t,ns):=h
  split at h'
  ·cases h'
  ·rw [Option.map_eq_some_iff] at h'
   obtain ⟨ms,hm,e⟩:=h'
   injection e with e1 e2
   subst e1
   subst e2
   obtain ⟨h1,h2⟩:=numsL_inv _ _ hm
   refine ⟨?_,h2⟩
   have:k.data.toList=(keyL b.toNat (asInts ms)).data.toList:=by rw [keyL_list,hk,← h1,UInt8.ofNat_toNat]
   exact congrArg ByteArray.mk (Array.toList_inj.1 this)
theorem parse_keyL {t:Nat} (h1:1≤t) (h2:t≤255) {ns:List Nat} (h:∀ x∈ns,x < 9223372036854775808):parseK (keyL t (asInts ns))=some (t,ns):=by
 unfold parseK
 rw [keyL_list]
 have h0:UInt8.ofNat t≠0:=fun e=>by
  have:=congrArg UInt8.toNat e
  rw [UInt8.toNat_ofNat'] at this
  have h3:(0:UInt8).toNat=0:=rfl
  rw [h3] at this
  omega
 show (if UInt8.ofNat t=0 then none else (numsL (ns.flatMap be8)).map fun ns=>((UInt8.ofNat t).toNat,ns))=_
 rw [if_neg h0]
 have h3:=numsL_row (asInts ns) (by intro n hn; obtain ⟨m,hm,rfl⟩:=List.mem_map.1 hn; have:=h m hm; omega)
 have h4:rowBy (asInts ns)=ns.flatMap be8:=by simp [rowBy,asInts,List.flatMap_map]
 have h5:(asInts ns).map (·.toNat)=ns:=by simp [asInts,Function.comp_def]
 rw [h4,h5] at h3
 rw [h3,UInt8.toNat_ofNat',Option.map_some]
 have:t % 256=t:=by omega
 rw [this]
theorem keyL_inj {t u:Nat} (ht1:1≤t) (ht:t≤255) (hu1:1≤u) (hu:u≤255) {ns ms:List Nat} (hn:∀ x∈ns,x < 9223372036854775808) (hm:∀ x∈ms,x < 9223372036854775808) (h:keyL t (asInts ns)=keyL u (asInts ms)):t=u∧ns=ms:=by
 have h1:=parse_keyL ht1 ht hn
 rw [h,parse_keyL hu1 hu hm] at h1
 injection h1 with h1
 injection h1 with h1 h2
 exact ⟨h1.symm,h2.symm⟩
def xdnA (s:St) (id:Int) (m:W4):W4:=paysW (s.ex id) m
def xdnE (s:St) (id:Int) (m:W4):Int:=if s.exIs id=true then lessE' (s.amt (keyL 19 [(s.ex id).sg])) (xdnA s id m) else 8
def Hand.dn1 (h:Hand) (s:St) (id:Int) (m:W4):St:=h.subSt s (keyL 19 [(s.ex id).sg]) (xdnA s id m)
def Hand.dnS (h:Hand) (s:St) (id:Int) (m:W4):Nat→St
 | 0=>h.dn1 s id m
 | 1=>(h.dn1 s id m).del (keyL 15 [id])
 | 2=>((h.dn1 s id m).del (keyL 15 [id])).del (keyL 17 [id])
 | _+3=>(((h.dn1 s id m).del (keyL 15 [id])).del (keyL 17 [id])).del (keyL 18 [id])
def Hand.dn5 (h:Hand) (s:St) (id:Int) (m:W4):St:=(h.dnS s id m 3).setInt (keyL 20 [(s.ex id).st]) ((((h.dnS s id m 3).int (keyL 20 [(s.ex id).st]):Nat):Int) - 1)
def Hand.dnSt (h:Hand) (s:St) (id:Int) (m:W4):St:=if xdnE s id m=0 then h.dn5 s id m else s
theorem rowOf_lt {v:ByteArray}:∀ n∈rowOf v,n < 9223372036854775808:=fun n hn=>by
 unfold rowOf at hn
 cases hx:numsL v.data.toList with
 | none=>rw [hx] at hn; cases hn
 | some ns=>rw [hx] at hn; exact (numsL_inv _ _ hx).2 n hn
theorem ex_i63 (s:St) (id:Int):I63 (s.ex id).st∧I63 (s.ex id).op∧I63 (s.ex id).sg∧I63 (s.ex id).bl:=by
 unfold St.ex
 split
 ·rename_i a b c d hr
  have h:=fun n hn=>rowOf_lt (v:=s.val (keyL 15 [id])) n (by rw [hr]; exact hn)
  have ha:=h a (by simp)
  have hb:=h b (by simp)
  have hc:=h c (by simp)
  have hd:=h d (by simp)
  exact ⟨by show (a:Int) < _; omega,by show (b:Int) < _; omega,by show (c:Int) < _; omega,by show (d:Int) < _; omega⟩
 ·exact ⟨by decide,by decide,by decide,by decide⟩
theorem hdel_q (w:World) (h:Hand) (s:St) (k:ByteArray) (hon:h.on=true) (hq:QSt w h s) (hz:s.size < 1000000000000) :
  Calls Tryz.prog 85 #[.pointer h.ptr,.string k] w fun e w'=>e = .returned (.bool (getE s.ents k).isSome)∧QOn w h (s.del k) w':=by
 rcases hq with ⟨_,b,hp,hS⟩ | ⟨h0,_⟩
 ·rw [hp]
  exact (delete_any w b s h.L k hS hz).mono fun e w' ⟨he,L',h1,h2⟩=>⟨he,L',.inl ⟨hon,b,hp,h1⟩,h2⟩
 ·rw [hon] at h0; cases h0
theorem del_fit {s:St} {f:Nat} (hf:s.Fit f) (k:ByteArray):(s.del k).Fit (f+2):=by
 have:=hf.put k (v:=emptyB) (by decide)
 unfold St.put at this
 rwa [if_pos rfl] at this
theorem fqPeek_q (t:Nat) (ht1:1≤t) (ht2:t≤255) (w:World) (h:Hand) (s:St) (f:Nat) (ad:Option Addr) (c:Nat) (l:List Int) (hq:QSt w h s) (hf:s.Fit f) (hm:f < 10000000000) (hy:IntsAt w (.slice ad l.length c) l) (hl:IdOk l) (hyn:∀ k,(Value.slice ad l.length c).ownBlock=some k→k∉h.L) (he:(ends s t l).2 < 4611686018427387904) :
  Calls Tryz.prog 151 #[.pointer h.ptr,.int .i64 t,.slice ad l.length c] w fun e w'=>(∃ v,e = .returned (.tuple #[v,.bool (!decide ((ends s t l).2 - (ends s t l).1=0))]))∧HV h w s [] w':=by
 have hle:=ends_le s t l
 have HOF:Hid (Calls Tryz.prog 138 #[.pointer h.ptr,.int .i64 t,.slice ad l.length c] w fun e w'=>e = .returned (.agg (qL h.ptr t (.slice ad l.length c) (ends s t l).1 (ends s t l).2))∧HV h w s [] w'):=HV.reads (HV.start hq) fun L' h1=>of_any w h.ptr s t ht1 ht2 ad c l hy (by have:=hl.len; omega) hl.lt (h1.read hf (by omega))
 have HLN:Hid (∀ rs W,HV h w s rs W→Calls Tryz.prog 139 #[.agg (qL h.ptr t (.slice ad l.length c) (ends s t l).1 (ends s t l).2)] W fun e w'=>e = .returned (.int .i64 (((ends s t l).2 - (ends s t l).1:Nat):Int))∧HV h w s rs w'):=fun rs W hV=>hV.reads fun L' h1=>qlen_any W h.ptr t _ _ _ hle (by omega)
 have HAT:Hid (∀ rs W,HV h w s rs W→Calls Tryz.prog 152 #[.agg (qL h.ptr t (.slice ad l.length c) (ends s t l).1 (ends s t l).2),.int .i64 ((ends s t l).1:Int)] W fun e w'=>e = .returned (.string (keyL t (l ++ [((ends s t l).1:Int)])))∧HV h w s rs w'):=fun rs W hV=>hV.reads fun L' h1=>fqAt_any t ht1 ht2 W h.ptr _ l _ _ _ (hV.ints hy hyn) hl (by unfold I63; omega)
 have HRW:Hid (∀ rs W,HV h w s rs W→Calls Tryz.prog 75 #[.pointer h.ptr,.string (keyL t (l ++ [((ends s t l).1:Int)]))] W fun e w'=>(∃ v,e = .returned v)∧HV h w s [] w'):=fun rs W hV=>by
  obtain ⟨L',h1,_⟩:=hV.on
  exact (QSt.row (h:=⟨h.ptr,h.on,L'⟩) h1 hf (by omega) _).mono fun e w' ⟨v,he,_,_,hb⟩=>⟨⟨v,he⟩,(hV.below hb).less (by simp)⟩
 clear hq hf hy hyn hl
 generalize keyL t (l ++ [((ends s t l).1:Int)])=k1 at *
 generalize (ends s t l).1=e1 at *
 generalize (ends s t l).2=e2 at *
 generalize l.length=nl at *
 go_enter Tryz.func151,Tryz.ntmps151
 go_wp2_with fail
 refine Calls.mono HOF.out ?_
 rintro e w1 ⟨rfl,hV1⟩
 have hV2:=hV1.alloc (qO h.ptr t (.slice ad nl c) e1 e2)
 clear hV1 HOF
 go_upto_region 2 with fail
 generalize w1.alloc (qO h.ptr t (.slice ad nl c) e1 e2)=w2 at *
 generalize w1.heap.size=g1 at *
 obtain ⟨c0,c1,c2',c3,c4⟩:=cellQ (q:=h.ptr) (t:=t) (v:=.slice ad nl c) (a:=e1) (b:=e2) (hV2.row (g:=g1) (by simp))
 have HV2:=Lib.hid hV2
 clear hV2
 go_wp2_with fail
 refine Calls.mono (HLN.out _ _ HV2.out) ?_
 rintro e w3 ⟨rfl,hV3⟩
 clear HV2 HLN c0 c1 c2' c3 c4
 by_cases h0:e2 - e1=0
 ·have hd:(((e2 - e1:Nat):Int) == 0)=true:=by simp [h0]
  have HR:=Lib.hid (hV3.less (qs:=[]) (by simp))
  have HD:=Lib.hid h0
  have hde:decide (((e2 - e1:Nat):Int)=0)=true:=decide_eq_true (by omega)
  clear hV3
  go_wp2_with fail
  exact bodyPost_ret_by (results_tmp2 rfl _ _ _) rfl ⟨⟨_,by rw [decide_eq_true HD.out]; rfl⟩,HR.out⟩
 ·have hd:(((e2 - e1:Nat):Int) == 0)=false:=by simpa using h0
  have hde:decide (((e2 - e1:Nat):Int)=0)=false:=decide_eq_false (by omega)
  obtain ⟨c0,c1,c2',c3,c4⟩:=cellQ (q:=h.ptr) (t:=t) (v:=.slice ad nl c) (a:=e1) (b:=e2) (hV3.row (g:=g1) (by simp))
  have HV3:=Lib.hid hV3
  have HD:=Lib.hid h0
  clear hV3
  go_wp2_with fail
  refine Calls.mono (HAT.out _ _ HV3.out) ?_
  rintro e w4 ⟨rfl,hV4⟩
  have HV4:=Lib.hid hV4
  clear hV4 HV3 HAT c0 c1 c2' c3 c4
  go_wp2_with fail
  refine Calls.mono (HRW.out _ _ HV4.out) ?_
  rintro e w5 ⟨⟨v,rfl⟩,hV5⟩
  have HR:=Lib.hid hV5
  clear hV5 HV4 HRW
  go_wp2_with fail
  exact bodyPost_ret_by (results_tmp2 rfl _ _ _) rfl ⟨⟨_,by rw [decide_eq_false HD.out]; rfl⟩,HR.out⟩
theorem rg_loadQq {ops:Array Oper} {o:Oper} {a:Act} {w:World} {K:Value→World→Prop} {x:Operand} {g:Nat} {q:Option Addr} {t:Int} {v:Value} {m n:Int} (hg:Region.wanted o (yielded ops a.tmps)=true) (ho:o.op = .load 188 x) (hx:a.eval x = .pointer (some ⟨g,0,none⟩)) (hr:w.heap[g]? = some (qO q t v m n)) (hk:K (.agg (qL q t v m n)) w):rgDo Tryz.prog ops o a w K :=
 rg_load _ hg ho hx hr Tryz.underlying188 rfl (by show _=some 5; kernel_rfl) hk
theorem rg_idx20 {ops:Array Oper} {o:Oper} {a:Act} {w:World} {K:Value→World→Prop} {x:Operand} {g:Nat} (hg:Region.wanted o (yielded ops a.tmps)=true) (ho:o.op = .indexAddr 152 x (.const (.int .i64 0))) (hx:a.eval x = .pointer (some ⟨g,3,none⟩)) (hk:K (.pointer (some ⟨g,3,none⟩)) w):rgDo Tryz.prog ops o a w K:=by
 refine rg_value hg ?_ hk
 have h0:a.eval (.const (.int .i64 0)) = .int .i64 0:=rfl
 clear hg hk
 generalize a.eval=ev at hx h0 ⊢
 unfold execOp
 simp only [ho,hx,h0]
 go_simp
def popSt (s:St) (t:Nat) (l:List Int):St:=if (ends s t l).2 - (ends s t l).1=0 then s else turnSt (s.del (keyL t (l ++ [((ends s t l).1:Int)]))) t l (((ends s t l).1+1:Nat):Int) ((ends s t l).2:Int)
def PpPh (h:Hand) (w:World) (s s2:St) (rs:List (Nat × Obj)):Nat→World→Prop
 | 0,W=>HV h w s rs W
 | 1,W=>HV h w s rs W
 | _+2,W=>HV h w s2 rs W
theorem PpPh.row {h:Hand} {w W:World} {s s2:St} {rs:List (Nat × Obj)} {p:Nat} (hP:PpPh h w s s2 rs p W) {g:Nat} {o:Obj} (hm:(g,o)∈rs):W.heap[g]? = some o:=by
 match p,hP with
 | 0,hP | 1,hP=>exact QV.row (rs:=rs) hP hm
 | _+2,hP=>exact QV.row (rs:=rs) hP hm
theorem fqPop_q (t:Nat) (ht1:1≤t) (ht2:t≤255) (w:World) (h:Hand) (s:St) (f:Nat) (ad:Option Addr) (c:Nat) (l:List Int) (hon:h.on=true) (hq:QSt w h s) (hf:s.Fit f) (hm:f < 10000000000) (hy:IntsAt w (.slice ad l.length c) l) (hl:IdOk l) (hyn:∀ k,(Value.slice ad l.length c).ownBlock=some k→k∉h.L) (he:(ends s t l).2 < 4611686018427387904) :
  Calls Tryz.prog 83 #[.pointer h.ptr,.int .i64 t,.slice ad l.length c] w fun e w'=>(∃ v ok,e = .returned (.tuple #[v,.bool ok]))∧QOn w h (popSt s t l) w':=by
 have hle:=ends_le s t l
 have HPK:=Lib.hid (fqPeek_q t ht1 ht2 w h s f ad c l hq hf hm hy hl hyn he)
 have HOF:Hid (∀ rs W,HV h w s rs W→Calls Tryz.prog 138 #[.pointer h.ptr,.int .i64 t,.slice ad l.length c] W fun e w'=>e = .returned (.agg (qL h.ptr t (.slice ad l.length c) (ends s t l).1 (ends s t l).2))∧HV h w s rs w'):=fun rs W hV=>hV.reads fun L' h1=>of_any W h.ptr s t ht1 ht2 ad c l (hV.ints hy hyn) (by have:=hl.len; omega) hl.lt (h1.read hf (by omega))
 have HAT:Hid (∀ rs W,HV h w s rs W→Calls Tryz.prog 152 #[.agg (qL h.ptr t (.slice ad l.length c) (ends s t l).1 (ends s t l).2),.int .i64 ((ends s t l).1:Int)] W fun e w'=>e = .returned (.string (keyL t (l ++ [((ends s t l).1:Int)])))∧HV h w s rs w'):=fun rs W hV=>hV.reads fun L' h1=>fqAt_any t ht1 ht2 W h.ptr _ l _ _ _ (hV.ints hy hyn) hl (by unfold I63; omega)
 have hf1:=del_fit hf (keyL t (l ++ [((ends s t l).1:Int)]))
 have hsz:s.size < 1000000000000:=Nat.lt_of_le_of_lt hf.size (by omega)
 have hsz1:(s.del (keyL t (l ++ [((ends s t l).1:Int)]))).size < 1000000000000:=Nat.lt_of_le_of_lt hf1.size (by omega)
 have HDL:Hid (∀ rs W,HV h w s rs W→Calls Tryz.prog 85 #[.pointer h.ptr,.string (keyL t (l ++ [((ends s t l).1:Int)]))] W fun e w'=>e = .returned (.bool (getE s.ents (keyL t (l ++ [((ends s t l).1:Int)]))).isSome)∧HV h w (s.del (keyL t (l ++ [((ends s t l).1:Int)]))) rs w'):=fun rs W hV=>QV.call hV fun L' h1=>hdel_q W ⟨h.ptr,h.on,L'⟩ s _ hon h1 hsz
 have HTN:Hid (∀ rs W,HV h w (s.del (keyL t (l ++ [((ends s t l).1:Int)]))) rs W→Calls Tryz.prog 153 #[.agg (qL h.ptr t (.slice ad l.length c) (ends s t l).1 (ends s t l).2),.agg #[.int .i64 (((ends s t l).1:Int)+1),.int .i64 ((ends s t l).2:Int)]] W fun e w'=>e = .returned (.tuple #[])∧HV h w (turnSt (s.del (keyL t (l ++ [((ends s t l).1:Int)]))) t l (((ends s t l).1+1:Nat):Int) ((ends s t l).2:Int)) rs w'):=fun rs W hV=>QV.call hV fun L' h1=>fqTurn_q t ht1 ht2 W ⟨h.ptr,h.on,L'⟩ _ _ l _ _ _ _ hon h1 hsz1 (hV.ints hy hyn) hl (by unfold I63; omega) (by unfold I63; omega)
 have HLAW:Hid ((((ends s t l).2 - (ends s t l).1=0)→popSt s t l=s)∧(¬ ((ends s t l).2 - (ends s t l).1=0)→popSt s t l=turnSt (s.del (keyL t (l ++ [((ends s t l).1:Int)]))) t l (((ends s t l).1+1:Nat):Int) ((ends s t l).2:Int))):=by
  unfold popSt
  exact ⟨fun h=>by rw [if_pos h],fun h=>by rw [if_neg h]⟩
 generalize popSt s t l=rS at *
 clear hq hf hf1 hsz hsz1 hy hyn hl
 generalize turnSt (s.del (keyL t (l ++ [((ends s t l).1:Int)]))) t l (((ends s t l).1+1:Nat):Int) ((ends s t l).2:Int)=s2 at *
 generalize s.del (keyL t (l ++ [((ends s t l).1:Int)]))=s1 at *
 generalize (getE s.ents (keyL t (l ++ [((ends s t l).1:Int)]))).isSome=dB at *
 generalize keyL t (l ++ [((ends s t l).1:Int)])=k1 at *
 generalize (ends s t l).1=m1 at *
 generalize (ends s t l).2=m2 at *
 generalize l.length=nl at *
 by_cases h0:m2 - m1=0
 ·have hr:=HLAW.out.1 h0
  rw [decide_eq_true h0] at HPK
  clear HLAW HTN HDL HAT HOF
  subst hr
  go_enter Tryz.func83,Tryz.ntmps83
  go_wp2_with fail
  refine Calls.mono HPK.out ?_
  rintro e w1 ⟨⟨v,rfl⟩,hV1⟩
  have HR:Hid (QOn w h rS w1):=HV.done hV1
  clear hV1 HPK
  go_wp2_with fail
  exact bodyPost_ret_by (results_tmp2 rfl _ _ _) rfl ⟨⟨_,_,rfl⟩,HR.out⟩
 ·have hr:=HLAW.out.2 h0
  rw [decide_eq_false h0] at HPK
  clear HLAW
  subst hr
  go_enter Tryz.func83,Tryz.ntmps83
  go_wp2_with fail
  refine Calls.mono HPK.out ?_
  rintro e w1 ⟨⟨v,rfl⟩,hV1⟩
  have HV1:=Lib.hid hV1
  clear hV1 HPK
  go_wp2_with fail
  refine Calls.mono (HOF.out _ _ HV1.out) ?_
  rintro e w2 ⟨rfl,hV2⟩
  have hV3:=hV2.alloc (qO h.ptr t (.slice ad nl c) m1 m2)
  clear hV2 HV1 HOF
  go_upto_region 5 with fail
  generalize w2.alloc (qO h.ptr t (.slice ad nl c) m1 m2)=w3 at *
  generalize w2.heap.size=g1 at *
  have H0:Hid (PpPh h w s s1 [(g1,qO h.ptr t (.slice ad nl c) m1 m2)] 0 w3.drew):=hV3.drew
  clear hV3
  refine wp_region_const2 [[],[0],[],[],[3],[3,4],[2,3,4,5],[0,1,2,3,4,5,6]]
   [.pointer (some ⟨g1,0,none⟩),.pointer h.ptr,.agg (qL h.ptr t (.slice ad nl c) m1 m2),.pointer (some ⟨g1,3,none⟩),.pointer (some ⟨g1,3,none⟩),.int .i64 m1,.string k1,.bool dB]
   [6,7] (PpPh h w s s1 [(g1,qO h.ptr t (.slice ad nl c) m1 m2)]) _ (by kernel_rfl) (by kernel_rfl) (by kernel_rfl)
   (fun vs=>by simp only [rgAct,rgPut,List.setIfInBounds_toArray,List.set_cons_zero,List.set_cons_succ]; exact rfl)
   (by simp only [List.getD_cons_zero,List.getD_cons_succ]; exact rfl) H0.out ?_ ?_
  ·refine ⟨?_,?_,?_,?_,?_,?_,?_,?_,trivial⟩
   ·intro vs p w1 hA hP hq
    exact rg_faQ0 rfl rfl rfl ⟨rfl,hP⟩
   ·intro vs p w1 hA hP hq
    obtain ⟨e0,_⟩:=hA
    have e0:vs 0 = .pointer (some ⟨g1,0,none⟩):=e0
    exact rg_loadQ rfl rfl e0 (cellQ (q:=h.ptr) (t:=t) (v:=.slice ad nl c) (a:=m1) (b:=m2) (PpPh.row hP (by simp))).1 ⟨rfl,hP⟩
   ·intro vs p w1 hA hP hq
    exact rg_loadQq rfl rfl rfl (PpPh.row (o:=qO h.ptr t (.slice ad nl c) m1 m2) hP (by simp)) ⟨rfl,hP⟩
   ·intro vs p w1 hA hP hq
    exact rg_faQ3 rfl rfl rfl ⟨rfl,hP⟩
   ·intro vs p w1 hA hP hq
    obtain ⟨e3,_⟩:=hA
    have e3:vs 3 = .pointer (some ⟨g1,3,none⟩):=e3
    exact rg_idx20 rfl rfl e3 ⟨rfl,hP⟩
   ·intro vs p w1 hA hP hq
    obtain ⟨_,e4,_⟩:=hA
    have e4:vs 4 = .pointer (some ⟨g1,3,none⟩):=e4
    exact rg_loadI rfl rfl e4 (cellQ (q:=h.ptr) (t:=t) (v:=.slice ad nl c) (a:=m1) (b:=m2) (PpPh.row hP (by simp))).2.2.2.1 ⟨rfl,hP⟩
   ·intro vs p w1 hA hP hq
    obtain ⟨e2,_,_,e5,_⟩:=hA
    have e2:vs 2 = .agg (qL h.ptr t (.slice ad nl c) m1 m2):=e2
    have e5:vs 5 = .int .i64 m1:=e5
    have hp:=hq 0 rfl
    subst hp
    refine rg_fn rfl rfl rfl (by kernel_rfl) (show [vs 2,vs 5]=_ from by rw [e2,e5]) (Calls.mono (HAT.out _ _ hP) ?_)
    rintro e w2 ⟨rfl,hP2⟩
    exact ⟨_,rfl,rfl,hP2⟩
   ·intro vs p w1 hA hP hq
    obtain ⟨_,e1,_,_,_,_,e6,_⟩:=hA
    have e1:vs 1 = .pointer h.ptr:=e1
    have e6:vs 6 = .string k1:=e6
    have hp:=hq 1 rfl
    subst hp
    refine rg_fn rfl rfl rfl (by kernel_rfl) (show [vs 1,vs 6]=_ from by rw [e1,e6]) (Calls.mono (HDL.out _ _ hP) ?_)
    rintro e w2 ⟨rfl,hP2⟩
    exact ⟨_,rfl,rfl,hP2⟩
  ·intro W hW
   have hV:HV h w s1 [(g1,qO h.ptr t (.slice ad nl c) m1 m2)] W:=hW
   obtain ⟨c0,c1,c2',c3,c4⟩:=cellQ (q:=h.ptr) (t:=t) (v:=.slice ad nl c) (a:=m1) (b:=m2) (hV.row (g:=g1) (by simp))
   have HV4:=Lib.hid hV
   clear hV hW
   go_wp2_with fail
   refine Calls.mono (HTN.out _ _ HV4.out) ?_
   rintro e w5 ⟨rfl,hV5⟩
   have HR:Hid (QOn w h rS w5):=HV.done hV5
   clear hV5 HV4 HTN c0 c1 c2' c3 c4
   go_wp2_with fail
   exact bodyPost_ret_by (results_tmp2 rfl _ _ _) rfl ⟨⟨_,_,rfl⟩,HR.out⟩
end Go.Proofs.YtnkilceibkkjlaaGreat
