/- What is proved here: alloc.Cut, over a store behind a handle. Conditions: ints below 2^63, words below 2^64, sizes. -/
import Derived.Test.YtnkilceibkkjlaaGreatILeast
import Derived.Test.YtnkilceibkkjlaaGreatIHoldB
set_option maxRecDepth 100000
set_option maxHeartbeats 16000000
namespace Go.Proofs.YtnkilceibkkjlaaGreat
open Go.RowKit
def ctC (f:W4):Bool:=decide (f=(0,0,0,0)) || !decide (uCmp f oneW≤0)
def ctE (s:St) (x:I4) (f:W4):Int:=if ctC f then 2 else lessE' (s.amt (aAll x)) (puW (cur s x) f)
def ctS1 (s:St) (x:I4) (f:W4):St:=s.setAmt (aAll x) (subW (s.amt (aAll x)) (puW (cur s x) f))
def ctS2 (s:St) (x:I4) (f:W4):St:=(ctS1 s x f).setAmt (aKey 29 x) (lessV (cur s x) (puW (cur s x) f))
def ctS3 (s:St) (x:I4) (f:W4):St:=if (pend (ctS2 s x f) x).1=2 then (ctS2 s x f).setAmt (aKey 31 x) (lessV (pend (ctS2 s x f) x).2.1 (puW (pend (ctS2 s x f) x).2.1 f)) else ctS2 s x f
def ctW (s:St) (x:I4) (f:W4):W4:=if ctE s x f=0 then puW (cur s x) f else (0,0,0,0)
def ctSt (s:St) (x:I4) (f:W4):St:=if ctE s x f=0 then ctS3 s x f else s
def SqPh (h:Hand) (w:World) (s s2:St) (rs:List (Nat × Obj)):Nat→World→Prop
 | 0,W=>HV h w s rs W
 | _+1,W=>HV h w s2 rs W
theorem SqPh.row {h:Hand} {w W:World} {s s2:St} {rs:List (Nat × Obj)} {p:Nat} (hP:SqPh h w s s2 rs p W) {g:Nat} {o:Obj} (hm:(g,o)∈rs):W.heap[g]? = some o:=by
 match p,hP with
 | 0,hP=>exact QV.row (rs:=rs) hP hm
 | _+1,hP=>exact QV.row (rs:=rs) hP hm
theorem SqPh.below {h:Hand} {w W W':World} {s s2:St} {rs:List (Nat × Obj)} {p:Nat} (hP:SqPh h w s s2 rs p W) (hb:Below W.heap.size W W'):SqPh h w s s2 rs p W':=by
 match p,hP with
 | 0,hP=>exact QV.below (rs:=rs) hP hb
 | _+1,hP=>exact QV.below (rs:=rs) hP hb
abbrev aO (x:I4):Obj:=.cells (idL x) 34
theorem HV.csub {h:Hand} {w W:World} {s:St} {rs:List (Nat × Obj)} {f:Nat} (hq:HV h w s rs W) (hf:s.Fit f) (hm:f < 10000000000) (k:ByteArray) {y:W4} (hy:y.Ok):Calls Tryz.prog 88 #[.pointer h.ptr,.string k,uV y] W fun e W'=>e = .returned (.int .i64 (lessE' (s.amt k) y))∧HV h w (h.subSt s k y) rs W' :=
 QV.call hq fun L' h1=>cSub_q W ⟨h.ptr,h.on,L'⟩ s f k y hy h1 hf hm
theorem QV.end4 {h:Hand} {w W:World} {s:St} {rs:List (Nat × Obj)} (hV:HV h w s rs W) {g:Nat} {y:W4} (hm:(g,uO y)∈rs) (r:W4):((((W.setCell ⟨g,0,none⟩ (.int .u64 r.1)).setCell ⟨g,1,none⟩ (.int .u64 r.2.1)).setCell ⟨g,2,none⟩ (.int .u64 r.2.2.1)).setCell ⟨g,3,none⟩ (.int .u64 r.2.2.2)).heap[g]? = some (.cells (uL r) 24 (0,0))∧QOn w h s ((((W.setCell ⟨g,0,none⟩ (.int .u64 r.1)).setCell ⟨g,1,none⟩ (.int .u64 r.2.1)).setCell ⟨g,2,none⟩ (.int .u64 r.2.2.1)).setCell ⟨g,3,none⟩ (.int .u64 r.2.2.2)) :=
 ⟨Proofs.YtnkilceibkkjlaaGreat.put4 (hV.row hm) r,HV.done (QV.put4 hV r hm [] (by simp))⟩
theorem pend_ok (s:St) (x:I4):(pend s x).2.1.Ok:=by
 unfold pend pendOf
 split
 ·exact toAmt_ok _
 ·exact u0_ok
theorem acut_q (w:World) (h:Hand) (s:St) (f0:Nat) (x:I4) (f:W4) (hon:h.on=true) (hx:x.Ok) (hfo:f.Ok) (hq:QSt w h s) (hf:s.Fit f0) (hm:f0 < 100000000) :
  Calls Tryz.prog 25 #[.pointer h.ptr,idV x,uV f] w fun e w'=>e = .returned (.tuple #[uV (ctW s x f),.int .i64 (ctE s x f)])∧QOn w h (ctSt s x f) w':=by
 have hB:=(((HV.start hq).alloc (aO x)).alloc (uO f)).alloc zO
 simp only [World.size_alloc] at hB
 have hcu:(cur s x).Ok:=toAmt_ok _
 have hpuo:=puW_ok (cur s x) f
 have hst:∀ s1 s2:St,h.st s1 s2=s2:=fun s1 s2=>by unfold Hand.st; rw [hon]; rfl
 have HGD:Hid (∀ rs W,HV h w s rs W→Calls Tryz.prog 69 #[uV f] W fun e w'=>e = .returned (.bool (decide (uCmp f oneW≤0)))∧HV h w s rs w'):=fun rs W hV=>hV.reads fun L' h1=>wgood_any f hfo W
 have HCU:Hid (∀ rs W,HV h w s rs W→Calls Tryz.prog 18 #[.pointer h.ptr,idV x] W fun e w'=>e = .returned (uV (cur s x))∧HV h w s rs w'):=fun rs W hV=>hV.reads fun L' h1=>current_any W h.ptr s x hx (h1.read hf (by omega))
 have HPU:Hid (∀ rs W,HV h w s rs W→Calls Tryz.prog 87 #[uV (cur s x),uV f] W fun e w'=>e = .returned (.tuple #[uV (puW (cur s x) f),.bool (puB (cur s x) f)])∧HV h w s rs w'):=fun rs W hV=>hV.reads fun L' h1=>partUp_any _ f hcu hfo W
 have HAL:Hid (∀ W,Calls Tryz.prog 82 #[idV x] W fun e w'=>e = .returned (.string (aAll x))∧Below W.heap.size W w'):=fun W=>aall_any x hx W
 have HSB:Hid (∀ rs W,HV h w s rs W→Calls Tryz.prog 88 #[.pointer h.ptr,.string (aAll x),uV (puW (cur s x) f)] W fun e w'=>e = .returned (.int .i64 (lessE' (s.amt (aAll x)) (puW (cur s x) f)))∧HV h w (h.subSt s (aAll x) (puW (cur s x) f)) rs w'):=fun rs W hV=>hV.csub hf (by omega) _ hpuo
 have hf1:(ctS1 s x f).Fit (f0+2):=hf.setAmt _ _
 have hf2:(ctS2 s x f).Fit (f0+4):=hf1.setAmt _ _
 have hz1:(ctS1 s x f).size < 1000000000000:=Nat.lt_of_le_of_lt hf1.size (by omega)
 have hz2:(ctS2 s x f).size < 1000000000000:=Nat.lt_of_le_of_lt hf2.size (by omega)
 have HK:Hid (∀ t:Nat,1≤t→t≤255→∀ W,Calls Tryz.prog 65 #[idV x,.int .i64 t] W fun e w'=>e = .returned (.string (aKey t x))∧Below W.heap.size W w'):=fun t h1 h2 W=>akey_any t h1 h2 x hx W
 have HK29:Hid (∀ W,Calls Tryz.prog 65 #[idV x,.int .i64 29] W fun e w'=>e = .returned (.string (aKey 29 x))∧Below W.heap.size W w'):=fun W=>HK.out 29 (by decide) (by decide) W
 have HK31:Hid (∀ W,Calls Tryz.prog 65 #[idV x,.int .i64 31] W fun e w'=>e = .returned (.string (aKey 31 x))∧Below W.heap.size W w'):=fun W=>HK.out 31 (by decide) (by decide) W
 have HLS:Hid (∀ W,Calls Tryz.prog 80 #[uV (cur s x),uV (puW (cur s x) f)] W fun e w'=>e = .returned (uV (lessV (cur s x) (puW (cur s x) f)))∧Below W.heap.size W w'):=fun W=>least_any _ _ hcu hpuo W
 have HSA:Hid (∀ rs W,HV h w (ctS1 s x f) rs W→Calls Tryz.prog 81 #[.pointer h.ptr,.string (aKey 29 x),uV (lessV (cur s x) (puW (cur s x) f))] W fun e w'=>e = .returned (.tuple #[])∧HV h w (ctS2 s x f) rs w'):=fun rs W hV=>by
  have:=hV.cset hz1 (aKey 29 x) (lessV (cur s x) (puW (cur s x) f))
  rw [hst] at this
  exact this
 have hpo:=pend_ok (ctS2 s x f) x
 have hlaw2:ctC f=true→ctE s x f=2∧ctW s x f=(0,0,0,0)∧ctSt s x f=s:=fun hc=>by
  have he:ctE s x f=2:=by unfold ctE; rw [if_pos hc]
  unfold ctW ctSt
  rw [he,if_neg (by decide),if_neg (by decide)]
  exact ⟨rfl,rfl,rfl⟩
 have hlaw3:ctC f=false→ctE s x f=lessE' (s.amt (aAll x)) (puW (cur s x) f)∧(lessE' (s.amt (aAll x)) (puW (cur s x) f)≠0→ctW s x f=(0,0,0,0)∧ctSt s x f=s∧h.subSt s (aAll x) (puW (cur s x) f)=s)∧(lessE' (s.amt (aAll x)) (puW (cur s x) f)=0→ctW s x f=puW (cur s x) f∧ctSt s x f=ctS3 s x f∧h.subSt s (aAll x) (puW (cur s x) f)=ctS1 s x f):=fun hc=>by
  have he:ctE s x f=lessE' (s.amt (aAll x)) (puW (cur s x) f):=by unfold ctE; rw [if_neg (by rw [hc]; decide)]
  unfold ctW ctSt Hand.subSt
  rw [he]
  refine ⟨rfl,fun h1 => ?_,fun h1 => ?_⟩
  ·rw [if_neg h1,if_neg h1,if_neg h1]; exact ⟨rfl,rfl,rfl⟩
  ·rw [if_pos h1,if_pos h1,if_pos h1,hst]; exact ⟨rfl,rfl,rfl⟩
 have HPD:Hid (∀ rs W,HV h w (ctS2 s x f) rs W→Calls Tryz.prog 20 #[.pointer h.ptr,idV x] W fun e w'=>e = .returned (.tuple #[.int .i64 (pend (ctS2 s x f) x).1,uV (pend (ctS2 s x f) x).2.1,.int .i64 (pend (ctS2 s x f) x).2.2])∧HV h w (ctS2 s x f) rs w'):=fun rs W hV=>hV.reads fun L' h1=>pending_any W h.ptr _ x hx (h1.read hf2 (by omega))
 have HP2:Hid (∀ rs W,HV h w (ctS2 s x f) rs W→Calls Tryz.prog 87 #[uV (pend (ctS2 s x f) x).2.1,uV f] W fun e w'=>e = .returned (.tuple #[uV (puW (pend (ctS2 s x f) x).2.1 f),.bool (puB (pend (ctS2 s x f) x).2.1 f)])∧HV h w (ctS2 s x f) rs w'):=fun rs W hV=>hV.reads fun L' h1=>partUp_any _ f hpo hfo W
 have HLS2:Hid (∀ W,Calls Tryz.prog 80 #[uV (pend (ctS2 s x f) x).2.1,uV (puW (pend (ctS2 s x f) x).2.1 f)] W fun e w'=>e = .returned (uV (lessV (pend (ctS2 s x f) x).2.1 (puW (pend (ctS2 s x f) x).2.1 f)))∧Below W.heap.size W w'):=fun W=>least_any _ _ hpo (puW_ok _ _) W
 have HSA2:Hid (∀ rs W,HV h w (ctS2 s x f) rs W→Calls Tryz.prog 81 #[.pointer h.ptr,.string (aKey 31 x),uV (lessV (pend (ctS2 s x f) x).2.1 (puW (pend (ctS2 s x f) x).2.1 f))] W fun e w'=>e = .returned (.tuple #[])∧HV h w ((ctS2 s x f).setAmt (aKey 31 x) (lessV (pend (ctS2 s x f) x).2.1 (puW (pend (ctS2 s x f) x).2.1 f))) rs w'):=fun rs W hV=>by
  have:=hV.cset hz2 (aKey 31 x) (lessV (pend (ctS2 s x f) x).2.1 (puW (pend (ctS2 s x f) x).2.1 f))
  rw [hst] at this
  exact this
 have HS3:Hid (((pend (ctS2 s x f) x).1=2→ctS3 s x f=(ctS2 s x f).setAmt (aKey 31 x) (lessV (pend (ctS2 s x f) x).2.1 (puW (pend (ctS2 s x f) x).2.1 f)))∧((pend (ctS2 s x f) x).1≠2→ctS3 s x f=ctS2 s x f)):=by
  unfold ctS3
  exact ⟨fun h=>by rw [if_pos h],fun h=>by rw [if_neg h]⟩
 have HLW2:=Lib.hid hlaw2
 have HLW3:=Lib.hid hlaw3
 have HB:=Lib.hid hB
 have HCC:Hid (ctC f=(decide (f=(0,0,0,0)) || !decide (uCmp f oneW≤0))):=rfl
 clear hlaw2 hlaw3 hB hcu hpuo hst hf1 hf2 hz1 hz2 hpo hq hf hx hfo hm hon HK
 generalize ctE s x f=rE at *
 generalize ctW s x f=rW at *
 generalize ctSt s x f=rS at *
 generalize ctS3 s x f=s3 at *
 generalize (ctS2 s x f).setAmt (aKey 31 x) (lessV (pend (ctS2 s x f) x).2.1 (puW (pend (ctS2 s x f) x).2.1 f))=s4 at *
 generalize lessV (pend (ctS2 s x f) x).2.1 (puW (pend (ctS2 s x f) x).2.1 f)=lv2 at *
 generalize puW (pend (ctS2 s x f) x).2.1 f=pq at *
 generalize puB (pend (ctS2 s x f) x).2.1 f=pqb at *
 generalize (pend (ctS2 s x f) x).2.2=bb at *
 generalize (pend (ctS2 s x f) x).2.1=pv at *
 generalize (pend (ctS2 s x f) x).1=wy at *
 generalize ctS2 s x f=s2 at *
 generalize ctS1 s x f=s1 at *
 generalize lessV (cur s x) (puW (cur s x) f)=lv at *
 generalize lessE' (s.amt (aAll x)) (puW (cur s x) f)=e0 at *
 generalize h.subSt s (aAll x) (puW (cur s x) f)=sS at *
 generalize puW (cur s x) f=pu at *
 generalize puB (cur s x) f=pub at *
 generalize cur s x=cu at *
 generalize aAll x=kA at *
 generalize aKey 29 x=k29 at *
 generalize aKey 31 x=k31 at *
 generalize ctC f=cc at *
 have HEQ:Hid (∀ w,(Op.equalIn 10000 24 (.agg #[.int .u64 f.1,.int .u64 f.2.1,.int .u64 f.2.2.1,.int .u64 f.2.2.2]) (.agg #[.int .u64 0,.int .u64 0,.int .u64 0,.int .u64 0])).run Tryz.prog w = .ok (decide (f=(0,0,0,0))) w):=fun w=>eqU f (0,0,0,0) w
 have hq0:Program.eqGuardType Tryz.prog Tryz.prog.depth 24=false:=by kernel_rfl
 generalize hgA:decide (uCmp f oneW≤0)=gd at *
 by_cases hf0:f=(0,0,0,0)
 ·have hE:=HEQ.out
  rw [decide_eq_true hf0] at hE HCC
  obtain ⟨r1,r2,r3⟩:=HLW2.out (by rw [HCC.out]; rfl)
  have HR3:=Lib.hid (And.intro r1 (And.intro r2 r3))
  clear r1 r2 r3 HLW2 HLW3 hf0 HEQ
  go_enter Tryz.func25,Tryz.ntmps25
  go_upto_region 1 with fail
  generalize ((w.alloc (aO x)).alloc (uO f)).alloc zO=w1 at *
  obtain ⟨f0',f1,f2,f3,_⟩:=row4 (HB.out.row (g:=w.heap.size+1) (o:=uO f) (by simp))
  obtain ⟨z0,z1,z2,z3,zf⟩:=row4 (x:=(0,0,0,0)) (HB.out.row (g:=w.heap.size+1+1) (o:=zO) (by simp))
  have HF:=Lib.hid (HB.out.end4 (g:=w.heap.size+1+1) (y:=(0,0,0,0)) (by simp) (0,0,0,0))
  go_wp2_with fail
  refine bodyPost_ret (results_cell_row2 rfl _ _ (w.heap.size+1+1) 24 (uL (0,0,0,0)) (0,0) _ rfl HF.out.1 Tryz.underlying24 rfl (by kernel_rfl)) rfl ?_
  exact ⟨by rw [HR3.out.1,HR3.out.2.1]; rfl,by rw [HR3.out.2.2]; exact HF.out.2⟩
 ·have hE:=HEQ.out
  rw [decide_eq_false hf0] at hE HCC
  cases gd with
  | false =>
   obtain ⟨r1,r2,r3⟩:=HLW2.out (by rw [HCC.out]; rfl)
   have HR3:=Lib.hid (And.intro r1 (And.intro r2 r3))
   clear r1 r2 r3 HLW2 HLW3 hf0 HEQ hgA
   go_enter Tryz.func25,Tryz.ntmps25
   go_upto_region 1 with fail
   generalize ((w.alloc (aO x)).alloc (uO f)).alloc zO=w1 at *
   obtain ⟨f0',f1,f2,f3,_⟩:=row4 (HB.out.row (g:=w.heap.size+1) (o:=uO f) (by simp))
   go_wp2_with fail
   refine Calls.mono (HGD.out _ _ HB.out) ?_
   rintro e w2 ⟨rfl,hB2⟩
   obtain ⟨z0,z1,z2,z3,zf⟩:=row4 (x:=(0,0,0,0)) (hB2.row (g:=w.heap.size+1+1) (o:=zO) (by simp))
   have HF:=Lib.hid (hB2.end4 (g:=w.heap.size+1+1) (y:=(0,0,0,0)) (by simp) (0,0,0,0))
   clear HGD hB2 HB f0' f1 f2 f3
   go_wp2_with fail
   refine bodyPost_ret (results_cell_row2 rfl _ _ (w.heap.size+1+1) 24 (uL (0,0,0,0)) (0,0) _ rfl HF.out.1 Tryz.underlying24 rfl (by kernel_rfl)) rfl ?_
   exact ⟨by rw [HR3.out.1,HR3.out.2.1]; rfl,by rw [HR3.out.2.2]; exact HF.out.2⟩
  | true =>
   obtain ⟨r1,r2,r3⟩:=HLW3.out (by rw [HCC.out]; rfl)
   have HR3:=Lib.hid (And.intro r1 (And.intro r2 r3))
   clear r1 r2 r3 HLW2 HLW3 hf0 HEQ hgA
   go_enter Tryz.func25,Tryz.ntmps25
   go_upto_region 1 with fail
   generalize ((w.alloc (aO x)).alloc (uO f)).alloc zO=w1 at *
   obtain ⟨g,hg⟩:∃ g,g=w.heap.size:=⟨_,rfl⟩
   rw [← hg] at HB ⊢
   clear hg
   obtain ⟨f0',f1,f2,f3,_⟩:=row4 (HB.out.row (g:=g+1) (o:=uO f) (by simp))
   go_wp2_with fail
   refine Calls.mono (HGD.out _ _ HB.out) ?_
   rintro e w2 ⟨rfl,hB2⟩
   obtain ⟨i0,i1,i2,i3⟩:=idc_row (x:=x) (hB2.row (g:=g) (o:=aO x) (by simp))
   have HB2:=Lib.hid hB2
   clear HGD hB2 HB f0' f1 f2 f3
   go_wp2_with fail
   refine Calls.mono (HCU.out _ _ HB2.out) ?_
   rintro e w3 ⟨rfl,hB3⟩
   have HL8:=Lib.hid (lt_of_at (hB3.row (g:=g+1+1) (o:=zO) (by simp)))
   have hB4:=hB3.alloc (uO cu)
   clear HCU hB3 HB2 i0 i1 i2 i3
   go_upto_region 4 with fail
   generalize w3.alloc (uO cu)=w4 at *
   generalize w3.heap.size=g8 at *
   obtain ⟨f0',f1,f2,f3,_⟩:=row4 (hB4.row (g:=g+1) (o:=uO f) (by simp))
   obtain ⟨c0,c1,c2,c3,_⟩:=row4 (hB4.row (g:=g8) (o:=uO cu) (by simp))
   have HB4:=Lib.hid hB4
   clear hB4
   go_wp2_with fail
   refine Calls.mono (HPU.out _ _ HB4.out) ?_
   rintro e w5 ⟨rfl,hB5⟩
   have HL9:=Lib.hid (lt_of_at (hB5.row (g:=g8) (o:=uO cu) (by simp)))
   have hB6:=hB5.alloc (uO pu)
   clear HPU HB4 hB5 f0' f1 f2 f3 c0 c1 c2 c3
   go_upto_region 5 with fail
   generalize w5.alloc (uO pu)=w6 at *
   generalize w5.heap.size=g9 at *
   have H0:Hid (SqPh h w s sS [(g9,uO pu),(g8,uO cu),(g+1+1,zO),(g+1,uO f),(g,aO x)] 0 w6.drew):=hB6.drew
   clear hB6
   refine wp_region_const2 [[],[],[1],[],[0,1,2,3],[0,1,2,3,4]]
    [.pointer h.ptr,idV x,.string kA,uV pu,.int .i64 e0,.int .i64 e0]
    [4] (SqPh h w s sS [(g9,uO pu),(g8,uO cu),(g+1+1,zO),(g+1,uO f),(g,aO x)]) _ (by kernel_rfl) (by kernel_rfl) (by kernel_rfl)
    (fun vs=>by simp only [rgAct,rgPut,List.setIfInBounds_toArray,List.set_cons_zero,List.set_cons_succ]; exact rfl)
    (by simp only [List.getD_cons_zero,List.getD_cons_succ]; exact rfl) H0.out ?_ ?_
   ·refine ⟨?_,?_,?_,?_,?_,?_,trivial⟩
    ·intro vs p w1 hA hP hq
     exact rg_move rfl (.inl rfl) rfl ⟨rfl,hP⟩
    ·intro vs p w1 hA hP hq
     exact rg_loadId rfl rfl rfl (SqPh.row (g:=g) (o:=aO x) hP (by simp)) ⟨rfl,hP⟩
    ·intro vs p w1 hA hP hq
     obtain ⟨e1,_⟩:=hA
     have e1:vs 1=idV x:=e1
     refine rg_fn rfl rfl rfl (by kernel_rfl) (show [vs 1]=_ from by rw [e1]) (Calls.mono ((HAL.out w1).mono fun _ _ hh=>And.intro hh.1 (SqPh.below hP hh.2)) ?_)
     rintro e w2 ⟨rfl,hP2⟩
     exact ⟨_,rfl,rfl,hP2⟩
    ·intro vs p w1 hA hP hq
     exact rg_loadU rfl rfl rfl (SqPh.row (g:=g9) (o:=uO pu) hP (by simp)) ⟨rfl,hP⟩
    ·intro vs p w1 hA hP hq
     obtain ⟨e0,_,e2,e3,_⟩:=hA
     have e0:vs 0 = .pointer h.ptr:=e0
     have e2:vs 2 = .string kA:=e2
     have e3:vs 3=uV pu:=e3
     have hp:=hq 0 rfl
     subst hp
     refine rg_fn rfl rfl rfl (by kernel_rfl) (show [vs 0,vs 2,vs 3]=_ from by rw [e0,e2,e3]) (Calls.mono (HSB.out _ _ hP) ?_)
     rintro e w2 ⟨rfl,hP2⟩
     exact ⟨_,rfl,rfl,hP2⟩
    ·intro vs p w1 hA hP hq
     obtain ⟨_,_,_,_,e4,_⟩:=hA
     have e4:vs 4 = .int .i64 e0:=e4
     exact rg_move rfl (.inr rfl) e4 ⟨rfl,hP⟩
   ·intro W hW
    have HW:Hid (HV h w sS [(g9,uO pu),(g8,uO cu),(g+1+1,zO),(g+1,uO f),(g,aO x)] W):=hW
    clear hW
    by_cases he0:e0=0
    ·subst he0
     obtain ⟨q1,q2,q3⟩:=HR3.out.2.2 rfl
     rw [q3] at HW
     have HQ3:=Lib.hid (And.intro q1 q2)
     clear q1 q2 q3
     go_upto_region 8 with fail
     have H1:Hid (SqPh h w s1 s2 [(g9,uO pu),(g8,uO cu),(g+1+1,zO),(g+1,uO f),(g,aO x)] 0 W.drew):=HW.out.drew
     refine wp_region_const2 [[],[],[1],[],[],[1,2,3,4],[0,1,2,3,4,5]]
      [.pointer h.ptr,idV x,.string k29,uV cu,uV pu,uV lv,.tuple #[]]
      [6] (SqPh h w s1 s2 [(g9,uO pu),(g8,uO cu),(g+1+1,zO),(g+1,uO f),(g,aO x)]) _ (by kernel_rfl) (by kernel_rfl) (by kernel_rfl)
      (fun vs=>by simp only [rgAct,rgPut,List.setIfInBounds_toArray,List.set_cons_zero,List.set_cons_succ]; exact rfl)
      (by simp only [List.getD_cons_zero,List.getD_cons_succ]; exact rfl) H1.out ?_ ?_
     ·refine ⟨?_,?_,?_,?_,?_,?_,?_,trivial⟩
      ·intro vs p w1 hA hP hq
       exact rg_move rfl (.inl rfl) rfl ⟨rfl,hP⟩
      ·intro vs p w1 hA hP hq
       exact rg_loadId rfl rfl rfl (SqPh.row (g:=g) (o:=aO x) hP (by simp)) ⟨rfl,hP⟩
      ·intro vs p w1 hA hP hq
       obtain ⟨e1,_⟩:=hA
       have e1:vs 1=idV x:=e1
       refine rg_fn rfl rfl rfl (by kernel_rfl) (show [vs 1,.int .i64 29]=_ from by rw [e1]) (Calls.mono ((HK29.out w1).mono fun _ _ hh=>And.intro hh.1 (SqPh.below hP hh.2)) ?_)
       rintro e w2 ⟨rfl,hP2⟩
       exact ⟨_,rfl,rfl,hP2⟩
      ·intro vs p w1 hA hP hq
       exact rg_loadU rfl rfl rfl (SqPh.row (g:=g8) (o:=uO cu) hP (by simp)) ⟨rfl,hP⟩
      ·intro vs p w1 hA hP hq
       exact rg_loadU rfl rfl rfl (SqPh.row (g:=g9) (o:=uO pu) hP (by simp)) ⟨rfl,hP⟩
      ·intro vs p w1 hA hP hq
       obtain ⟨_,_,e3,e4,_⟩:=hA
       have e3:vs 3=uV cu:=e3
       have e4:vs 4=uV pu:=e4
       refine rg_fn rfl rfl rfl (by kernel_rfl) (show [vs 3,vs 4]=_ from by rw [e3,e4]) (Calls.mono ((HLS.out w1).mono fun _ _ hh=>And.intro hh.1 (SqPh.below hP hh.2)) ?_)
       rintro e w2 ⟨rfl,hP2⟩
       exact ⟨_,rfl,rfl,hP2⟩
      ·intro vs p w1 hA hP hq
       obtain ⟨e0,_,e2,_,_,e5,_⟩:=hA
       have e0:vs 0 = .pointer h.ptr:=e0
       have e2:vs 2 = .string k29:=e2
       have e5:vs 5=uV lv:=e5
       have hp:=hq 0 rfl
       subst hp
       refine rg_fn rfl rfl rfl (by kernel_rfl) (show [vs 0,vs 2,vs 5]=_ from by rw [e0,e2,e5]) (Calls.mono (HSA.out _ _ hP) ?_)
       rintro e w2 ⟨rfl,hP2⟩
       exact ⟨_,rfl,rfl,hP2⟩
     ·intro W8 hW8
      have hV8:HV h w s2 [(g9,uO pu),(g8,uO cu),(g+1+1,zO),(g+1,uO f),(g,aO x)] W8:=hW8
      obtain ⟨i0,i1,i2,i3⟩:=idc_row (x:=x) (hV8.row (g:=g) (o:=aO x) (by simp))
      have HV8:=Lib.hid hV8
      clear hW8 hV8 HW H1
      go_wp2_with fail
      refine Calls.mono (HPD.out _ _ HV8.out) ?_
      rintro e w9 ⟨rfl,hV9⟩
      have hV10:=hV9.alloc (uO pv)
      clear HV8 hV9 i0 i1 i2 i3
      go_upto_region 10 with fail
      generalize w9.alloc (uO pv)=w10 at *
      generalize w9.heap.size=g13 at *
      have HV10:Hid (HV h w s2 [(g13,uO pv),(g9,uO pu),(g8,uO cu),(g+1+1,zO),(g+1,uO f),(g,aO x)] w10):=hV10
      clear hV10
      by_cases hwy:wy=2
      ·have hb1:((wy:Int) == 2)=true:=by simp [hwy]
       have hb2:(wy == 2)=true:=by simp [hwy]
       have hs3:=HS3.out.1 hwy
       have HS3e:=Lib.hid hs3
       subst hwy
       obtain ⟨f0',f1,f2,f3,_⟩:=row4 (HV10.out.row (g:=g+1) (o:=uO f) (by simp))
       obtain ⟨v0,v1,v2,v3,_⟩:=row4 (HV10.out.row (g:=g13) (o:=uO pv) (by simp))
       clear hs3 HS3
       go_wp2_with fail
       refine Calls.mono (HP2.out _ _ HV10.out) ?_
       rintro e w11 ⟨rfl,hV11⟩
       have hV12:=hV11.alloc (uO pq)
       clear HV10 hV11 f0' f1 f2 f3 v0 v1 v2 v3
       go_upto_region 12 with fail
       generalize w11.alloc (uO pq)=w12 at *
       generalize w11.heap.size=g15 at *
       have H2:Hid (SqPh h w s2 s4 [(g15,uO pq),(g13,uO pv),(g9,uO pu),(g8,uO cu),(g+1+1,zO),(g+1,uO f),(g,aO x)] 0 w12.drew):=hV12.drew
       clear hV12
       refine wp_region_const2 [[],[],[1],[],[],[1,2,3,4],[0,1,2,3,4,5]]
        [.pointer h.ptr,idV x,.string k31,uV pv,uV pq,uV lv2,.tuple #[]]
        [6] (SqPh h w s2 s4 [(g15,uO pq),(g13,uO pv),(g9,uO pu),(g8,uO cu),(g+1+1,zO),(g+1,uO f),(g,aO x)]) _ (by kernel_rfl) (by kernel_rfl) (by kernel_rfl)
        (fun vs=>by simp only [rgAct,rgPut,List.setIfInBounds_toArray,List.set_cons_zero,List.set_cons_succ]; exact rfl)
        (by simp only [List.getD_cons_zero,List.getD_cons_succ]; exact rfl) H2.out ?_ ?_
       ·refine ⟨?_,?_,?_,?_,?_,?_,?_,trivial⟩
        ·intro vs p w1 hA hP hq
         exact rg_move rfl (.inl rfl) rfl ⟨rfl,hP⟩
        ·intro vs p w1 hA hP hq
         exact rg_loadId rfl rfl rfl (SqPh.row (g:=g) (o:=aO x) hP (by simp)) ⟨rfl,hP⟩
        ·intro vs p w1 hA hP hq
         obtain ⟨e1,_⟩:=hA
         have e1:vs 1=idV x:=e1
         refine rg_fn rfl rfl rfl (by kernel_rfl) (show [vs 1,.int .i64 31]=_ from by rw [e1]) (Calls.mono ((HK31.out w1).mono fun _ _ hh=>And.intro hh.1 (SqPh.below hP hh.2)) ?_)
         rintro e w2 ⟨rfl,hP2⟩
         exact ⟨_,rfl,rfl,hP2⟩
        ·intro vs p w1 hA hP hq
         exact rg_loadU rfl rfl rfl (SqPh.row (g:=g13) (o:=uO pv) hP (by simp)) ⟨rfl,hP⟩
        ·intro vs p w1 hA hP hq
         exact rg_loadU rfl rfl rfl (SqPh.row (g:=g15) (o:=uO pq) hP (by simp)) ⟨rfl,hP⟩
        ·intro vs p w1 hA hP hq
         obtain ⟨_,_,e3,e4,_⟩:=hA
         have e3:vs 3=uV pv:=e3
         have e4:vs 4=uV pq:=e4
         refine rg_fn rfl rfl rfl (by kernel_rfl) (show [vs 3,vs 4]=_ from by rw [e3,e4]) (Calls.mono ((HLS2.out w1).mono fun _ _ hh=>And.intro hh.1 (SqPh.below hP hh.2)) ?_)
         rintro e w2 ⟨rfl,hP2⟩
         exact ⟨_,rfl,rfl,hP2⟩
        ·intro vs p w1 hA hP hq
         obtain ⟨e0,_,e2,_,_,e5,_⟩:=hA
         have e0:vs 0 = .pointer h.ptr:=e0
         have e2:vs 2 = .string k31:=e2
         have e5:vs 5=uV lv2:=e5
         have hp:=hq 0 rfl
         subst hp
         refine rg_fn rfl rfl rfl (by kernel_rfl) (show [vs 0,vs 2,vs 5]=_ from by rw [e0,e2,e5]) (Calls.mono (HSA2.out _ _ hP) ?_)
         rintro e w2 ⟨rfl,hP2⟩
         exact ⟨_,rfl,rfl,hP2⟩
       ·intro W13 hW13
        have hV13:HV h w s4 [(g15,uO pq),(g13,uO pv),(g9,uO pu),(g8,uO cu),(g+1+1,zO),(g+1,uO f),(g,aO x)] W13:=hW13
        obtain ⟨p0,p1,p2,p3,_⟩:=row4 (hV13.row (g:=g9) (o:=uO pu) (by simp))
        obtain ⟨z0,z1,z2,z3,zf⟩:=row4 (x:=(0,0,0,0)) (hV13.row (g:=g+1+1) (o:=zO) (by simp))
        have HF:=Lib.hid (hV13.end4 (g:=g+1+1) (y:=(0,0,0,0)) (by simp) pu)
        clear hV13 hW13
        go_wp2_with fail
        refine bodyPost_ret (results_cell_row2 rfl _ _ (g+1+1) 24 (uL pu) (0,0) _ rfl HF.out.1 Tryz.underlying24 rfl (by kernel_rfl)) rfl ?_
        exact ⟨by rw [HR3.out.1,HQ3.out.1]; rfl,by rw [HQ3.out.2,HS3e.out]; exact HF.out.2⟩
      ·have hb1:((wy:Int) == 2)=false:=by simpa using (by omega:¬ (wy:Int)=2)
       have hb2:(wy == 2)=false:=by simpa using hwy
       have hs3:=HS3.out.2 hwy
       have HS3e:=Lib.hid hs3
       have hV13:=HV10.out
       clear hs3 HS3
       obtain ⟨p0,p1,p2,p3,_⟩:=row4 (hV13.row (g:=g9) (o:=uO pu) (by simp))
       obtain ⟨z0,z1,z2,z3,zf⟩:=row4 (x:=(0,0,0,0)) (hV13.row (g:=g+1+1) (o:=zO) (by simp))
       have HF:=Lib.hid (hV13.end4 (g:=g+1+1) (y:=(0,0,0,0)) (by simp) pu)
       clear hV13 HV10
       go_wp2_with fail
       refine bodyPost_ret (results_cell_row2 rfl _ _ (g+1+1) 24 (uL pu) (0,0) _ rfl HF.out.1 Tryz.underlying24 rfl (by kernel_rfl)) rfl ?_
       exact ⟨by rw [HR3.out.1,HQ3.out.1]; rfl,by rw [HQ3.out.2,HS3e.out]; exact HF.out.2⟩
    ·have hbe:(e0 == 0)=false:=by simpa using he0
     obtain ⟨z0,z1,z2,z3,zf⟩:=row4 (x:=(0,0,0,0)) (HW.out.row (g:=g+1+1) (o:=zO) (by simp))
     have HF:=Lib.hid (HW.out.end4 (g:=g+1+1) (y:=(0,0,0,0)) (by simp) (0,0,0,0))
     obtain ⟨q1,q2,q3⟩:=HR3.out.2.1 he0
     have HQ3:=Lib.hid (And.intro q1 (And.intro q2 q3))
     clear q1 q2 q3
     go_wp2_with fail
     refine bodyPost_ret (results_cell_row2 rfl _ _ (g+1+1) 24 (uL (0,0,0,0)) (0,0) _ rfl HF.out.1 Tryz.underlying24 rfl (by kernel_rfl)) rfl ?_
     exact ⟨by rw [HR3.out.1,HQ3.out.1]; rfl,by rw [HQ3.out.2.1,← HQ3.out.2.2]; exact HF.out.2⟩
end Go.Proofs.YtnkilceibkkjlaaGreat
