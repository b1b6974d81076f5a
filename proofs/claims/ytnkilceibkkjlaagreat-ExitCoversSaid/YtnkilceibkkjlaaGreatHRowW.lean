/- What is proved here: history of the program: from a block on, an amount (Push). Conditions: sizes, a key that is there, a block that may be one. a checkpoint read back is what was written. Conditions: a block below 2^63, words below 2^64. cell.SetRow and Next, and the reference's own: a row is written; a number is one more. Their conditions: numbers from nought to 2^63, sizes. -/
import Derived.Test.YtnkilceibkkjlaaGreatHHistW
import Derived.Test.YtnkilceibkkjlaaGreatHExA
import Derived.Test.YtnkilceibkkjlaaGreatHCell
set_option maxRecDepth 100000
set_option maxHeartbeats 16000000
namespace Go.Proofs.YtnkilceibkkjlaaGreat
open Go.RowKit
abbrev pbx (g:Nat) (q:Option Addr) (t:Int) (y:Value) (b:Int) (a:W4):List (Nat × Obj):=[(g+1+1+1+1,uO a),(g+1+1+1,.cells #[.int .i64 b] 3),(g+1+1,.cells #[y] 75),(g+1,.cells #[.int .i64 t] 3),(g,.cells #[.pointer q] 39)]
theorem cell1 {w:World} {g:Nat} {v:Value} {T:TypeId} (h:w.heap[g]? = some (.cells #[v] T (0,0))):w.cell? ⟨g,0,none⟩=some v:=by rw [cell_of_row _ _ _ _ _ _ h]; rfl
theorem push1_q (w W:World) (h:Hand) (s:St) (rs:List (Nat × Obj)) (g t:Nat) (ht1:1≤t) (ht2:t≤255) (y:Value) (l:List Int) (i:Int) (b:Nat) (a:W4) (hon:h.on=true) (hI:∀ W L',Step w h.L W L'→IntsAt W y l) (hl:IdOk l) (hn:I63 i) (hb63:b < 9223372036854775808) (hz:s.size < 1000000000000) (hk:keyL t (l ++ [i])≠emptyB)
  (hsub:∀ x,x∈pbx g h.ptr t y b a→x∈rs) (hV:HV h w s rs W) :
  Calls Tryz.prog 218 #[.int .i64 i,.pointer (some ⟨g,0,none⟩),.pointer (some ⟨g+1,0,none⟩),.pointer (some ⟨g+1+1,0,none⟩),.pointer (some ⟨g+1+1+1,0,none⟩),.pointer (some ⟨g+1+1+1+1,0,none⟩)] W fun e w'=>e = .returned (.int .i64 0)∧HV h w (s.set (keyL t (l ++ [i])) (ptB b a)) rs w':=by
 have HWR:Hid (Calls Tryz.prog 219 #[.pointer h.ptr,.int .i64 t,y,.int .i64 i,.agg (pL b a)] W fun e w'=>e = .returned (.tuple #[])∧HV h w (s.set (keyL t (l ++ [i])) (ptB b a)) rs w'):=by
  obtain ⟨L0,_,st,_⟩:=hV.on
  exact QV.call hV fun L' h1=>hwriteP_q W ⟨h.ptr,h.on,L'⟩ s t ht1 ht2 y l i b a hon (hI W L0 st) hl hn hb63 h1 hz hk
 have c0:=cell1 (hV.row (g:=g) (o:=.cells #[.pointer h.ptr] 39) (hsub _ (by simp)))
 have c1:=cell1 (hV.row (g:=g+1) (o:=.cells #[.int .i64 t] 3) (hsub _ (by simp)))
 have c2:=cell1 (hV.row (g:=g+1+1) (o:=.cells #[y] 75) (hsub _ (by simp)))
 have c3:=cell1 (hV.row (g:=g+1+1+1) (o:=.cells #[.int .i64 b] 3) (hsub _ (by simp)))
 obtain ⟨a0,a1,a2,a3,_⟩:=row4 (hV.row (g:=g+1+1+1+1) (o:=uO a) (hsub _ (by simp)))
 generalize s.set (keyL t (l ++ [i])) (ptB b a)=s2 at *
 clear hI hl hn hz hk hsub hV
 generalize ((t:Nat):Int)=tt at *
 go_enter Tryz.func218,Tryz.ntmps218
 go_wp2_with fail
 refine Calls.mono HWR.out ?_
 rintro e w2 ⟨rfl,hV2⟩
 have HV2:=Lib.hid hV2
 clear hV2 HWR
 go_wp2_with fail
 go_ret
 exact ⟨rfl,HV2.out⟩
theorem hmade_q (w:World) (h:Hand) (s:St) (hon:h.on=true) (hq:QSt w h s):Calls Tryz.prog 66 #[.pointer h.ptr] w fun e w'=>e = .returned (.bool true)∧Below w.heap.size w w':=by
 rcases hq with ⟨_,b,hp,hS⟩ | ⟨h0,_⟩
 ·rw [hp]
  exact (made_at w b true hS.cell0).mono fun e w' ⟨he,hw⟩=>⟨he,by subst hw; exact Below.refl _ _⟩
 ·rw [hon] at h0; cases h0
def St.hpL (s:St) (t:Nat) (l:List Int):Nat × W4:=hpt (s.val (keyL t (l ++ [((s.hlen t l:Nat):Int) - 1])))
def St.hnew (s:St) (t:Nat) (l:List Int) (b:Nat) (a:W4):St:=(s.setInt (keyL t l) (((s.hlen t l:Nat):Int)+1)).set (keyL t (l ++ [((s.hlen t l:Nat):Int)])) (ptB b a)
def hpuE (s:St) (t:Nat) (l:List Int) (b:Nat):Int:=if 0 < s.hlen t l∧b < (s.hpL t l).1 then 10 else 0
def hpuSt (s:St) (t:Nat) (l:List Int) (b:Nat) (a:W4):St:=if 0 < s.hlen t l then (if b < (s.hpL t l).1 then s else if b=(s.hpL t l).1 then s.set (keyL t (l ++ [((s.hlen t l:Nat):Int) - 1])) (ptB b a) else if a=(s.hpL t l).2 then s else s.hnew t l b a) else s.hnew t l b a
theorem kpos (t:Nat) {l:List Int} (hpos:∀ x∈l,0≤x) {i:Int} (hi:0≤i):keyL t (l ++ [i])≠emptyB:=keyL_some t fun x hx=>by
 rcases List.mem_append.1 hx with h | h
 ·exact hpos x h
 ·rw [List.mem_singleton] at h; subst h; exact hi
theorem idOk_snoc {w:World} {h:Hand} {s:St} {rs:List (Nat × Obj)} {W:World} (hV:HV h w s rs W):∃ L',Step w h.L W L':=by
 obtain ⟨L0,_,st,_⟩:=hV.on
 exact ⟨L0,st⟩
theorem hpush_q (w:World) (h:Hand) (s:St) (f t:Nat) (ht1:1≤t) (ht2:t≤255) (y:Value) (l:List Int) (b:Nat) (a:W4) (hon:h.on=true) (hI:∀ W L',Step w h.L W L'→IntsAt W y l) (hl:IdOk l) (hpos:∀ x∈l,0≤x) (hbM:b≤1099511627776) (hq:QSt w h s) (hf:s.Fit f) (hm:f < 1000000000) (hnm:s.hlen t l < 9223372036854775807) :
  Calls Tryz.prog 172 #[.pointer h.ptr,.int .i64 t,y,.int .i64 b,uV a] w fun e w'=>e = .returned (.int .i64 (hpuE s t l b))∧QOn w h (hpuSt s t l b a) w':=by
 have hB:=(((((HV.start hq).alloc (.cells #[.pointer h.ptr] 39)).alloc (.cells #[.int .i64 t] 3)).alloc (.cells #[y] 75)).alloc (.cells #[.int .i64 b] 3)).alloc (uO a)
 simp only [World.size_alloc] at hB
 have hmm:f < 100000000000:=by omega
 have hz:s.size < 1000000000000:=Nat.lt_of_le_of_lt hf.size (by omega)
 have hkk:keyL t l≠emptyB:=keyL_some t hpos
 have hn63:=int_lt63 s (keyL t l)
 have hnn:s.hlen t l < 9223372036854775808:=hn63
 have HKY:Hid (∀ rs W,HV h w s rs W→Calls Tryz.prog 90 #[.int .i64 t,y] W fun e w'=>e = .returned (.string (keyL t l))∧HV h w s rs w'):=fun rs W hV=>by
  obtain ⟨L0,st⟩:=idOk_snoc hV
  exact (key_any t ht1 ht2 y l W (hI W L0 st) (by have:=hl.len; omega) hl.lt).mono fun e w' ⟨he,hb⟩=>⟨he,QV.below hV hb⟩
 have HLN:Hid (∀ rs W,HV h w s rs W→Calls Tryz.prog 180 #[.pointer h.ptr,.int .i64 t,y] W fun e w'=>e = .returned (.int .i64 (s.hlen t l))∧HV h w s rs w'):=fun rs W hV=>by
  obtain ⟨L0,st⟩:=idOk_snoc hV
  exact hV.reads fun L' h1=>histLen_q W ⟨h.ptr,h.on,L'⟩ s f t ht1 ht2 y l (hI W L0 st) hl h1 hf hmm
 have HMD:Hid (∀ rs W,HV h w s rs W→Calls Tryz.prog 66 #[.pointer h.ptr] W fun e w'=>e = .returned (.bool true)∧HV h w s rs w'):=fun rs W hV=>hV.reads fun L' h1=>hmade_q W ⟨h.ptr,h.on,L'⟩ s hon h1
 have HRD:Hid (0 < s.hlen t l→∀ rs W,HV h w s rs W→Calls Tryz.prog 181 #[.pointer h.ptr,.int .i64 t,y,.int .i64 (((s.hlen t l:Nat):Int) - 1)] W fun e w'=>e = .returned (.agg (pL (s.hpL t l).1 (s.hpL t l).2))∧HV h w s rs w'):=fun h0 rs W hV=>by
  obtain ⟨L0,st⟩:=idOk_snoc hV
  exact hV.reads fun L' h1=>histRead_q W ⟨h.ptr,h.on,L'⟩ s f t ht1 ht2 y l (((s.hlen t l:Nat):Int) - 1) (hI W L0 st) hl (by show ((s.hlen t l:Nat):Int) - 1 < 9223372036854775808; omega) h1 hf hmm
 have HCA:Hid (0 < s.hlen t l→∀ rs W,(∀ x,x∈pbx w.heap.size h.ptr t y b a→x∈rs)→HV h w s rs W→Calls Tryz.prog 218 #[.int .i64 (((s.hlen t l:Nat):Int) - 1),.pointer (some ⟨w.heap.size,0,none⟩),.pointer (some ⟨w.heap.size+1,0,none⟩),.pointer (some ⟨w.heap.size+1+1,0,none⟩),.pointer (some ⟨w.heap.size+1+1+1,0,none⟩),.pointer (some ⟨w.heap.size+1+1+1+1,0,none⟩)] W fun e w'=>e = .returned (.int .i64 0)∧HV h w (s.set (keyL t (l ++ [((s.hlen t l:Nat):Int) - 1])) (ptB b a)) rs w'):=fun h0 rs W hsub hV =>
  push1_q w W h s rs w.heap.size t ht1 ht2 y l _ b a hon hI hl (by show ((s.hlen t l:Nat):Int) - 1 < 9223372036854775808; omega) (by omega) hz (kpos t hpos (by omega)) hsub hV
 have HSI:Hid (s.hlen t l < 9223372036854775807→∀ rs W,HV h w s rs W→Calls Tryz.prog 114 #[.pointer h.ptr,.string (keyL t l),.int .i64 (((s.hlen t l:Nat):Int)+1)] W fun e w'=>e = .returned (.tuple #[])∧HV h w (s.setInt (keyL t l) (((s.hlen t l:Nat):Int)+1)) rs w'):=fun h0 rs W hV=>QV.call hV fun L' h1=>hsetInt_q W ⟨h.ptr,h.on,L'⟩ s _ _ hon (by omega) h1 hz
 have hz1:(s.setInt (keyL t l) (((s.hlen t l:Nat):Int)+1)).size < 1000000000000:=Nat.lt_of_le_of_lt (hf.setInt _ _).size (by omega)
 have HCB:Hid (∀ rs W,(∀ x,x∈pbx w.heap.size h.ptr t y b a→x∈rs)→HV h w (s.setInt (keyL t l) (((s.hlen t l:Nat):Int)+1)) rs W→Calls Tryz.prog 218 #[.int .i64 ((s.hlen t l:Nat):Int),.pointer (some ⟨w.heap.size,0,none⟩),.pointer (some ⟨w.heap.size+1,0,none⟩),.pointer (some ⟨w.heap.size+1+1,0,none⟩),.pointer (some ⟨w.heap.size+1+1+1,0,none⟩),.pointer (some ⟨w.heap.size+1+1+1+1,0,none⟩)] W fun e w'=>e = .returned (.int .i64 0)∧HV h w (s.hnew t l b a) rs w'):=fun rs W hsub hV =>
  push1_q w W h _ rs w.heap.size t ht1 ht2 y l _ b a hon hI hl (by show ((s.hlen t l:Nat):Int) < 9223372036854775808; omega) (by omega) hz1 (kpos t hpos (by omega)) hsub hV
 have hE0:hpuE s t l b=(if 0 < s.hlen t l∧b < (s.hpL t l).1 then 10 else 0):=rfl
 have hS0:hpuSt s t l b a=(if 0 < s.hlen t l then (if b < (s.hpL t l).1 then s else if b=(s.hpL t l).1 then s.set (keyL t (l ++ [((s.hlen t l:Nat):Int) - 1])) (ptB b a) else if a=(s.hpL t l).2 then s else s.hnew t l b a) else s.hnew t l b a):=rfl
 have HLAW:=Lib.hid (And.intro hE0 hS0)
 have hys:∃ ya yn yk,y = .slice ya yn yk:=by
  rcases hI w h.L (Step.refl _ _) with ⟨e,_⟩ | ⟨a,c,e,_⟩
  ·exact ⟨_,_,_,e⟩
  ·exact ⟨_,_,_,e⟩
 obtain ⟨ya,yn,yk,hy⟩:=hys
 subst hy
 have HB:=Lib.hid hB
 obtain ⟨n1,hn1⟩:∃ n1:Int,n1=((s.hlen t l:Nat):Int) - 1:=⟨_,rfl⟩
 obtain ⟨n2,hn2⟩:∃ n2:Int,n2=((s.hlen t l:Nat):Int)+1:=⟨_,rfl⟩
 have hw1:0 < s.hlen t l→IntKind.i64.wrap (((s.hlen t l:Nat):Int) - 1)=n1:=fun h=>by rw [hn1,IntKind.wrap_i64]; omega
 have hw1':0 < s.hlen t l→wrap64 (((s.hlen t l:Nat):Int) - 1)=n1:=fun h=>by rw [hn1]; unfold wrap64; omega
 have hw2:IntKind.i64.wrap (((s.hlen t l:Nat):Int)+1)=n2:=by rw [hn2,IntKind.wrap_i64]; omega
 have hw2':wrap64 (((s.hlen t l:Nat):Int)+1)=n2:=by rw [hn2]; unfold wrap64; omega
 have hb0:((b:Int) < 0)=False:=by simp
 have hbm:((1099511627776:Int) < (b:Int))=False:=by simp; omega
 clear hE0 hS0
 rw [← hn1] at HRD HCA HLAW
 rw [← hn2] at HSI HCB
 generalize hpuE s t l b=rE at *
 generalize hpuSt s t l b a=rS at *
 generalize s.set (keyL t (l ++ [n1])) (ptB b a)=sA at *
 generalize s.setInt (keyL t l) n2=sB at *
 generalize s.hnew t l b a=sC at *
 obtain ⟨⟨p1,p2⟩,hp⟩:∃ p,p=s.hpL t l:=⟨_,rfl⟩
 rw [← hp] at HRD HLAW
 generalize s.hlen t l=n at *
 generalize keyL t l=kk at *
 clear hB hI hl hpos hq hf hm hmm hz hn63 hnn hz1 hp ht1 ht2 hon hbM hn1 hn2
 generalize ((t:Nat):Int)=tt at *
 go_enter Tryz.func172,Tryz.ntmps172
 go_wp2_with fail
 refine Calls.mono (HKY.out _ _ HB.out) ?_
 rintro e w2 ⟨rfl,hB2⟩
 have c0:=cell1 (hB2.row (g:=w.heap.size) (o:=.cells #[.pointer h.ptr] 39) (by simp))
 have c1:=cell1 (hB2.row (g:=w.heap.size+1) (o:=.cells #[.int .i64 tt] 3) (by simp))
 have c2:=cell1 (hB2.row (g:=w.heap.size+1+1) (o:=.cells #[.slice ya yn yk] 75) (by simp))
 have H2:=Lib.hid hB2
 have hke:=emptyK hkk
 have HL2:=Lib.hid (HLN.out _ _ hB2)
 clear hB2 HB HKY HLN H2
 go_wp2_with fail
 refine Calls.mono HL2.out ?_
 rintro e w3 ⟨rfl,hB3⟩
 have d0:=cell1 (hB3.row (g:=w.heap.size) (o:=.cells #[.pointer h.ptr] 39) (by simp))
 have HM3:=Lib.hid (HMD.out _ _ hB3)
 clear hB3 HL2 HMD c0 c1 c2
 go_wp2_with fail
 refine Calls.mono HM3.out ?_
 rintro e w4 ⟨rfl,hB4⟩
 have c0:=cell1 (hB4.row (g:=w.heap.size) (o:=.cells #[.pointer h.ptr] 39) (by simp))
 have c1:=cell1 (hB4.row (g:=w.heap.size+1) (o:=.cells #[.int .i64 tt] 3) (by simp))
 have c2:=cell1 (hB4.row (g:=w.heap.size+1+1) (o:=.cells #[.slice ya yn yk] 75) (by simp))
 have c3:=cell1 (hB4.row (g:=w.heap.size+1+1+1) (o:=.cells #[.int .i64 b] 3) (by simp))
 have HB:=Lib.hid hB4
 clear hB4 HM3 d0
 by_cases h0:0 < n
 ·have hR:=Lib.hid (HRD.out h0 _ _ HB.out)
  have hA:=Lib.hid (HCA.out h0)
  have hd:(0 < n)=True:=eq_true h0
  have hw:=hw1 h0
  have hw':=hw1' h0
  clear HRD HCA hw1 hw1'
  clear HB
  go_wp2_with fail
  refine Calls.mono hR.out ?_
  rintro e w5 ⟨rfl,hB5⟩
  have H5:=Lib.hid hB5
  clear hB5 hR c0 c1 c2 c3
  go_upto_region 10 with fail
  have hB6:=H5.out.alloc (pO p1 p2)
  generalize hW6:w5.alloc (pO p1 p2)=w6 at *
  generalize w5.heap.size=g1 at *
  have c3:=cell1 (hB6.row (g:=w.heap.size+1+1+1) (o:=.cells #[.int .i64 b] 3) (by simp))
  obtain ⟨a0,a1,a2,a3,a4,a5,a6,a7⟩:=row4 (hB6.row (g:=w.heap.size+1+1+1+1) (o:=uO a) (by simp))
  obtain ⟨⟨z0,z1,z2,z3,z4⟩,f0,f1,f2,f3,f4⟩:=row5 (hB6.row (g:=g1) (o:=pO p1 p2) (by simp))
  have HB:=Lib.hid hB6
  clear hB6 hW6 H5
  by_cases hlt:b < p1
  ·have hL:rE=10∧rS=s:=by
    have:=HLAW.out
    rw [if_pos ⟨h0,hlt⟩,if_pos h0,if_pos hlt] at this
    exact this
   obtain ⟨rfl,rfl⟩:=hL
   have hlt2:(b < p1)=True:=eq_true hlt
   clear HLAW hA hlt h0
   go_wp2_with fail
   go_ret
   exact ⟨rfl,HV.done HB.out⟩
  ·have hlt2:(b < p1)=False:=eq_false hlt
   by_cases hbe:b=p1
   ·have hL:rE=0∧rS=sA:=by
     have:=HLAW.out
     rw [if_neg (fun h=>hlt h.2),if_pos h0,if_neg hlt,if_pos hbe] at this
     exact this
    obtain ⟨rfl,rfl⟩:=hL
    have hbe2:(b == p1)=true:=by rw [beq_iff_eq]; exact hbe
    have hbe3:((b:Int) == (p1:Int))=true:=by rw [beq_iff_eq,hbe]
    have HA6:=Lib.hid (hA.out _ _ (fun x hx=>List.mem_cons_of_mem _ hx) HB.out)
    clear HLAW hA hlt hbe h0 HB
    go_wp2_with fail
    refine Calls.mono HA6.out ?_
    rintro e w7 ⟨rfl,hB7⟩
    have HB7:=Lib.hid hB7
    clear hB7 HA6
    go_wp2_with fail
    go_ret
    exact ⟨rfl,HV.done HB7.out⟩
   ·have hbe2:(b == p1)=false:=by rw [beq_eq_false_iff_ne]; exact hbe
    have hbe3:((b:Int) == (p1:Int))=false:=by rw [beq_eq_false_iff_ne]; omega
    by_cases hap:a=p2
    ·have hL:rE=0∧rS=s:=by
      have:=HLAW.out
      rw [if_neg (fun h=>hlt h.2),if_pos h0,if_neg hlt,if_neg hbe,if_pos hap] at this
      exact this
     obtain ⟨rfl,rfl⟩:=hL
     have hE:∀ w,(Op.equalIn 10000 24 (.agg #[.int .u64 a.1,.int .u64 a.2.1,.int .u64 a.2.2.1,.int .u64 a.2.2.2]) (.agg #[.int .u64 p2.1,.int .u64 p2.2.1,.int .u64 p2.2.2.1,.int .u64 p2.2.2.2])).run Tryz.prog w = .ok true w:=fun w=>by
      have:=eqU a p2 w
      rw [decide_eq_true hap] at this
      exact this
     clear HLAW hA hlt hbe h0 hap
     go_wp2_with fail
     go_ret
     exact ⟨rfl,HV.done HB.out⟩
    ·have hL:rE=0∧rS=sC:=by
      have:=HLAW.out
      rw [if_neg (fun h=>hlt h.2),if_pos h0,if_neg hlt,if_neg hbe,if_neg hap] at this
      exact this
     obtain ⟨rfl,rfl⟩:=hL
     have hE:∀ w,(Op.equalIn 10000 24 (.agg #[.int .u64 a.1,.int .u64 a.2.1,.int .u64 a.2.2.1,.int .u64 a.2.2.2]) (.agg #[.int .u64 p2.1,.int .u64 p2.2.1,.int .u64 p2.2.2.1,.int .u64 p2.2.2.2])).run Tryz.prog w = .ok false w:=fun w=>by
      have:=eqU a p2 w
      rw [decide_eq_false hap] at this
      exact this
     have c0:=cell1 (HB.out.row (g:=w.heap.size) (o:=.cells #[.pointer h.ptr] 39) (by simp))
     have HS4:=Lib.hid (HSI.out hnm _ _ HB.out)
     clear HSI HB HLAW hA hlt hbe h0 hap
     go_wp2_with fail
     refine Calls.mono HS4.out ?_
     rintro e w7 ⟨rfl,hB7⟩
     have H7:=Lib.hid (HCB.out _ _ (fun x hx=>List.mem_cons_of_mem _ hx) hB7)
     clear hB7 HS4 HCB hw2 hw2' c0 c3 hke hb0 hbm hd
     go_wp2_with fail
     refine Calls.mono H7.out ?_
     rintro e w8 ⟨rfl,hB8⟩
     have HB8:=Lib.hid hB8
     clear hB8 H7
     go_wp2_with fail
     go_ret
     exact ⟨rfl,HV.done HB8.out⟩
 ·have hd:(0 < n)=False:=eq_false h0
  have hL:rE=0∧rS=sC:=by
   have:=HLAW.out
   rw [if_neg (fun h=>h0 h.1),if_neg h0] at this
   exact this
  obtain ⟨rfl,rfl⟩:=hL
  clear HLAW HRD HCA h0 hw1 hw1'
  have HS4:=Lib.hid (HSI.out hnm _ _ HB.out)
  clear HSI HB
  go_wp2_with fail
  refine Calls.mono HS4.out ?_
  rintro e w5 ⟨rfl,hB5⟩
  have H5:=Lib.hid (HCB.out _ _ (fun x hx=>hx) hB5)
  clear hB5 HS4 HCB hw2 hw2' c0 c1 c2 c3 hke hb0 hbm hd
  go_wp2_with fail
  refine Calls.mono H5.out ?_
  rintro e w6 ⟨rfl,hB6⟩
  have HB6:=Lib.hid hB6
  clear hB6 H5
  go_wp2_with fail
  go_ret
  exact ⟨rfl,HV.done HB6.out⟩
theorem hpt_ptB {b:Nat} {a:W4} (hb:b < 9223372036854775808) (ha:a.Ok):hpt (ptB b a)=(b,a):=by
 have ht:=toAmt_amtB ha
 have h8:(numB b).size=8:=rfl
 have h32:(amtB a).size=32:=by show (amtL a).toArray.size=32; simp [amtL]
 have hs:(numB b ++ amtB a).size=40:=by rw [ByteArray.size_append,h8,h32]
 have e1:(numB b ++ amtB a).extract 0 8=numB b:=ByteArray.extract_append_eq_left h8.symm
 have e2:(numB b ++ amtB a).extract 8 40=amtB a:=ByteArray.extract_append_eq_right h8.symm (by rw [h8,h32])
 unfold hpt ptB
 rw [hs,if_neg (by omega),e1,e2,numsL_numB b hb]
 generalize amtB a=z at *
 show (if z.size=32 then (b,toAmt z) else _)=_
 rw [if_pos h32,ht]
def rowBy (l:List Int):List UInt8:=l.flatMap fun n=>be8 n.toNat
def rowB (l:List Int):ByteArray:=⟨(rowBy l).toArray⟩
theorem rowBy_len (l:List Int):(rowBy l).length=8*l.length:=by
 unfold rowBy
 induction l with
 | nil=>rfl
 | cons x l ih=>simp only [List.flatMap_cons,List.length_cons,List.length_append,be8_len,ih]; omega
theorem rowBy_snoc (l:List Int) (n:Int):rowBy (l ++ [n])=rowBy l ++ be8 n.toNat:=by simp [rowBy]
theorem numsL_row:∀ (l:List Int),(∀ n∈l,0≤n∧n < 9223372036854775808)→numsL (rowBy l)=some (l.map (·.toNat))
 | [],_=>rfl
 | n :: l,h=>by
  have hn:=h n (by simp)
  have e:rowBy (n :: l)=be8 n.toNat ++ rowBy l:=by simp [rowBy]
  have h8:(be8 n.toNat).length=8:=rfl
  rw [e,numsL_step _ (by rw [List.length_append,h8]; omega),List.take_append_of_le_length (by omega),List.take_of_length_le (by omega),List.drop_append_of_le_length (by omega),List.drop_of_length_le (by omega),List.nil_append,numsL_row l fun m hm=>h m (by simp [hm])]
  have h2:=numsL_numB n.toNat (by omega)
  rw [numB_list,numsL_step _ (by omega),List.take_of_length_le (by omega),List.drop_of_length_le (by omega)] at h2
  split at h2
  ·next hb =>
   simp [numsL] at h2
   rw [if_pos hb,h2]; rfl
  ·cases h2
theorem rowOf_row (l:List Int) (h:∀ n∈l,0≤n∧n < 9223372036854775808):rowOf (rowB l)=l.map (·.toNat):=by
 unfold rowOf
 rw [show (rowB l).data.toList=rowBy l by simp [rowB],numsL_row l h]; rfl
def RowTo (l:List Int) (w:World) (k:Nat) (wr:World):Prop:=k≤l.length∧IsB wr w.heap.size w.heap.size (rowBy (l.take k))∧Below w.heap.size w wr
theorem setRow_any (w:World) (b:Nat) (s:St) (L:List Nat) (key:ByteArray) (v:Value) (l:List Int) (h:SRep w b s L) (hb:s.size < 1000000000000) (hv:IntsAt w v l) (hl:l.length < 1000000000) (hne:l≠[]) (hr:∀ n∈l,0≤n∧n < 9223372036854775808) :
  Calls Tryz.prog 107 #[.pointer (some ⟨b,0,none⟩),.string key,v] w (RetSt w b L (.tuple #[]) (s.put key (rowB l))):=by
 obtain ⟨ad,c,hve⟩:∃ ad c,v = .slice ad l.length c:=by
  rcases hv with ⟨rfl,rfl⟩ | ⟨a,c,h1,_⟩
  ·exact ⟨none,0,rfl⟩
  ·exact ⟨some a,c,h1⟩
 have HC:Hid (∀ wr k (n:Int),RowTo l w k wr→l[k]? = some n→∃ a,ad=some a∧wr.cell? (a.add k)=some (.int .i64 n)):=fun wr k n hb0 hk=>by
  have hb:=hb0.2.2
  rcases hv with ⟨_,rfl⟩ | ⟨a,c',h1,h3⟩
  ·simp at hk
  ·have:ad=some a:=by rw [hve] at h1; cases h1; rfl
   exact ⟨a,this,by rw [hb.cell (p:=a.add k) (World.block_lt_of_cell? w _ (h3 k n hk))]; exact h3 k n hk⟩
 subst hve
 clear hv
 have hB0:IsB (w.alloc (.cells #[.pointer none,.slice none 0 0] 211)) w.heap.size w.heap.size [] :=
  .inl ⟨Nat.le_refl _,_,heap_alloc_new w _,⟨by simp [Lib.byteCells],.inl ⟨rfl,rfl⟩⟩,by simp [Value.ownBlock]⟩
 have H0:Hid (RowTo l w 0 (w.alloc (.cells #[.pointer none,.slice none 0 0] 211))):=⟨by omega,by simpa [rowBy] using hB0,(Below.refl _ w).alloc (Nat.le_refl _) _⟩
 have HN:Hid (∀ wr k,RowTo l w k wr→∀ n:Nat,l[k]? = some (n:Int)→Calls Tryz.prog 162 #[.int .i64 n] wr fun e w'=>e = .returned (.string (numB n))∧RowTo l w k w'):=fun wr k hk n hn=>by
  have hn2:=hr _ (List.mem_of_getElem? hn)
  refine (num_any n wr (by omega)).mono fun e w' ⟨he,hb⟩=>⟨he,hk.1,isB_below hk.2.1 hb,hk.2.2.trans (hb.mono hk.2.2.size)⟩
 have HS:Hid (∀ wr k,RowTo l w k wr→∀ n:Nat,l[k]? = some (n:Int)→Calls Tryz.prog 161 #[.pointer (some ⟨w.heap.size,0,none⟩),.string (numB n)] wr fun e w'=>e = .returned (.tuple #[.int .i64 8,.nilIface])∧RowTo l w (k+1) w'):=fun wr k hk n hn=>by
  have hkl:k < l.length:=(List.getElem?_eq_some_iff.1 hn).1
  have hln:(rowBy (l.take k)).length+(numB n).size < 1000000000000:=by
   rw [rowBy_len,show (numB n).size=8 from rfl,List.length_take]; omega
  refine (writeStr_any w.heap.size w.heap.size _ (numB n) wr hk.2.1 hln (by rw [show (numB n).size=8 from rfl]; omega) hk.2.2.size).mono fun e w' ⟨he,h1,h2⟩=>⟨he,by omega,?_,hk.2.2.trans h2⟩
  rw [take_one_more l k _ hn,rowBy_snoc]
  exact h1
 have HT:Hid (∀ wr,RowTo l w l.length wr→Calls Tryz.prog 163 #[.pointer (some ⟨w.heap.size,0,none⟩)] wr fun e w'=>e = .returned (.string (rowB l))∧Below w.heap.size w w'):=fun wr hk=>by
  obtain ⟨_,h2,h3⟩:=hk
  rw [List.take_length] at h2
  exact (string_any w.heap.size w.heap.size _ wr h2 (fun e=>by
   have:=rowBy_len l
   rw [e] at this
   exact hne (List.eq_nil_of_length_eq_zero (by simp at this; omega)))).mono fun e w' ⟨he,hb⟩=>⟨he,h3.trans hb⟩
 have HP:Hid (∀ w1,Below w.heap.size w w1→Calls Tryz.prog 149 #[.pointer (some ⟨b,0,none⟩),.string key,.string (rowB l)] w1 fun e w'=>e = .returned (.tuple #[])∧RetSt w b L (.tuple #[]) (s.put key (rowB l)) e w'):=fun w1 h1 =>
  (putG_any w1 b s L key (rowB l) (h.fr (Fr.of_below h1 (fun _=>False)) (fun _ _=>id)) hb).mono fun e w' h2=>⟨h2.1,h2.of_below h1⟩
 have hget:∀ k,k < l.length→∃ n:Nat,l[k]? = some (n:Int):=fun k hk=>⟨(l[k]).toNat,by
  have:=hr l[k] (List.getElem_mem hk)
  rw [List.getElem?_eq_getElem hk]
  congr 1; omega⟩
 have HGET:=Lib.hid hget
 have hln:(l.length:Int) < 9223372036854775807:=by omega
 clear hB0 hget hr h hb hne
 generalize hm:l.length=m at *
 generalize rowB l=rb at *
 generalize hKT:RowTo l w=KT at *
 generalize RetSt w b L (.tuple #[]) (s.put key rb)=R at *
 clear hKT
 have HM:=Lib.hid hm
 clear hm
 go_enter Tryz.func107,Tryz.ntmps107
 go_wp2_with fail
 go_loopw [11] (fun i wr=>∃ k:Nat,i = .int .i64 k∧k≤m∧KT k wr) (fun i _=>m - (intOf i).toNat)
 case atStart=>exact ⟨0,rfl,by omega,H0.out⟩
 case round =>
  obtain ⟨k,rfl,hk,hN⟩:=hrel
  have HK:=Lib.hid hN
  clear hN H0
  by_cases hlt:k < m
  ·obtain ⟨n,hn⟩:=HGET.out k hlt
   obtain ⟨a,rfl,hc⟩:=HC.out wr k n HK.out hn
   have HNk:=Lib.hid hn
   have hd:decide ((n:Int) < 0)=false:=by simp
   clear hn
   go_wp2_with fail
   refine (HN.out wr k HK.out n HNk.out).mono ?_
   rintro e w1 ⟨rfl,hK1⟩
   have HK1:=Lib.hid hK1
   clear hK1
   go_wp2_with fail
   refine (HS.out w1 k HK1.out n HNk.out).mono ?_
   rintro e w2 ⟨rfl,hK2⟩
   have HK2:=Lib.hid hK2
   clear hK2
   go_wp2_with fail
   go_roundw
   case rel=>exact ⟨k+1,by go_num,by omega,HK2.out⟩
   case measure=>simp [intOf]; omega
  ·obtain rfl:k=m:=by omega
   have HTT:=Lib.hid (HT.out wr HK.out)
   go_wp2_with fail
   refine HTT.out.mono ?_
   rintro e w1 ⟨rfl,hb1⟩
   go_wp2_with fail
   refine (HP.out w1 hb1).mono ?_
   rintro e w2 ⟨rfl,hR⟩
   go_wp2_with fail
   go_end0
   exact hR
def RRowTo (l:List Int) (w:World) (k:Nat) (s:ByteArray) (wr:World):Prop:=k≤l.length∧s=⟨(rowBy (l.take k)).toArray⟩∧Below w.heap.size w wr
theorem RRowTo.next {l:List Int} {w:World} {k:Nat} {s:ByteArray} {wr:World} (h:RRowTo l w k s wr) {n:Nat} (hn:l[k]? = some (n:Int)):RRowTo l w (k+1) (s ++ numB n) wr:=by
 obtain ⟨h1,h2,h3⟩:=h
 have hlt:k < l.length:=(List.getElem?_eq_some_iff.1 hn).1
 refine ⟨by omega,?_,h3⟩
 subst h2
 have hx:=take_one_more l k _ hn
 apply ba_ext
 rw [hx,rowBy_snoc]
 rw [show ((⟨(rowBy (List.take k l)).toArray⟩:ByteArray) ++ numB n).data=(rowBy (List.take k l)).toArray ++ (numB n).data from ByteArray.data_append]
 simp [numB]
theorem next_any (w:World) (b:Nat) (s:St) (L:List Nat) (key:ByteArray) (h:SRep w b s L) (hb:s.size < 1000000000000) (hv:(s.val key).size < 1000000000000) (hn:s.int key < 1000000000000) :
  Calls Tryz.prog 106 #[.pointer (some ⟨b,0,none⟩),.string key] w (RetSt w b L (.int .i64 ((s.int key:Nat)+1:Int)) (s.setInt key ((s.int key:Nat)+1:Int))):=by
 have HI:=Lib.hid (int_at w b s L key h hv)
 have HS:Hid (∀ w1,Below w.heap.size w w1→Calls Tryz.prog 114 #[.pointer (some ⟨b,0,none⟩),.string key,.int .i64 ((s.int key:Nat)+1:Int)] w1 fun e w'=>e = .returned (.tuple #[])∧RetSt w b L (.int .i64 ((s.int key:Nat)+1:Int)) (s.setInt key ((s.int key:Nat)+1:Int)) (.returned (.int .i64 ((s.int key:Nat)+1:Int))) w'):=fun w1 h1 =>
  (setIntG_any w1 b s L key _ (by omega) (h.below h1) hb).mono fun e w' h2=>⟨h2.1,RetSt.of_below h1 ⟨rfl,h2.2⟩⟩
 generalize RetSt w b L (.int .i64 ((s.int key:Nat)+1:Int)) (s.setInt key ((s.int key:Nat)+1:Int))=R at *
 clear h hb hv
 generalize s.int key=n at *
 have hd:decide ((n:Int) < 9223372036854775807)=true:=decide_eq_true (by omega)
 have hdn:decide (n < 9223372036854775807)=true:=decide_eq_true (by omega)
 have hw:wrap64 ((n:Int)+1)=(n:Int)+1:=by unfold wrap64; omega
 clear hn
 go_enter Tryz.func106,Tryz.ntmps106
 go_wp2_with (first | (go_at_call 99; refine HI.out.mono ?_; rintro e w1 ⟨rfl,h1⟩) | (go_at_call 114; refine (HS.out _ h1).mono ?_; rintro e w2 ⟨rfl,hR⟩))
 exact hR
theorem rnext_any (w:World) (b:Nat) (s:St) (L:List Nat) (key:ByteArray) (h:RRep w b s L) (hb:s.size < 1000000000000) (hv:(s.val key).size < 1000000000000) (hn:s.int key < 1000000000000) :
  Calls Tryz.prog 186 #[.pointer (some ⟨b,0,none⟩),.string key] w (RetR w b L (.int .i64 ((s.int key:Nat)+1:Int)) (s.setInt key ((s.int key:Nat)+1:Int))):=by
 have HI:=Lib.hid (rint_at w b s L key h hv hb)
 have HS:Hid (∀ w1,Below w.heap.size w w1→Calls Tryz.prog 189 #[.pointer (some ⟨b,0,none⟩),.string key,.int .i64 ((s.int key:Nat)+1:Int)] w1 fun e w'=>e = .returned (.tuple #[])∧RetR w b L (.int .i64 ((s.int key:Nat)+1:Int)) (s.setInt key ((s.int key:Nat)+1:Int)) (.returned (.int .i64 ((s.int key:Nat)+1:Int))) w'):=fun w1 h1 =>
  (rsetInt_any w1 b s L key _ (by omega) (h.below h1) hb).mono fun e w' h2=>⟨h2.1,RetR.of_below h1 ⟨rfl,h2.2⟩⟩
 generalize RetR w b L (.int .i64 ((s.int key:Nat)+1:Int)) (s.setInt key ((s.int key:Nat)+1:Int))=R at *
 clear h hb hv
 generalize s.int key=n at *
 have hd:decide ((n:Int) < 9223372036854775807)=true:=decide_eq_true (by omega)
 have hdn:decide (n < 9223372036854775807)=true:=decide_eq_true (by omega)
 have hw:wrap64 ((n:Int)+1)=(n:Int)+1:=by unfold wrap64; omega
 clear hn
 go_enter Tryz.func186,Tryz.ntmps186
 go_wp2_with (first | (go_at_call 100; refine HI.out.mono ?_; rintro e w1 ⟨rfl,h1⟩) | (go_at_call 189; refine (HS.out _ h1).mono ?_; rintro e w2 ⟨rfl,hR⟩))
 exact hR
end Go.Proofs.YtnkilceibkkjlaaGreat
