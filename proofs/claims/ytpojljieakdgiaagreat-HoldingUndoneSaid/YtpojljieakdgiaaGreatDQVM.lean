/- What is proved here: a store and rows of a call's own beside it, while the call reads and writes. No condition. cell.Add, cell.Sub and cell.Move of the program, on a store behind a handle. Their conditions: sizes. -/
import Derived.Test.YtpojljieakdgiaaGreatDCellQ
import Derived.Test.YtpojljieakdgiaaGreatDRStore
import Derived.Test.YtpojljieakdgiaaGreatDRelyG
set_option maxRecDepth 100000
set_option maxHeartbeats 16000000
namespace Go.Proofs.YtpojljieakdgiaaGreat
open Go.RowKit
structure RepOk (R:World→List Nat→St→Prop):Prop where
 lt:∀ W L s,R W L s→∀ k∈L,k < W.heap.size
 frame:∀ W W' L s,R W L s→W.heap.size≤W'.heap.size→(∀ k∈L,W'.heap[k]? = W.heap[k]?)→R W' L s
abbrev PRep (q:Option Addr) (on:Bool):World→List Nat→St→Prop:=fun W L s=>QSt W ⟨q,on,L⟩ s
abbrev FRep (b:Nat):World→List Nat→St→Prop:=fun W L s=>RRep W b s L
theorem pRep_ok (q:Option Addr) (on:Bool):RepOk (PRep q on):=⟨fun _ _ _ h=>h.lt,fun _ _ _ _ h hs hb=>h.frame hs hb⟩
theorem fRep_ok (b:Nat):RepOk (FRep b):=⟨fun _ _ _ h=>h.lt,fun _ _ _ _ h _ hb=>h.frame hb⟩
structure QV (R:World→List Nat→St→Prop) (w:World) (L:List Nat) (s:St) (rs:List (Nat × Obj)) (W:World):Prop where
 ok:RepOk R
 on:∃ L',R W L' s∧Step w L W L'∧∀ g o,(g,o)∈rs→g∉L'
 r:∀ g o,(g,o)∈rs→w.heap.size≤g∧W.heap[g]? = some o
section
variable {R:World→List Nat→St→Prop} {w W W':World} {L:List Nat} {s s':St} {rs:List (Nat × Obj)}
theorem QV.start (hR:RepOk R) (h:R w L s):QV R w L s [] w:=⟨hR,⟨L,h,Step.refl _ _,fun _ _ hm=>by cases hm⟩,fun _ _ hm=>by cases hm⟩
theorem QV.row (h:QV R w L s rs W) {g:Nat} {o:Obj} (hm:(g,o)∈rs):W.heap[g]? = some o:=(h.r g o hm).2
theorem QV.le (h:QV R w L s rs W) {g:Nat} {o:Obj} (hm:(g,o)∈rs):w.heap.size≤g:=(h.r g o hm).1
theorem QV.below (h:QV R w L s rs W) (hb:Below W.heap.size W W'):QV R w L s rs W':=by
 obtain ⟨L',h1,h2,h3⟩:=h.on
 exact ⟨h.ok,⟨L',h.ok.frame _ _ _ _ h1 hb.size fun k hk=>hb.block k (h.ok.lt _ _ _ h1 k hk),h2.trans (step_below hb _),h3⟩,fun g o hm=>⟨h.le hm,(hb.block _ (lt_of_at (h.row hm))).trans (h.row hm)⟩⟩
theorem QV.drew (h:QV R w L s rs W):QV R w L s rs W.drew:=h.below (bl_drew (Below.refl _ _))
theorem QV.size (h:QV R w L s rs W):w.heap.size≤W.heap.size:=by
 obtain ⟨L',_,h2,_⟩:=h.on
 exact h2.fr.size
theorem QV.alloc (h:QV R w L s rs W) (o:Obj):QV R w L s ((W.heap.size,o) :: rs) (W.alloc o):=by
 have hb:=h.below (bl_alloc (Below.refl W.heap.size W) o)
 obtain ⟨L0,h0,_,_⟩:=h.on
 obtain ⟨L',h1,h2,h3⟩:=h.on
 refine ⟨h.ok,⟨L',h.ok.frame _ _ _ _ h1 (by simp) fun k hk=>heap_alloc_old W o (h.ok.lt _ _ _ h1 k hk),h2.trans (step_below (bl_alloc (Below.refl _ _) o) _),fun g o' hm => ?_⟩,fun g o' hm => ?_⟩
 ·rcases List.mem_cons.1 hm with he | hm
  ·cases he
   intro hk
   exact absurd (h.ok.lt _ _ _ h1 _ hk) (Nat.lt_irrefl _)
  ·exact h3 g o' hm
 ·rcases List.mem_cons.1 hm with he | hm
  ·cases he; exact ⟨h.size,heap_alloc_new W _⟩
  ·exact hb.r g o' hm
theorem QV.less {qs:List (Nat × Obj)} (h:QV R w L s rs W) (hs:∀ x,x∈qs→x∈rs):QV R w L s qs W:=by
 obtain ⟨L',h1,h2,h3⟩:=h.on
 exact ⟨h.ok,⟨L',h1,h2,fun g o hm=>h3 g o (hs _ hm)⟩,fun g o hm=>h.r g o (hs _ hm)⟩
theorem QV.call (h:QV R w L s rs W) {f:FuncId} {args:Array Value} {v:Value} (hC:∀ L',R W L' s→Calls Tryz.prog f args W fun e W'=>e = .returned v∧∃ L'',R W' L'' s'∧Step W L' W' L''):Calls Tryz.prog f args W fun e W'=>e = .returned v∧QV R w L s' rs W':=by
 obtain ⟨L',h1,h2,h3⟩:=h.on
 refine (hC L' h1).mono fun e W' ⟨he,L2,hR2,st⟩=>⟨he,h.ok,⟨L2,hR2,h2.trans st,fun g o hm hk => ?_⟩,fun g o hm=>⟨h.le hm,(st.fr.block g (lt_of_at (h.row hm)) (h3 g o hm)).trans (h.row hm)⟩⟩
 rcases st.own g hk with h4 | h4
 ·exact h3 g o hm h4
 ·exact absurd (lt_of_at (h.row hm)) (Nat.not_lt.2 h4)
theorem QV.reads (h:QV R w L s rs W) {f:FuncId} {args:Array Value} {v:Value} (hC:∀ L',R W L' s→Calls Tryz.prog f args W fun e W'=>e = .returned v∧Below W.heap.size W W'):Calls Tryz.prog f args W fun e W'=>e = .returned v∧QV R w L s rs W':=by
 obtain ⟨L',h1,h2,h3⟩:=h.on
 exact (hC L' h1).mono fun e W' ⟨he,hb⟩=>⟨he,h.below hb⟩
theorem QV.done (h:QV R w L s rs W):∃ L',R W L' s∧Step w L W L':=by
 obtain ⟨L',h1,h2,_⟩:=h.on
 exact ⟨L',h1,h2⟩
theorem QV.turn (h:QV R w L s rs W) {g:Nat} {o o':Obj} (hm:(g,o)∈rs) (hW:W'.heap[g]? = some o') (hs:W'.heap.size=W.heap.size) (ho:∀ k,k≠g→W'.heap[k]? = W.heap[k]?) (hx:W'.os=W.os∧W'.tape=W.tape∧W'.output=W.output)
  (qs:List (Nat × Obj)) (hqs:∀ x,x∈qs→x∈rs∧x.1≠g):QV R w L s ((g,o') :: qs) W':=by
 obtain ⟨L',h1,h2,h3⟩:=h.on
 have hg:=h3 g o hm
 have hge:=h.le hm
 refine ⟨h.ok,⟨L',h.ok.frame _ _ _ _ h1 (by omega) fun k hk=>ho k (fun e=>hg (e ▸ hk)),⟨⟨hx.1.trans h2.fr.os,hx.2.1.trans h2.fr.tape,hx.2.2.trans h2.fr.output,by have:=h2.fr.size; omega,fun k hk hn=>(ho k (by omega)).trans (h2.fr.block k hk hn)⟩,h2.own⟩,fun g' o2 hm2 => ?_⟩,fun g' o2 hm2 => ?_⟩
 ·rcases List.mem_cons.1 hm2 with he | hm2
  ·cases he; exact hg
  ·exact h3 g' o2 (hqs _ hm2).1
 ·rcases List.mem_cons.1 hm2 with he | hm2
  ·cases he; exact ⟨h.le hm,hW⟩
  ·exact ⟨h.le (hqs _ hm2).1,(ho _ (hqs _ hm2).2).trans (h.row (hqs _ hm2).1)⟩
theorem QV.setRow (h:QV R w L s rs W) {g:Nat} {cs cs':Array Value} {t:TypeId} (hm:(g,Obj.cells cs t (0,0))∈rs) (qs:List (Nat × Obj)) (hqs:∀ x,x∈qs→x∈rs∧x.1≠g):QV R w L s ((g,Obj.cells cs' t (0,0)) :: qs) (W.setRow g cs') :=
 h.turn hm (setRow_heap _ _ _ _ _ _ (h.row hm)) (setRow_size _ _ _) (fun _ hk=>setRow_other _ _ _ _ hk) ⟨rfl,rfl,rfl⟩ qs hqs
end
abbrev uO (x:W4):Obj:=.cells (uL x) 28
theorem QV.put4 {R:World→List Nat→St→Prop} {w W:World} {L:List Nat} {s:St} {rs:List (Nat × Obj)} (h:QV R w L s rs W) {g:Nat} {y:W4} (q:W4) (hm:(g,uO y)∈rs) (qs:List (Nat × Obj)) (hqs:∀ x,x∈qs→x∈rs∧x.1≠g) :
  QV R w L s ((g,uO q) :: qs) ((((W.setCell ⟨g,0,none⟩ (.int .u64 q.1)).setCell ⟨g,1,none⟩ (.int .u64 q.2.1)).setCell ⟨g,2,none⟩ (.int .u64 q.2.2.1)).setCell ⟨g,3,none⟩ (.int .u64 q.2.2.2)) :=
 h.turn hm (Proofs.YtpojljieakdgiaaGreat.put4 (h.row hm) q) (by simp) (fun _ hk=>by rw [Below.heap_setCell _ _ _ _ hk,Below.heap_setCell _ _ _ _ hk,Below.heap_setCell _ _ _ _ hk,Below.heap_setCell _ _ _ _ hk]) ⟨rfl,rfl,rfl⟩ qs hqs
theorem QV.u4 {R:World→List Nat→St→Prop} {w W:World} {L:List Nat} {s:St} {rs:List (Nat × Obj)} (h:QV R w L s rs W) {g:Nat} {x:W4} (hm:(g,uO x)∈rs):W.heap[g]? = some (.cells (uL x) 28 (0,0)):=h.row hm
theorem bput {W0 W:World} (h:Below W0.heap.size W0 W) {g:Nat} (hg:W0.heap.size≤g) {cs:Array Value}:Below W0.heap.size W0 (W.setRow g cs) :=
 ⟨h.os,h.tape,h.output,by rw [setRow_size]; exact h.size,fun k hk=>(setRow_other _ _ _ _ (by omega)).trans (h.block k hk)⟩
theorem QV.addl {R:World→List Nat→St→Prop} {w W0 W:World} {L:List Nat} {s:St} {rs:List (Nat × Obj)} (h:QV R w L s rs W0) (hb:Below W0.heap.size W0 W) (qs:List (Nat × Obj)) (hq:∀ g o,(g,o)∈qs→W0.heap.size≤g∧W.heap[g]? = some o):QV R w L s (qs ++ rs) W:=by
 have h2:=h.below hb
 obtain ⟨L',h1,h3,h4⟩:=h.on
 refine ⟨h.ok,⟨L',h.ok.frame _ _ _ _ h1 hb.size fun k hk=>hb.block k (h.ok.lt _ _ _ h1 k hk),h3.trans (step_below hb _),fun g o hm => ?_⟩,fun g o hm => ?_⟩
 ·rcases List.mem_append.1 hm with hm | hm
  ·intro hk
   exact absurd (h.ok.lt _ _ _ h1 _ hk) (Nat.not_lt.2 (hq g o hm).1)
  ·exact h4 g o hm
 ·rcases List.mem_append.1 hm with hm | hm
  ·exact ⟨Nat.le_trans h.size (hq g o hm).1,(hq g o hm).2⟩
  ·exact h2.r g o hm
theorem QV.add1 {R:World→List Nat→St→Prop} {w W0 W:World} {L:List Nat} {s:St} {rs:List (Nat × Obj)} (h:QV R w L s rs W0) (hb:Below W0.heap.size W0 W) {g:Nat} {o:Obj} (hg:W0.heap.size≤g) (hr:W.heap[g]? = some o):QV R w L s ((g,o) :: rs) W :=
 h.addl hb [(g,o)] fun g' o' hm=>by
  rw [List.mem_singleton] at hm; cases hm; exact ⟨hg,hr⟩
def Hand.addSt (h:Hand) (s:St) (k:ByteArray) (y:W4):St:=if moreE (s.amt k) y=0 then h.st s (s.setAmt k (moreW (s.amt k) y)) else s
def Hand.subSt (h:Hand) (s:St) (k:ByteArray) (y:W4):St:=if lessE' (s.amt k) y=0 then h.st s (s.setAmt k (subW (s.amt k) y)) else s
theorem amt_ok (s:St) (k:ByteArray):(s.amt k).Ok:=toAmt_ok _
theorem cAdd_q (w:World) (h:Hand) (s:St) (f:Nat) (k:ByteArray) (y:W4) (hy:y.Ok) (hq:QSt w h s) (hf:s.Fit f) (hm:f < 10000000000) :
  Calls Tryz.prog 62 #[.pointer h.ptr,.string k,uV y] w fun e w'=>e = .returned (.int .i64 (moreE (s.amt k) y))∧QOn w h (h.addSt s k y) w':=by
 have hb0:=bl_alloc (Below.refl _ w) (uO y)
 have HT:Hid (Calls Tryz.prog 126 #[.pointer h.ptr,.string k,.func (.func 127) #[] #[.pointer (some ⟨w.heap.size,0,none⟩)]] (w.alloc (uO y)) fun e w'=>e = .returned (.int .i64 (moreE (s.amt k) y))∧QOn w h (h.addSt s k y) w') :=
  (turn_q (w.alloc (uO y)) h s f k 127 w.heap.size (moreW (s.amt k) y) (moreE (s.amt k) y) (hq.below hb0) hf hm (by kernel_rfl) (fun W hb=>cmore1_any (s.amt k) y (amt_ok s k) hy w.heap.size W ((hb.block _ (by simp)).trans (heap_alloc_new w (uO y))))).mono fun e w' ⟨he,hO⟩=>⟨he,hO.back hb0⟩
 generalize moreE (s.amt k) y=er at *
 generalize h.addSt s k y=s2 at *
 generalize QOn w h s2=O at *
 clear hb0 hq hf
 go_enter Tryz.func62,Tryz.ntmps62
 go_wp2_with fail
 refine Calls.mono HT.out ?_
 rintro e w2 ⟨rfl,hO⟩
 have HO:=Lib.hid hO
 clear hO HT
 go_wp2_with fail
 go_ret
 exact ⟨rfl,HO.out⟩
theorem cSub_q (w:World) (h:Hand) (s:St) (f:Nat) (k:ByteArray) (y:W4) (hy:y.Ok) (hq:QSt w h s) (hf:s.Fit f) (hm:f < 10000000000) :
  Calls Tryz.prog 71 #[.pointer h.ptr,.string k,uV y] w fun e w'=>e = .returned (.int .i64 (lessE' (s.amt k) y))∧QOn w h (h.subSt s k y) w':=by
 have hb0:=bl_alloc (Below.refl _ w) (uO y)
 have HT:Hid (Calls Tryz.prog 126 #[.pointer h.ptr,.string k,.func (.func 133) #[] #[.pointer (some ⟨w.heap.size,0,none⟩)]] (w.alloc (uO y)) fun e w'=>e = .returned (.int .i64 (lessE' (s.amt k) y))∧QOn w h (h.subSt s k y) w') :=
  (turn_q (w.alloc (uO y)) h s f k 133 w.heap.size (subW (s.amt k) y) (lessE' (s.amt k) y) (hq.below hb0) hf hm (by kernel_rfl) (fun W hb=>cless1_any (s.amt k) y (amt_ok s k) hy w.heap.size W ((hb.block _ (by simp)).trans (heap_alloc_new w (uO y))))).mono fun e w' ⟨he,hO⟩=>⟨he,hO.back hb0⟩
 generalize lessE' (s.amt k) y=er at *
 generalize h.subSt s k y=s2 at *
 generalize QOn w h s2=O at *
 clear hb0 hq hf
 go_enter Tryz.func71,Tryz.ntmps71
 go_wp2_with fail
 refine Calls.mono HT.out ?_
 rintro e w2 ⟨rfl,hO⟩
 have HO:=Lib.hid hO
 clear hO HT
 go_wp2_with fail
 go_ret
 exact ⟨rfl,HO.out⟩
abbrev HV (h:Hand) (w:World) (s:St) (rs:List (Nat × Obj)) (W:World):Prop:=QV (PRep h.ptr h.on) w h.L s rs W
theorem HV.start {h:Hand} {w:World} {s:St} (hq:QSt w h s):HV h w s [] w:=QV.start (pRep_ok _ _) hq
theorem HV.done {h:Hand} {w W:World} {s:St} {rs:List (Nat × Obj)} (hq:HV h w s rs W):QOn w h s W:=QV.done hq
theorem HV.camt {h:Hand} {w W:World} {s:St} {rs:List (Nat × Obj)} {f:Nat} (hq:HV h w s rs W) (hf:s.Fit f) (hm:f < 100000000000) (k:ByteArray):Calls Tryz.prog 78 #[.pointer h.ptr,.string k] W fun e W'=>e = .returned (uV (s.amt k))∧Below W.heap.size W W':=by
 obtain ⟨L',h1,_⟩:=hq.on
 exact camount_q W ⟨h.ptr,h.on,L'⟩ s f k h1 hf hm
theorem HV.cset {h:Hand} {w W:World} {s:St} {rs:List (Nat × Obj)} (hq:HV h w s rs W) (hz:s.size < 1000000000000) (k:ByteArray) (x:W4):Calls Tryz.prog 75 #[.pointer h.ptr,.string k,uV x] W fun e W'=>e = .returned (.tuple #[])∧HV h w (h.st s (s.setAmt k x)) rs W' :=
 QV.call hq fun L' h1=>cset_q W ⟨h.ptr,h.on,L'⟩ s k x h1 hz
def moveE (s:St) (fk tk:ByteArray) (a:W4):Int:=if lessE' (s.amt fk) a=0 then (if fk=tk then 0 else moreE (s.amt tk) a) else 13
def Hand.moveSt (h:Hand) (s:St) (fk tk:ByteArray) (a:W4):St:=if lessE' (s.amt fk) a=0∧fk≠tk∧moreE (s.amt tk) a=0 then h.st (h.st s (s.setAmt fk (subW (s.amt fk) a))) ((h.st s (s.setAmt fk (subW (s.amt fk) a))).setAmt tk (moreW (s.amt tk) a)) else s
theorem less_cases (x y:W4):lessE' x y=0∨lessE' x y=13:=by unfold lessE'; split <;> simp
theorem more_cases (x y:W4):moreE x y=0∨moreE x y=6:=by unfold moreE; split <;> simp
theorem lists_ne {a b:ByteArray} (h:a≠b):(a.toList == b.toList)=false:=by
 rw [beq_eq_false_iff_ne]
 intro e
 rw [ByteArray.toList_eq,ByteArray.toList_eq] at e
 exact h (ba_ext e)
theorem cMove_q (w:World) (h:Hand) (s:St) (f:Nat) (fk tk:ByteArray) (a:W4) (ha:a.Ok) (hq:QSt w h s) (hf:s.Fit f) (hm:f < 10000000000) :
  Calls Tryz.prog 149 #[.pointer h.ptr,.string fk,.string tk,uV a] w fun e w'=>e = .returned (.int .i64 (moveE s fk tk a))∧QOn w h (h.moveSt s fk tk a) w':=by
 have hq1:=(HV.start hq).alloc (uO a)
 have HAfk:Hid (∀ W,HV h w s [(w.heap.size,uO a)] W→Calls Tryz.prog 78 #[.pointer h.ptr,.string fk] W fun e W'=>e = .returned (uV (s.amt fk))∧Below W.heap.size W W'):=fun W hW=>hW.camt hf (by omega) fk
 have HAtk:Hid (∀ rs W,HV h w s rs W→Calls Tryz.prog 78 #[.pointer h.ptr,.string tk] W fun e W'=>e = .returned (uV (s.amt tk))∧Below W.heap.size W W'):=fun rs W hW=>hW.camt hf (by omega) tk
 have HL:Hid (∀ W,Calls Tryz.prog 134 #[uV (s.amt fk),uV a] W fun e w'=>e = .returned (.tuple #[uV (subW (s.amt fk) a),.int .i64 (lessE' (s.amt fk) a)])∧Below W.heap.size W w'):=cless_any _ a (amt_ok _ _) ha
 have HM:Hid (∀ W,Calls Tryz.prog 128 #[uV (s.amt tk),uV a] W fun e w'=>e = .returned (.tuple #[uV (moreW (s.amt tk) a),.int .i64 (moreE (s.amt tk) a)])∧Below W.heap.size W w'):=cmore_any _ a (amt_ok _ _) ha
 have HS1:Hid (∀ rs W,HV h w s rs W→Calls Tryz.prog 75 #[.pointer h.ptr,.string fk,uV (subW (s.amt fk) a)] W fun e W'=>e = .returned (.tuple #[])∧HV h w (h.st s (s.setAmt fk (subW (s.amt fk) a))) rs W'):=fun rs W hW=>hW.cset (Nat.lt_of_le_of_lt hf.size (by omega)) fk _
 have hf1:(h.st s (s.setAmt fk (subW (s.amt fk) a))).Fit (f+2):=Hand.st_fit (hf.mono (by omega)) (hf.setAmt _ _)
 have HS2:Hid (∀ rs W,HV h w (h.st s (s.setAmt fk (subW (s.amt fk) a))) rs W→Calls Tryz.prog 75 #[.pointer h.ptr,.string tk,uV (moreW (s.amt tk) a)] W fun e W'=>e = .returned (.tuple #[])∧HV h w (h.st (h.st s (s.setAmt fk (subW (s.amt fk) a))) ((h.st s (s.setAmt fk (subW (s.amt fk) a))).setAmt tk (moreW (s.amt tk) a))) rs W'):=fun rs W hW=>hW.cset (Nat.lt_of_le_of_lt hf1.size (by omega)) tk _
 have HE:Hid ((lessE' (s.amt fk) a=13→moveE s fk tk a=13∧h.moveSt s fk tk a=s)∧(lessE' (s.amt fk) a=0→fk=tk→moveE s fk tk a=0∧h.moveSt s fk tk a=s)∧(lessE' (s.amt fk) a=0→fk≠tk→moreE (s.amt tk) a=6→moveE s fk tk a=6∧h.moveSt s fk tk a=s) ∧
   (lessE' (s.amt fk) a=0→fk≠tk→moreE (s.amt tk) a=0→moveE s fk tk a=0∧h.moveSt s fk tk a=h.st (h.st s (s.setAmt fk (subW (s.amt fk) a))) ((h.st s (s.setAmt fk (subW (s.amt fk) a))).setAmt tk (moreW (s.amt tk) a)))):=by
  unfold moveE Hand.moveSt
  refine ⟨fun h1 => ?_,fun h1 h2 => ?_,fun h1 h2 h3 => ?_,fun h1 h2 h3 => ?_⟩
  ·rw [h1,if_neg (by decide),if_neg (fun h=>absurd h.1 (by decide))]; exact ⟨rfl,rfl⟩
  ·rw [h1,if_pos rfl,if_pos h2,if_neg (fun h=>h.2.1 h2)]; exact ⟨rfl,rfl⟩
  ·rw [h1,if_pos rfl,if_neg h2,h3,if_neg (fun h=>absurd h.2.2 (by decide))]; exact ⟨rfl,rfl⟩
  ·rw [h1,if_pos rfl,if_neg h2,h3,if_pos ⟨rfl,h2,rfl⟩]; exact ⟨rfl,rfl⟩
 have HLC:=Lib.hid (less_cases (s.amt fk) a)
 have HMC:=Lib.hid (more_cases (s.amt tk) a)
 generalize h.st (h.st s (s.setAmt fk (subW (s.amt fk) a))) ((h.st s (s.setAmt fk (subW (s.amt fk) a))).setAmt tk (moreW (s.amt tk) a))=s2 at *
 generalize h.st s (s.setAmt fk (subW (s.amt fk) a))=s1 at *
 generalize subW (s.amt fk) a=u at *
 generalize lessE' (s.amt fk) a=er at *
 generalize moreW (s.amt tk) a=v at *
 generalize moreE (s.amt tk) a=em at *
 generalize s.amt fk=xfk at *
 generalize s.amt tk=xtk at *
 generalize moveE s fk tk a=ee at *
 generalize h.moveSt s fk tk a=sx at *
 clear hf hf1 hq ha
 go_enter Tryz.func149,Tryz.ntmps149
 go_wp2_with fail
 go_upto_region 1 with fail
 generalize w.alloc (uO a)=W0 at *
 have HQ:=Lib.hid hq1
 have HAfk:Hid (∀ W,Below W0.heap.size W0 W→Calls Tryz.prog 78 #[.pointer h.ptr,.string fk] W fun e W'=>e = .returned (uV xfk)∧Below W.heap.size W W'):=fun W hW=>HAfk.out W (hq1.below hW)
 have HB0:=Lib.hid (bl_drew (Below.refl W0.heap.size W0))
 clear hq1
 refine wp_region_rely [[],[],[0,1],[],[0,1,2,3],[0,1,2,3,4],[0,1,2,3,4,5],[0,1,2,3,4,5],[],[0,1,2,3,4,5,6,8],[0,1,2,3,4,5,6,7,8,9]]
  [rgC (Below W0.heap.size W0),rgV 0 (.pointer h.ptr),rgV 1 (.string fk),rgV 2 (uV xfk),rgV 3 (uV a),rgV 4 (.tuple #[uV u,.int .i64 er]),rgV 5 (.tuple #[uV u,.int .i64 er]),rgV 6 (uV u),rgV 7 (.int .i64 er),rgP 8 (W0.heap.size),rgV 10 (.int .i64 er),rgS 8 9 (u)] _ (by kernel_rfl) (by kernel_rfl) (by kernel_rfl)
  (fun vs=>by simp only [rgAct,rgPut,List.setIfInBounds_toArray,List.set_cons_zero,List.set_cons_succ]; exact rfl)
  ⟨fun _ _ _ hb h=>bl_then h hb,rgV_st,rgV_st,rgV_st,rgV_st,rgV_st,rgV_st,rgV_st,rgV_st,rgP_st,rgV_st,rgS_st,trivial⟩ ?_ ?_ ?_
 ·refine rgAll_yes rfl HB0.out ?_
  iterate 11 refine rgAll_no rfl ?_
  exact trivial
 ·refine ⟨?_,?_,?_,?_,?_,?_,?_,?_,?_,?_,?_,trivial⟩
  ·rintro vs w1 ⟨_,_⟩ K hK
   refine rg_move rfl (.inl rfl) rfl (hK _ _ (.inl (Below.refl _ _)) ?_)
   exact rgNew_one 1 rfl fun _=>rfl
  ·rintro vs w1 ⟨_,_⟩ K hK
   refine rg_move rfl (.inl rfl) rfl (hK _ _ (.inl (Below.refl _ _)) ?_)
   exact rgNew_one 2 rfl fun _=>rfl
  ·rintro vs w1 ⟨hC,e0,e1,_⟩ K hK
   refine rg_fn rfl rfl rfl (by kernel_rfl) (show [vs 0,vs 1]=_ from by rw [rg1 e0,rg1 e1]) (Calls.mono (HAfk.out _ hC) ?_)
   rintro e w2 ⟨rfl,hb⟩
   refine ⟨_,rfl,hK _ _ (.inl hb) ?_⟩
   exact rgNew_one 3 rfl fun _=>rfl
  ·rintro vs w1 ⟨hC,_⟩ K hK
   refine rg_loadU rfl rfl rfl ((HQ.out.below hC).u4 (x:=a) (by simp)) (hK _ _ (.inl (Below.refl _ _)) ?_)
   exact rgNew_one 4 rfl fun _=>rfl
  ·rintro vs w1 ⟨_,_,_,e2,e3,_⟩ K hK
   refine rg_fn rfl rfl rfl (by kernel_rfl) (show [vs 2,vs 3]=_ from by rw [rg1 e2,rg1 e3]) (Calls.mono (HL.out _) ?_)
   rintro e w2 ⟨rfl,hb⟩
   refine ⟨_,rfl,hK _ _ (.inl hb) ?_⟩
   exact rgNew_one 5 rfl fun _=>rfl
  ·rintro vs w1 ⟨_,_,_,_,_,e4,_⟩ K hK
   refine rg_move rfl (.inl rfl) (rg1 e4) (hK _ _ (.inl (Below.refl _ _)) ?_)
   exact rgNew_one 6 rfl fun _=>rfl
  ·rintro vs w1 ⟨_,_,_,_,_,_,e5,_⟩ K hK
   refine rg_extract rfl rfl (rg1 e5) rfl (hK _ _ (.inl (Below.refl _ _)) ?_)
   exact rgNew_one 7 rfl fun _=>rfl
  ·rintro vs w1 ⟨_,_,_,_,_,_,e5,_⟩ K hK
   refine rg_extract rfl rfl (rg1 e5) rfl (hK _ _ (.inl (Below.refl _ _)) ?_)
   exact rgNew_one 8 rfl fun _=>rfl
  ·rintro vs w1 ⟨hC,_⟩ K hK
   refine rg_allocU rfl rfl (hK _ _ (.inl (bl_alloc (Below.refl _ _) _)) ?_)
   iterate 9 refine rgNew_no rfl ?_
   refine rgNew_yes rfl (fun _=>⟨_,_,rfl,hC.size,heap_alloc_new _ _⟩) ?_
   iterate 2 refine rgNew_no rfl ?_
   exact trivial
  ·rintro vs w1 ⟨hC,_,_,_,_,_,_,e6,⟨_,_,e8,h8,g8⟩,_⟩ K hK
   refine rg_storeU rfl rfl (rg1 e8) (rg1 e6) g8 (hK _ _ (.inr ?_) ?_)
   ·refine rgStay_yes rfl (fun hC _=>bput hC h8) ?_
    iterate 8 refine rgStay_yes rfl (fun h _=>h) ?_
    refine rgStay_yes rfl (fun h _=>rgP_put h) ?_
    iterate 2 refine rgStay_no rfl ?_
    exact trivial
   ·iterate 11 refine rgNew_no rfl ?_
    refine rgNew_yes rfl (fun _=>⟨_,_,by show [vs 8,undef]=_; rw [rg1 e8],setRow_heap _ _ _ _ _ _ g8⟩) ?_
    exact trivial
  ·rintro vs w1 ⟨_,_,_,_,_,_,_,_,e7,_,_,_⟩ K hK
   refine rg_move rfl (.inr rfl) (rg1 e7) (hK _ _ (.inl (Below.refl _ _)) ?_)
   exact rgNew_one 10 rfl fun _=>rfl
 ·intro vs w1 hA
  obtain ⟨hC,e0,e1,e2,e3,e4,e5,e6,e7,⟨p8,_,e8,h8,g8⟩,e10,s9,_⟩:=hA
  have e0:=rg1 e0
  have e1:=rg1 e1
  have e2:=rg1 e2
  have e3:=rg1 e3
  have e4:=rg1 e4
  have e5:=rg1 e5
  have e6:=rg1 e6
  have e7:=rg1 e7
  have e8:=rg1 e8
  have e10:=rg1 e10
  have s9:=rgS_at s9 e8
  simp only [e0,e1,e2,e3,e4,e5,e6,e7,e8,e10]
  have hq2:=HQ.out.add1 hC h8 s9
  have HD0:=Lib.hid (hq2.done)
  clear e0 e1 e2 e3 e4 e5 e6 e7 e8 e10 g8 s9 h8 hC HL HAfk HB0 HQ
  rcases HLC.out with rfl | rfl
  ·by_cases hft:fk=tk
   ·obtain ⟨he,hx⟩:=HE.out.2.1 (by trivial) hft
    subst he hx hft
    clear HE HLC HMC HS1 HS2 HM HAtk hq2
    go_wp2_with fail
    go_ret
    exact ⟨rfl,HD0.out⟩
   ·have hb:(fk.toList == tk.toList)=false:=lists_ne hft
    have HF:=Lib.hid hft
    clear HLC HD0 hft
    go_wp2_with fail
    go_upto_region 4 with fail
    have HQ1:=Lib.hid hq2
    have HA2:Hid (∀ W,Below w1.heap.size w1 W→Calls Tryz.prog 78 #[.pointer h.ptr,.string tk] W fun e W'=>e = .returned (uV xtk)∧Below W.heap.size W W'):=fun W hW=>HAtk.out _ W (hq2.below hW)
    have HB1:=Lib.hid (bl_drew (Below.refl w1.heap.size w1))
    clear hq2 HAtk
    refine wp_region_rely [[],[],[0,1],[],[0,1,2,3],[0,1,2,3,4],[0,1,2,3,4,5],[0,1,2,3,4,5],[],[0,1,2,3,4,5,6,8],[0,1,2,3,4,5,6,7,8,9]]
     [rgC (Below w1.heap.size w1),rgV 0 (.pointer h.ptr),rgV 1 (.string tk),rgV 2 (uV xtk),rgV 3 (uV a),rgV 4 (.tuple #[uV v,.int .i64 em]),rgV 5 (.tuple #[uV v,.int .i64 em]),rgV 6 (uV v),rgV 7 (.int .i64 em),rgP 8 (w1.heap.size),rgV 10 (.int .i64 em),rgS 8 9 (v)] _ (by kernel_rfl) (by kernel_rfl) (by kernel_rfl)
     (fun vs=>by simp only [rgAct,rgPut,List.setIfInBounds_toArray,List.set_cons_zero,List.set_cons_succ]; exact rfl)
     ⟨fun _ _ _ hb h=>bl_then h hb,rgV_st,rgV_st,rgV_st,rgV_st,rgV_st,rgV_st,rgV_st,rgV_st,rgP_st,rgV_st,rgS_st,trivial⟩ ?_ ?_ ?_
    ·refine rgAll_yes rfl HB1.out ?_
     iterate 11 refine rgAll_no rfl ?_
     exact trivial
    ·refine ⟨?_,?_,?_,?_,?_,?_,?_,?_,?_,?_,?_,trivial⟩
     ·rintro vs w1 ⟨_,_⟩ K hK
      refine rg_move rfl (.inl rfl) rfl (hK _ _ (.inl (Below.refl _ _)) ?_)
      exact rgNew_one 1 rfl fun _=>rfl
     ·rintro vs w1 ⟨_,_⟩ K hK
      refine rg_move rfl (.inl rfl) rfl (hK _ _ (.inl (Below.refl _ _)) ?_)
      exact rgNew_one 2 rfl fun _=>rfl
     ·rintro vs w1 ⟨hC,e0,e1,_⟩ K hK
      refine rg_fn rfl rfl rfl (by kernel_rfl) (show [vs 0,vs 1]=_ from by rw [rg1 e0,rg1 e1]) (Calls.mono (HA2.out _ hC) ?_)
      rintro e w2 ⟨rfl,hb⟩
      refine ⟨_,rfl,hK _ _ (.inl hb) ?_⟩
      exact rgNew_one 3 rfl fun _=>rfl
     ·rintro vs w1 ⟨hC,_⟩ K hK
      refine rg_loadU rfl rfl rfl ((HQ1.out.below hC).u4 (x:=a) (by simp)) (hK _ _ (.inl (Below.refl _ _)) ?_)
      exact rgNew_one 4 rfl fun _=>rfl
     ·rintro vs w1 ⟨_,_,_,e2,e3,_⟩ K hK
      refine rg_fn rfl rfl rfl (by kernel_rfl) (show [vs 2,vs 3]=_ from by rw [rg1 e2,rg1 e3]) (Calls.mono (HM.out _) ?_)
      rintro e w2 ⟨rfl,hb⟩
      refine ⟨_,rfl,hK _ _ (.inl hb) ?_⟩
      exact rgNew_one 5 rfl fun _=>rfl
     ·rintro vs w1 ⟨_,_,_,_,_,e4,_⟩ K hK
      refine rg_move rfl (.inl rfl) (rg1 e4) (hK _ _ (.inl (Below.refl _ _)) ?_)
      exact rgNew_one 6 rfl fun _=>rfl
     ·rintro vs w1 ⟨_,_,_,_,_,_,e5,_⟩ K hK
      refine rg_extract rfl rfl (rg1 e5) rfl (hK _ _ (.inl (Below.refl _ _)) ?_)
      exact rgNew_one 7 rfl fun _=>rfl
     ·rintro vs w1 ⟨_,_,_,_,_,_,e5,_⟩ K hK
      refine rg_extract rfl rfl (rg1 e5) rfl (hK _ _ (.inl (Below.refl _ _)) ?_)
      exact rgNew_one 8 rfl fun _=>rfl
     ·rintro vs w1 ⟨hC,_⟩ K hK
      refine rg_allocU rfl rfl (hK _ _ (.inl (bl_alloc (Below.refl _ _) _)) ?_)
      iterate 9 refine rgNew_no rfl ?_
      refine rgNew_yes rfl (fun _=>⟨_,_,rfl,hC.size,heap_alloc_new _ _⟩) ?_
      iterate 2 refine rgNew_no rfl ?_
      exact trivial
     ·rintro vs w1 ⟨hC,_,_,_,_,_,_,e6,⟨_,_,e8,h8,g8⟩,_⟩ K hK
      refine rg_storeU rfl rfl (rg1 e8) (rg1 e6) g8 (hK _ _ (.inr ?_) ?_)
      ·refine rgStay_yes rfl (fun hC _=>bput hC h8) ?_
       iterate 8 refine rgStay_yes rfl (fun h _=>h) ?_
       refine rgStay_yes rfl (fun h _=>rgP_put h) ?_
       iterate 2 refine rgStay_no rfl ?_
       exact trivial
      ·iterate 11 refine rgNew_no rfl ?_
       refine rgNew_yes rfl (fun _=>⟨_,_,by show [vs 8,undef]=_; rw [rg1 e8],setRow_heap _ _ _ _ _ _ g8⟩) ?_
       exact trivial
     ·rintro vs w1 ⟨_,_,_,_,_,_,_,_,e7,_,_,_⟩ K hK
      refine rg_move rfl (.inr rfl) (rg1 e7) (hK _ _ (.inl (Below.refl _ _)) ?_)
      exact rgNew_one 10 rfl fun _=>rfl
    ·intro vs w1 hA
     obtain ⟨hC,e0,e1,e2,e3,e4,e5,e6,e7,⟨p8b,_,e8,h8,g8⟩,e10,s9,_⟩:=hA
     have e0:=rg1 e0
     have e1:=rg1 e1
     have e2:=rg1 e2
     have e3:=rg1 e3
     have e4:=rg1 e4
     have e5:=rg1 e5
     have e6:=rg1 e6
     have e7:=rg1 e7
     have e8:=rg1 e8
     have e10:=rg1 e10
     have s9:=rgS_at s9 e8
     simp only [e0,e1,e2,e3,e4,e5,e6,e7,e8,e10]
     have hq3:=HQ1.out.add1 hC h8 s9
     have HD1:=Lib.hid hq3.done
     obtain ⟨u0,u1,u2,u3,_⟩:=row4 (hq3.u4 (g:=p8) (x:=u) (by simp))
     obtain ⟨v0,v1,v2,v3,_⟩:=row4 (hq3.u4 (g:=p8b) (x:=v) (by simp))
     clear e0 e1 e2 e3 e4 e5 e6 e7 e8 e10 g8 s9 h8 hC HM HA2 HB1 HQ1
     rcases HMC.out with rfl | rfl
     ·obtain ⟨he,hx⟩:=HE.out.2.2.2 (by trivial) HF.out (by trivial)
      subst he hx
      have HS1':=Lib.hid (HS1.out _ _ hq3)
      clear HE HMC HS1 HD1 hq3 HF
      go_wp2_with fail
      refine Calls.mono HS1'.out ?_
      rintro e w5 ⟨rfl,hq5⟩
      clear u0 u1 u2 u3 v0 v1 v2 v3
      obtain ⟨v0,v1,v2,v3,_⟩:=row4 (hq5.u4 (g:=p8b) (x:=v) (by simp))
      have HS2':=Lib.hid (HS2.out _ _ hq5)
      clear hq5 HS1' HS2
      go_wp2_with fail
      refine Calls.mono HS2'.out ?_
      rintro e w6 ⟨rfl,hq6⟩
      have HD:=Lib.hid hq6.done
      clear hq6 HS2'
      go_wp2_with fail
      go_ret
      exact ⟨rfl,HD.out⟩
     ·obtain ⟨he,hx⟩:=HE.out.2.2.1 (by trivial) HF.out (by trivial)
      subst he hx
      clear HE HMC HS1 HS2 hq3 HF
      go_wp2_with fail
      go_ret
      exact ⟨rfl,HD1.out⟩
  ·obtain ⟨he,hx⟩:=HE.out.1 (by trivial)
   subst he hx
   clear HE HLC HMC HS1 HS2 HM HAtk hq2
   go_wp2_with fail
   go_ret
   exact ⟨rfl,HD0.out⟩
end Go.Proofs.YtpojljieakdgiaaGreat
