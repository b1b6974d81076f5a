/- What is proved here: holdings of the program: Worth and Cut. Their conditions: sizes. holdings of the program: Take. Its conditions: sizes. holdings of the program: Shift. Its conditions: sizes. -/
import Derived.Test.YtpojljieakdgiaaGreatEHoldB
set_option maxRecDepth 100000
set_option maxHeartbeats 16000000
namespace Go.Proofs.YtpojljieakdgiaaGreat
open Go.RowKit
def R0:World→List Nat→St→Prop:=fun _ L _=>L = []
theorem r0_ok:RepOk R0:=by
 refine ⟨fun _ L _ h k hk => ?_,fun _ _ _ _ h _ _=>h⟩
 have h':L = []:=h
 rw [h'] at hk; cases hk
abbrev BV (w:World) (rs:List (Nat × Obj)) (W:World):Prop:=QV R0 w [] ⟨[],[]⟩ rs W
theorem BV.start (w:World):BV w [] w:=QV.start r0_ok rfl
theorem BV.bl {w W:World} {rs:List (Nat × Obj)} (h:BV w rs W):Below w.heap.size w W:=by
 obtain ⟨L',_,st,_⟩:=h.on
 exact ⟨st.fr.os,st.fr.tape,st.fr.output,st.fr.size,fun k hk=>st.fr.block k hk (by simp)⟩
theorem BV.reads {w W:World} {rs:List (Nat × Obj)} (h:BV w rs W) {f:FuncId} {args:Array Value} {v:Value} (hC:Calls Tryz.prog f args W fun e W'=>e = .returned v∧Below W.heap.size W W'):Calls Tryz.prog f args W fun e W'=>e = .returned v∧BV w rs W' :=
 QV.reads h fun _ _=>hC
theorem HV.reads {h:Hand} {w W:World} {s:St} {rs:List (Nat × Obj)} (hq:HV h w s rs W) {f:FuncId} {args:Array Value} {v:Value} (hC:∀ L',QSt W ⟨h.ptr,h.on,L'⟩ s→Calls Tryz.prog f args W fun e W'=>e = .returned v∧Below W.heap.size W W'):Calls Tryz.prog f args W fun e W'=>e = .returned v∧HV h w s rs W' :=
 QV.reads hq hC
theorem hWorth_q (w:World) (h:Hand) (s:St) (f:Nat) (a t:Int) (m:W4) (ha:I63 a) (ht:I63 t) (hm0:m.Ok) (hq:QSt w h s) (hf:s.Fit f) (hm:f < 100000000000) :
  Calls Tryz.prog 22 #[.pointer h.ptr,.int .i64 a,.int .i64 t,uV m] w fun e w'=>e = .returned (uV (worthW (s.dep a t) (s.fct a t) m))∧Below w.heap.size w w':=by
 have hB2:=((BV.start w).alloc (uO m)).alloc zO
 rw [World.size_alloc] at hB2
 have HR:Hid (∀ rs W,BV w rs W→Calls Tryz.prog 58 #[.pointer h.ptr,.int .i64 a,.int .i64 t] W fun e w'=>e = .returned (hV (s.dep a t) (s.fct a t))∧BV w rs w'):=fun rs W hW=>hW.reads (hread_q W h s f a t ha ht (hq.below hW.bl) hf hm)
 have HW:Hid (∀ rs W,BV w rs W→Calls Tryz.prog 70 #[uV (s.dep a t),uV (s.fct a t),uV m] W fun e w'=>e = .returned (.tuple #[uV (worthW (s.dep a t) (s.fct a t) m),.bool (goodB (s.dep a t) (s.fct a t) m)])∧BV w rs w'):=fun rs W hW=>hW.reads (fworth_any _ _ m (amt_ok _ _) (fct_ok _ _ _) hm0 W)
 have HB2:=Lib.hid hB2
 generalize worthW (s.dep a t) (s.fct a t) m=u at *
 generalize goodB (s.dep a t) (s.fct a t) m=ub at *
 generalize s.dep a t=d at *
 generalize s.fct a t=fc at *
 clear hB2 hq hf
 go_enter Tryz.func22,Tryz.ntmps22
 go_wp2_with fail
 refine Calls.mono (HR.out _ _ HB2.out) ?_
 rintro e w3 ⟨rfl,hB3⟩
 have hB4:=hB3.alloc (hO d fc)
 clear hB3 HB2 HR
 go_upto_region 2 with fail
 generalize w3.alloc (hO d fc)=w4 at *
 generalize w3.heap.size=g at *
 obtain ⟨⟨d0,d1,d2,d3⟩,⟨d4,d5,d6,d7⟩,fz⟩:=row8 (hB4.h8 (g:=g) (d:=d) (f:=fc) (by simp))
 obtain ⟨m0,m1,m2,m3,_⟩:=row4 (hB4.u4 (g:=w.heap.size) (x:=m) (by simp))
 have HB4:=Lib.hid hB4
 clear hB4
 go_wp2_with fail
 refine Calls.mono (HW.out _ _ HB4.out) ?_
 rintro e w5 ⟨rfl,hB5⟩
 have hB6:=hB5.alloc (uO u)
 clear d0 d1 d2 d3 d4 d5 d6 d7 fz m0 m1 m2 m3 hB5 HB4 HW
 go_upto_region 3 with fail
 generalize w5.alloc (uO u)=w6 at *
 generalize w5.heap.size=g2 at *
 have hz:=hB6.u4 (g:=w.heap.size+1) (x:=(0,0,0,0)) (by simp)
 obtain ⟨z0,z1,z2,z3,z4,z5,z6,z7⟩:=row4 hz
 obtain ⟨u0,u1,u2,u3,_⟩:=row4 (hB6.u4 (g:=g2) (x:=u) (by simp))
 have HZ:=Lib.hid (put4 hz u)
 have HB:=Lib.hid (put4_below (BV.bl hB6) (show w.heap.size≤w.heap.size+1 by omega) (.int .u64 u.1) (.int .u64 u.2.1) (.int .u64 u.2.2.1) (.int .u64 u.2.2.2))
 clear hB6 hz
 go_wp2_with fail
 refine bodyPost_ret (results_cell_row rfl _ _ (w.heap.size+1) 28 (uL u) (0,0) _ rfl HZ.out Tryz.underlying28 rfl (by kernel_rfl)) rfl ?_
 exact ⟨rfl,HB.out⟩
def cutB (s:St) (o t:Int) (tk fk:W4):Bool:=suB (s.prt o t) tk fk && decide (uN tk≤uN fk)
def cutW (s:St) (o t:Int) (tk fk:W4):W4:=if cutB s o t tk fk then subW (s.prt o t) (suW (s.prt o t) tk fk) else (0,0,0,0)
def cutE (s:St) (o t:Int) (tk fk:W4):Int:=if cutB s o t tk fk then 0 else 2
def Hand.cutSt (h:Hand) (s:St) (o t:Int) (tk fk:W4):St:=if cutB s o t tk fk then h.st s (s.setAmt (keyL 12 [o,t]) (suW (s.prt o t) tk fk)) else s
theorem cut_law (h:Hand) (s:St) (o t:Int) (tk fk:W4):(suB (s.prt o t) tk fk=false→cutW s o t tk fk=(0,0,0,0)∧cutE s o t tk fk=2∧h.cutSt s o t tk fk=s)∧(decide (0 < uCmp tk fk)=true→cutW s o t tk fk=(0,0,0,0)∧cutE s o t tk fk=2∧h.cutSt s o t tk fk=s) ∧
  (suB (s.prt o t) tk fk=true→decide (0 < uCmp tk fk)=false→cutW s o t tk fk=subW (s.prt o t) (suW (s.prt o t) tk fk)∧cutE s o t tk fk=0∧h.cutSt s o t tk fk=h.st s (s.setAmt (keyL 12 [o,t]) (suW (s.prt o t) tk fk))):=by
 unfold cutW cutE Hand.cutSt
 refine ⟨fun h1 => ?_,fun h1 => ?_,fun h1 h2 => ?_⟩
 ·have hb:cutB s o t tk fk=false:=by unfold cutB; rw [h1,Bool.false_and]
  rw [hb]; exact ⟨rfl,rfl,rfl⟩
 ·have hb:cutB s o t tk fk=false:=by
   have:=uCmp_gt0.1 (of_decide_eq_true h1)
   unfold cutB; rw [decide_eq_false (show ¬ uN tk≤uN fk by omega),Bool.and_false]
  rw [hb]; exact ⟨rfl,rfl,rfl⟩
 ·have hb:cutB s o t tk fk=true:=by
   have h3:¬ 0 < uCmp tk fk:=of_decide_eq_false h2
   rw [uCmp_gt0] at h3
   unfold cutB; rw [h1,decide_eq_true (show uN tk≤uN fk by omega)]; rfl
  rw [hb]; exact ⟨rfl,rfl,rfl⟩
theorem hCut_q (w:World) (h:Hand) (s:St) (f:Nat) (o t:Int) (tk fk:W4) (ho:I63 o) (ht:I63 t) (htk:tk.Ok) (hfk:fk.Ok) (hq:QSt w h s) (hf:s.Fit f) (hm:f < 10000000000) :
  Calls Tryz.prog 20 #[.pointer h.ptr,.int .i64 o,.int .i64 t,uV tk,uV fk] w fun e w'=>e = .returned (.tuple #[uV (cutW s o t tk fk),.int .i64 (cutE s o t tk fk)])∧QOn w h (h.cutSt s o t tk fk) w':=by
 have hB:=(((HV.start hq).alloc (uO tk)).alloc (uO fk)).alloc zO
 rw [World.size_alloc,World.size_alloc] at hB
 have HPa:Hid (∀ rs W,HV h w s rs W→Calls Tryz.prog 24 #[.pointer h.ptr,.int .i64 o,.int .i64 t] W fun e w'=>e = .returned (uV (s.prt o t))∧HV h w s rs w'):=fun rs W hW=>hW.reads fun L' h1=>hPart_q W ⟨h.ptr,h.on,L'⟩ s f o t ho ht h1 hf (by omega)
 have HU:Hid (∀ rs W,HV h w s rs W→Calls Tryz.prog 73 #[uV (s.prt o t),uV tk,uV fk] W fun e w'=>e = .returned (.tuple #[uV (suW (s.prt o t) tk fk),.bool (suB (s.prt o t) tk fk)])∧HV h w s rs w'):=fun rs W hW=>hW.reads fun _ _=>scaleup_any _ tk fk (amt_ok _ _) htk hfk W
 have HC:Hid (∀ rs W,HV h w s rs W→Calls Tryz.prog 74 #[uV tk,uV fk] W fun e w'=>e = .returned (.int .i64 (uCmp tk fk))∧HV h w s rs w'):=fun rs W hW=>hW.reads fun _ _=>ucmp_any tk fk htk hfk W
 have HP:Hid (∀ W,Calls Tryz.prog 63 #[.int .i64 o,.int .i64 t] W fun e w'=>e = .returned (.string (keyL 12 [o,t]))∧Below W.heap.size W w'):=hpart_any o t ho ht
 have HS:Hid (∀ rs W,HV h w s rs W→Calls Tryz.prog 75 #[.pointer h.ptr,.string (keyL 12 [o,t]),uV (suW (s.prt o t) tk fk)] W fun e W'=>e = .returned (.tuple #[])∧HV h w (h.st s (s.setAmt (keyL 12 [o,t]) (suW (s.prt o t) tk fk))) rs W'):=fun rs W hW=>hW.cset (Nat.lt_of_le_of_lt hf.size (by omega)) _ _
 have HD:Hid (∀ rs s' W,HV h w s' rs W→Calls Tryz.prog 69 #[uV (s.prt o t),uV (suW (s.prt o t) tk fk)] W fun e w'=>e = .returned (.tuple #[uV (subW (s.prt o t) (suW (s.prt o t) tk fk)),.bool (subB (s.prt o t) (suW (s.prt o t) tk fk))])∧HV h w s' rs w'):=fun rs s' W hW=>hW.reads fun _ _=>usub_is _ _ (amt_ok _ _) (suW_ok _ _ _) W
 have HL:=Lib.hid (cut_law h s o t tk fk)
 have HB:=Lib.hid hB
 generalize h.cutSt s o t tk fk=sx at *
 generalize h.st s (s.setAmt (keyL 12 [o,t]) (suW (s.prt o t) tk fk))=s2 at *
 generalize cutW s o t tk fk=cw at *
 generalize cutE s o t tk fk=ce at *
 generalize subB (s.prt o t) (suW (s.prt o t) tk fk)=lb at *
 generalize subW (s.prt o t) (suW (s.prt o t) tk fk)=l at *
 generalize suW (s.prt o t) tk fk=x at *
 generalize suB (s.prt o t) tk fk=xb at *
 generalize s.prt o t=p at *
 generalize keyL 12 [o,t]=kk at *
 have hgt:decide (0 < uCmp tk fk)=true∨decide (0 < uCmp tk fk)=false:=by cases decide (0 < uCmp tk fk) <;> simp
 have HGT:=Lib.hid hgt
 clear hB hq hf hgt
 generalize uCmp tk fk=cm at *
 go_enter Tryz.func20,Tryz.ntmps20
 go_wp2_with fail
 refine Calls.mono (HPa.out _ _ HB.out) ?_
 rintro e w3 ⟨rfl,hB3⟩
 have hB4:=hB3.alloc (uO p)
 clear hB3 HB HPa
 go_upto_region 2 with fail
 generalize w3.alloc (uO p)=w4 at *
 generalize w3.heap.size=g1 at *
 obtain ⟨p0,p1,p2,p3,_⟩:=row4 (hB4.u4 (g:=g1) (x:=p) (by simp))
 obtain ⟨a0,a1,a2,a3,_⟩:=row4 (hB4.u4 (g:=w.heap.size) (x:=tk) (by simp))
 obtain ⟨b0,b1,b2,b3,_⟩:=row4 (hB4.u4 (g:=w.heap.size+1) (x:=fk) (by simp))
 have HB4:=Lib.hid hB4
 clear hB4
 go_wp2_with fail
 refine Calls.mono (HU.out _ _ HB4.out) ?_
 rintro e w5 ⟨rfl,hB5⟩
 have hB6:=hB5.alloc (uO x)
 clear p0 p1 p2 p3 a0 a1 a2 a3 b0 b1 b2 b3 hB5 HB4 HU
 go_upto_region 3 with fail
 generalize w5.alloc (uO x)=w6 at *
 generalize w5.heap.size=g2 at *
 cases xb with
 | false =>
  obtain ⟨h1,h2,h3⟩:=HL.out.1 rfl
  subst h1 h2 h3
  have hz:=hB6.u4 (g:=w.heap.size+2) (x:=(0,0,0,0)) (by simp)
  obtain ⟨z0,z1,z2,z3,z4,z5,z6,z7⟩:=row4 hz
  have HZ:=Lib.hid (put4 hz (0,0,0,0))
  have HD2:=Lib.hid (QV.done (hB6.put4 (g:=w.heap.size+2) (y:=(0,0,0,0)) (0,0,0,0) (by simp) [] (fun _ hx=>by cases hx)))
  clear hz hB6 HL HC HS HD HP
  go_wp2_with fail
  refine bodyPost_ret (results_cell_row2 rfl _ _ (w.heap.size+2) 28 (uL (0,0,0,0)) (0,0) _ rfl HZ.out Tryz.underlying28 rfl (by kernel_rfl)) rfl ?_
  exact ⟨rfl,HD2.out⟩
 | true =>
  obtain ⟨a0,a1,a2,a3,_⟩:=row4 (hB6.u4 (g:=w.heap.size) (x:=tk) (by simp))
  obtain ⟨b0,b1,b2,b3,_⟩:=row4 (hB6.u4 (g:=w.heap.size+1) (x:=fk) (by simp))
  have HB6:=Lib.hid hB6
  clear hB6
  go_wp2_with fail
  refine Calls.mono (HC.out _ _ HB6.out) ?_
  rintro e w7 ⟨rfl,hB7⟩
  clear a0 a1 a2 a3 b0 b1 b2 b3 HB6 HC
  rcases HGT.out with hgt | hgt
  ·obtain ⟨h1,h2,h3⟩:=HL.out.2.1 hgt
   subst h1 h2 h3
   have hz:=hB7.u4 (g:=w.heap.size+2) (x:=(0,0,0,0)) (by simp)
   obtain ⟨z0,z1,z2,z3,z4,z5,z6,z7⟩:=row4 hz
   have HZ:=Lib.hid (put4 hz (0,0,0,0))
   have HD2:=Lib.hid (QV.done (hB7.put4 (g:=w.heap.size+2) (y:=(0,0,0,0)) (0,0,0,0) (by simp) [] (fun _ hx=>by cases hx)))
   clear hz hB7 HL HS HD HP HGT
   go_wp2_with fail
   refine bodyPost_ret (results_cell_row2 rfl _ _ (w.heap.size+2) 28 (uL (0,0,0,0)) (0,0) _ rfl HZ.out Tryz.underlying28 rfl (by kernel_rfl)) rfl ?_
   exact ⟨rfl,HD2.out⟩
  ·obtain ⟨h1,h2,h3⟩:=HL.out.2.2 (by trivial) hgt
   have h1':=h1.symm
   have h3':=h3.symm
   subst h1' h2 h3'
   clear HL HGT
   go_wp2_with fail
   go_upto_region 5 with fail
   have HQ:=Lib.hid hB7
   have HB0:=Lib.hid (bl_drew (Below.refl w7.heap.size w7))
   clear hB7
   refine wp_region_rely_tail 5 [[],[],[],[1,2],[],[0,1,2,3,4]]
    [rgC (Below w7.heap.size w7),rgV 0 (.pointer h.ptr),rgV 1 (.int .i64 o),rgV 2 (.int .i64 t),rgV 3 (.string kk),rgV 4 (uV x)] _ (by kernel_rfl) (by kernel_rfl) (by decide) (by kernel_rfl) (by kernel_rfl)
    (fun vs=>by simp only [rgAct,rgPut,List.setIfInBounds_toArray,List.set_cons_zero,List.set_cons_succ]; exact rfl)
    ⟨fun _ _ _ hb h=>bl_then h hb,rgV_st,rgV_st,rgV_st,rgV_st,rgV_st,trivial⟩ ?_ ?_ ?_
   ·refine rgAll_yes rfl HB0.out ?_
    iterate 5 refine rgAll_no rfl ?_
    exact trivial
   ·refine ⟨?_,?_,?_,?_,?_,trivial⟩
    ·rintro vs w1 ⟨_,_⟩ K hK
     refine rg_move rfl (.inl rfl) rfl (hK _ _ (.inl (Below.refl _ _)) ?_)
     exact rgNew_one 1 rfl fun _=>rfl
    ·rintro vs w1 ⟨_,_⟩ K hK
     refine rg_move rfl (.inl rfl) rfl (hK _ _ (.inl (Below.refl _ _)) ?_)
     exact rgNew_one 2 rfl fun _=>rfl
    ·rintro vs w1 ⟨_,_⟩ K hK
     refine rg_move rfl (.inl rfl) rfl (hK _ _ (.inl (Below.refl _ _)) ?_)
     exact rgNew_one 3 rfl fun _=>rfl
    ·rintro vs w1 ⟨_,e1,e2,_⟩ K hK
     refine rg_fn rfl rfl rfl (by kernel_rfl) (show [vs 1,vs 2]=_ from by rw [rg1 e1,rg1 e2]) (Calls.mono (HP.out _) ?_)
     rintro e w2 ⟨rfl,hb⟩
     refine ⟨_,rfl,hK _ _ (.inl hb) ?_⟩
     exact rgNew_one 4 rfl fun _=>rfl
    ·rintro vs w1 ⟨hC,_⟩ K hK
     refine rg_loadU rfl rfl rfl ((HQ.out.below hC).u4 (x:=x) (by simp)) (hK _ _ (.inl (Below.refl _ _)) ?_)
     exact rgNew_one 5 rfl fun _=>rfl
   ·intro vs w1 hA
    obtain ⟨hC,e0,e1,e2,e3,e4,_⟩:=hA
    have e0:=rg1 e0
    have e1:=rg1 e1
    have e2:=rg1 e2
    have e3:=rg1 e3
    have e4:=rg1 e4
    refine rgTail_cons ?_
    refine rg_fn rfl rfl rfl (by kernel_rfl) (show [vs 0,vs 3,vs 4]=_ from by rw [e0,e3,e4]) (Calls.mono (HS.out _ _ (HQ.out.below hC)) ?_)
    rintro e w2 ⟨rfl,hq2⟩
    refine ⟨_,rfl,?_⟩
    refine rgTail_nil ?_
    simp only [rgSet,Nat.reduceEqDiff,↓reduceIte,e0,e1,e2,e3,e4]
    obtain ⟨p0,p1,p2,p3,_⟩:=row4 (hq2.u4 (g:=g1) (x:=p) (by simp))
    obtain ⟨x0,x1,x2,x3,_⟩:=row4 (hq2.u4 (g:=g2) (x:=x) (by simp))
    have HQ2:=Lib.hid hq2
    clear e0 e1 e2 e3 e4 hC HP HS HB0 HQ hq2
    go_wp2_with fail
    refine Calls.mono (HD.out _ _ _ HQ2.out) ?_
    rintro e w8 ⟨rfl,hB8⟩
    have hB9:=hB8.alloc (uO l)
    clear p0 p1 p2 p3 x0 x1 x2 x3 hB8 HQ2 HD
    go_upto_region 7 with fail
    generalize w8.alloc (uO l)=w9 at *
    generalize w8.heap.size=g3 at *
    have hz:=hB9.u4 (g:=w.heap.size+2) (x:=(0,0,0,0)) (by simp)
    obtain ⟨z0,z1,z2,z3,z4,z5,z6,z7⟩:=row4 hz
    obtain ⟨x0,x1,x2,x3,_⟩:=row4 (hB9.u4 (g:=g3) (x:=l) (by simp))
    have HZ:=Lib.hid (put4 hz l)
    have HD2:=Lib.hid (QV.done (hB9.put4 (g:=w.heap.size+2) (y:=(0,0,0,0)) l (by simp) [] (fun _ hx=>by cases hx)))
    clear hz hB9
    go_wp2_with fail
    refine bodyPost_ret (results_cell_row2 rfl _ _ (w.heap.size+2) 28 (uL l) (0,0) _ rfl HZ.out Tryz.underlying28 rfl (by kernel_rfl)) rfl ?_
    exact ⟨rfl,HD2.out⟩
def takeE (s:St) (a o t:Int) (m x:W4):Int:=if x=(0,0,0,0) then 2 else if uN x≤uN (s.dep a t) then (if goodB x (s.fct a t) m then lessE' (s.prt o t) (worthW x (s.fct a t) m) else 6) else 13
def takeW (s:St) (a o t:Int) (m x:W4):W4:=if takeE s a o t m x=0 then worthW x (s.fct a t) m else (0,0,0,0)
def Hand.takeSt (h:Hand) (s:St) (a o t:Int) (m x:W4):St:=if takeE s a o t m x=0 then h.wr (h.subSt s (keyL 12 [o,t]) (worthW x (s.fct a t) m)) a t (subW (s.dep a t) x) (s.fct a t) else s
theorem take_law (h:Hand) (s:St) (a o t:Int) (m x:W4):(x=(0,0,0,0)→takeE s a o t m x=2∧takeW s a o t m x=(0,0,0,0)∧h.takeSt s a o t m x=s)∧(x≠(0,0,0,0)→subB (s.dep a t) x=false→takeE s a o t m x=13∧takeW s a o t m x=(0,0,0,0)∧h.takeSt s a o t m x=s) ∧
  (x≠(0,0,0,0)→subB (s.dep a t) x=true→goodB x (s.fct a t) m=false→takeE s a o t m x=6∧takeW s a o t m x=(0,0,0,0)∧h.takeSt s a o t m x=s) ∧
  (x≠(0,0,0,0)→subB (s.dep a t) x=true→goodB x (s.fct a t) m=true→lessE' (s.prt o t) (worthW x (s.fct a t) m)=13→takeE s a o t m x=13∧takeW s a o t m x=(0,0,0,0)∧h.takeSt s a o t m x=s∧h.subSt s (keyL 12 [o,t]) (worthW x (s.fct a t) m)=s) ∧
  (x≠(0,0,0,0)→subB (s.dep a t) x=true→goodB x (s.fct a t) m=true→lessE' (s.prt o t) (worthW x (s.fct a t) m)=0→takeE s a o t m x=0∧takeW s a o t m x=worthW x (s.fct a t) m∧h.takeSt s a o t m x=h.wr (h.subSt s (keyL 12 [o,t]) (worthW x (s.fct a t) m)) a t (subW (s.dep a t) x) (s.fct a t)):=by
 have fin:∀ n:Int,n≠0→takeE s a o t m x=n→takeE s a o t m x=n∧takeW s a o t m x=(0,0,0,0)∧h.takeSt s a o t m x=s:=fun n hn he=>by
  refine ⟨he,?_,?_⟩
  ·unfold takeW; rw [he,if_neg hn]
  ·unfold Hand.takeSt; rw [he,if_neg hn]
 have hsub:∀ b,subB (s.dep a t) x=b→decide (uN x≤uN (s.dep a t))=b:=fun b hb=>hb
 refine ⟨fun h1=>fin 2 (by decide) ?_,fun h1 h2=>fin 13 (by decide) ?_,fun h1 h2 h3=>fin 6 (by decide) ?_,fun h1 h2 h3 h4 => ?_,fun h1 h2 h3 h4 => ?_⟩
 ·unfold takeE; rw [if_pos h1]
 ·unfold takeE; rw [if_neg h1,if_neg (of_decide_eq_false (hsub _ h2))]
 ·unfold takeE; rw [if_neg h1,if_pos (of_decide_eq_true (hsub _ h2)),h3]; rfl
 ·have he:takeE s a o t m x=13:=by unfold takeE; rw [if_neg h1,if_pos (of_decide_eq_true (hsub _ h2)),if_pos h3,h4]
  obtain ⟨p1,p2,p3⟩:=fin 13 (by decide) he
  refine ⟨p1,p2,p3,?_⟩
  unfold Hand.subSt
  rw [if_neg (fun e=>by have:=h4.symm.trans e; exact absurd this (by decide))]
 ·have he:takeE s a o t m x=0:=by unfold takeE; rw [if_neg h1,if_pos (of_decide_eq_true (hsub _ h2)),if_pos h3,h4]
  refine ⟨he,?_,?_⟩
  ·unfold takeW; rw [if_pos he]
  ·unfold Hand.takeSt; rw [if_pos he]
theorem hTake_q (w:World) (h:Hand) (s:St) (f0:Nat) (a o t:Int) (m x:W4) (ha:I63 a) (ho:I63 o) (ht:I63 t) (hmo:m.Ok) (hxo:x.Ok) (hq:QSt w h s) (hf:s.Fit f0) (hm:f0 < 1000000000) :
  Calls Tryz.prog 18 #[.pointer h.ptr,.int .i64 a,.int .i64 o,.int .i64 t,uV m,uV x] w fun e w'=>e = .returned (.tuple #[uV (takeW s a o t m x),.int .i64 (takeE s a o t m x)])∧QOn w h (h.takeSt s a o t m x) w':=by
 have hB:=(((HV.start hq).alloc (uO m)).alloc (uO x)).alloc zO
 rw [World.size_alloc,World.size_alloc] at hB
 have HR:Hid (∀ rs W,HV h w s rs W→Calls Tryz.prog 58 #[.pointer h.ptr,.int .i64 a,.int .i64 t] W fun e w'=>e = .returned (hV (s.dep a t) (s.fct a t))∧HV h w s rs w'):=fun rs W hW=>hW.reads fun L' h1=>hread_q W ⟨h.ptr,h.on,L'⟩ s f0 a t ha ht h1 hf (by omega)
 have HD:Hid (∀ rs W,HV h w s rs W→Calls Tryz.prog 69 #[uV (s.dep a t),uV x] W fun e w'=>e = .returned (.tuple #[uV (subW (s.dep a t) x),.bool (subB (s.dep a t) x)])∧HV h w s rs w'):=fun rs W hW=>hW.reads fun _ _=>usub_is _ _ (amt_ok _ _) hxo W
 have HW:Hid (∀ rs W,HV h w s rs W→Calls Tryz.prog 70 #[uV x,uV (s.fct a t),uV m] W fun e w'=>e = .returned (.tuple #[uV (worthW x (s.fct a t) m),.bool (goodB x (s.fct a t) m)])∧HV h w s rs w'):=fun rs W hW=>hW.reads fun _ _=>fworth_any x _ m hxo (fct_ok _ _ _) hmo W
 have HP:Hid (∀ W,Calls Tryz.prog 63 #[.int .i64 o,.int .i64 t] W fun e w'=>e = .returned (.string (keyL 12 [o,t]))∧Below W.heap.size W w'):=hpart_any o t ho ht
 have HS:Hid (∀ rs W,HV h w s rs W→Calls Tryz.prog 71 #[.pointer h.ptr,.string (keyL 12 [o,t]),uV (worthW x (s.fct a t) m)] W fun e W'=>e = .returned (.int .i64 (lessE' (s.prt o t) (worthW x (s.fct a t) m)))∧HV h w (h.subSt s (keyL 12 [o,t]) (worthW x (s.fct a t) m)) rs W'):=fun rs W hW=>QV.call hW fun L' h1=>cSub_q W ⟨h.ptr,h.on,L'⟩ s f0 _ _ (worthW_ok _ _ _) h1 hf (by omega)
 have hfs:(h.subSt s (keyL 12 [o,t]) (worthW x (s.fct a t) m)).Fit (f0+2):=by
  unfold Hand.subSt; split
  ·exact Hand.st_fit (hf.mono (by omega)) (hf.setAmt _ _)
  ·exact hf.mono (by omega)
 have HWR:Hid (∀ rs W,HV h w (h.subSt s (keyL 12 [o,t]) (worthW x (s.fct a t) m)) rs W→Calls Tryz.prog 61 #[hV (subW (s.dep a t) x) (s.fct a t),.pointer h.ptr,.int .i64 a,.int .i64 t] W fun e W'=>e = .returned (.tuple #[])∧HV h w (h.wr (h.subSt s (keyL 12 [o,t]) (worthW x (s.fct a t) m)) a t (subW (s.dep a t) x) (s.fct a t)) rs W'):=fun rs W hW=>QV.call hW fun L' h1=>hwrite_q W ⟨h.ptr,h.on,L'⟩ _ (f0+2) a t _ _ ha ht h1 hfs (by omega)
 have HL:=Lib.hid (take_law h s a o t m x)
 have HLC:=Lib.hid (less_cases (s.prt o t) (worthW x (s.fct a t) m))
 have HB:=Lib.hid hB
 generalize h.takeSt s a o t m x=sx at *
 generalize h.wr (h.subSt s (keyL 12 [o,t]) (worthW x (s.fct a t) m)) a t (subW (s.dep a t) x) (s.fct a t)=s3 at *
 generalize h.subSt s (keyL 12 [o,t]) (worthW x (s.fct a t) m)=s2 at *
 generalize takeE s a o t m x=te at *
 generalize takeW s a o t m x=tw at *
 generalize lessE' (s.prt o t) (worthW x (s.fct a t) m)=le at *
 generalize goodB x (s.fct a t) m=gb at *
 generalize worthW x (s.fct a t) m=u at *
 generalize subB (s.dep a t) x=sb at *
 generalize subW (s.dep a t) x=rst at *
 generalize s.dep a t=d at *
 generalize s.fct a t=fc at *
 generalize keyL 12 [o,t]=kk at *
 by_cases hx0:x=(0,0,0,0)
 ·obtain ⟨h1,h2,h3⟩:=HL.out.1 hx0
  subst h1 h2 h3 hx0
  have hE:∀ w,(Op.equalIn 10000 28 (.agg #[.int .u64 0,.int .u64 0,.int .u64 0,.int .u64 0]) (.agg #[.int .u64 0,.int .u64 0,.int .u64 0,.int .u64 0])).run Tryz.prog w = .ok true w:=fun w=>eqU (0,0,0,0) (0,0,0,0) w
  have hz:(((w.alloc (uO m)).alloc zO).alloc zO).heap[w.heap.size+2]? = some zO:=HB.out.row (by simp)
  have HZ:=Lib.hid hz
  have HD2:=Lib.hid (QV.done hB)
  clear hB hz hq hf HL HLC HWR hfs HS HP HW HD HR HB
  go_enter Tryz.func18,Tryz.ntmps18
  go_wp2_with fail
  refine bodyPost_ret (results_cell_row2 rfl _ _ (w.heap.size+2) 28 (uL (0,0,0,0)) (0,0) _ rfl HZ.out Tryz.underlying28 rfl (by kernel_rfl)) rfl ?_
  exact ⟨rfl,HD2.out⟩
 ·have HX0:=Lib.hid hx0
  have hE:∀ w,(Op.equalIn 10000 28 (uV x) (.agg #[.int .u64 0,.int .u64 0,.int .u64 0,.int .u64 0])).run Tryz.prog w = .ok false w:=fun w=>by
   have:=eqU x (0,0,0,0) w
   rwa [decide_eq_false hx0] at this
  clear hB hq hf hfs hx0
  go_enter Tryz.func18,Tryz.ntmps18
  go_wp2_with fail
  refine Calls.mono (HR.out _ _ HB.out) ?_
  rintro e w3 ⟨rfl,hB3⟩
  have hB4:=hB3.alloc (hO d fc)
  clear hB3 HB HR hE
  go_upto_region 4 with fail
  generalize w3.alloc (hO d fc)=w4 at *
  generalize w3.heap.size=g1 at *
  obtain ⟨⟨d0,d1,d2,d3⟩,⟨d4,d5,d6,d7⟩,fz⟩:=row8 (hB4.h8 (g:=g1) (d:=d) (f:=fc) (by simp))
  obtain ⟨a0,a1,a2,a3,_⟩:=row4 (hB4.u4 (g:=w.heap.size+1) (x:=x) (by simp))
  have HB4:=Lib.hid hB4
  clear hB4
  go_wp2_with fail
  refine Calls.mono (HD.out _ _ HB4.out) ?_
  rintro e w5 ⟨rfl,hB5⟩
  have hB6:=hB5.alloc (uO rst)
  clear d0 d1 d2 d3 d4 d5 d6 d7 fz a0 a1 a2 a3 hB5 HB4 HD
  go_upto_region 5 with fail
  generalize w5.alloc (uO rst)=w6 at *
  generalize w5.heap.size=g2 at *
  cases sb with
  | false =>
   obtain ⟨h1,h2,h3⟩:=HL.out.2.1 HX0.out rfl
   subst h1 h2 h3
   have hz:=hB6.u4 (g:=w.heap.size+2) (x:=(0,0,0,0)) (by simp)
   obtain ⟨z0,z1,z2,z3,z4,z5,z6,z7⟩:=row4 hz
   have HZ:=Lib.hid (put4 hz (0,0,0,0))
   have HD2:=Lib.hid (QV.done (hB6.put4 (g:=w.heap.size+2) (y:=(0,0,0,0)) (0,0,0,0) (by simp) [] (fun _ hx=>by cases hx)))
   clear hz hB6 HL
   go_wp2_with fail
   refine bodyPost_ret (results_cell_row2 rfl _ _ (w.heap.size+2) 28 (uL (0,0,0,0)) (0,0) _ rfl HZ.out Tryz.underlying28 rfl (by kernel_rfl)) rfl ?_
   exact ⟨rfl,HD2.out⟩
  | true =>
   obtain ⟨⟨d0,d1,d2,d3⟩,⟨d4,d5,d6,d7⟩,fz⟩:=row8 (hB6.h8 (g:=g1) (d:=d) (f:=fc) (by simp))
   obtain ⟨a0,a1,a2,a3,_⟩:=row4 (hB6.u4 (g:=w.heap.size+1) (x:=x) (by simp))
   obtain ⟨b0,b1,b2,b3,_⟩:=row4 (hB6.u4 (g:=w.heap.size) (x:=m) (by simp))
   have HB6:=Lib.hid hB6
   clear hB6
   go_wp2_with fail
   refine Calls.mono (HW.out _ _ HB6.out) ?_
   rintro e w7 ⟨rfl,hB7⟩
   have hB8:=hB7.alloc (uO u)
   clear d0 d1 d2 d3 d4 d5 d6 d7 fz a0 a1 a2 a3 b0 b1 b2 b3 hB7 HB6 HW
   go_upto_region 8 with fail
   generalize w7.alloc (uO u)=w8 at *
   generalize w7.heap.size=g3 at *
   cases gb with
   | false =>
    obtain ⟨h1,h2,h3⟩:=HL.out.2.2.1 HX0.out (by trivial) (by trivial)
    subst h1 h2 h3
    have hz:=hB8.u4 (g:=w.heap.size+2) (x:=(0,0,0,0)) (by simp)
    obtain ⟨z0,z1,z2,z3,z4,z5,z6,z7⟩:=row4 hz
    have HZ:=Lib.hid (put4 hz (0,0,0,0))
    have HD2:=Lib.hid (QV.done (hB8.put4 (g:=w.heap.size+2) (y:=(0,0,0,0)) (0,0,0,0) (by simp) [] (fun _ hx=>by cases hx)))
    clear hz hB8 HL
    go_wp2_with fail
    refine bodyPost_ret (results_cell_row2 rfl _ _ (w.heap.size+2) 28 (uL (0,0,0,0)) (0,0) _ rfl HZ.out Tryz.underlying28 rfl (by kernel_rfl)) rfl ?_
    exact ⟨rfl,HD2.out⟩
   | true =>
    have HQ:=Lib.hid hB8
    have HB0:=Lib.hid (bl_drew (Below.refl w8.heap.size w8))
    clear hB8
    go_wp2_with fail
    go_upto_region 10 with fail
    refine wp_region_rely_tail 5 [[],[],[],[1,2],[],[0,1,2,3,4],[0,1,2,3,4,5]]
     [rgC (Below w8.heap.size w8),rgV 0 (.pointer h.ptr),rgV 1 (.int .i64 o),rgV 2 (.int .i64 t),rgV 3 (.string kk),rgV 4 (uV u)] _ (by kernel_rfl) (by kernel_rfl) (by decide) (by kernel_rfl) (by kernel_rfl)
     (fun vs=>by simp only [rgAct,rgPut,List.setIfInBounds_toArray,List.set_cons_zero,List.set_cons_succ]; exact rfl)
     ⟨fun _ _ _ hb h=>bl_then h hb,rgV_st,rgV_st,rgV_st,rgV_st,rgV_st,trivial⟩ ?_ ?_ ?_
    ·refine rgAll_yes rfl HB0.out ?_
     iterate 5 refine rgAll_no rfl ?_
     exact trivial
    ·refine ⟨?_,?_,?_,?_,?_,trivial⟩
     ·rintro vs w1 ⟨_,_⟩ K hK
      refine rg_move rfl (.inl rfl) rfl (hK _ _ (.inl (Below.refl _ _)) ?_)
      exact rgNew_one 1 rfl fun _=>rfl
     ·rintro vs w1 ⟨_,_⟩ K hK
      refine rg_move rfl (.inl rfl) rfl (hK _ _ (.inl (Below.refl _ _)) ?_)
      exact rgNew_one 2 rfl fun _=>rfl
     ·rintro vs w1 ⟨_,_⟩ K hK
      refine rg_move rfl (.inl rfl) rfl (hK _ _ (.inl (Below.refl _ _)) ?_)
      exact rgNew_one 3 rfl fun _=>rfl
     ·rintro vs w1 ⟨_,e1,e2,_⟩ K hK
      refine rg_fn rfl rfl rfl (by kernel_rfl) (show [vs 1,vs 2]=_ from by rw [rg1 e1,rg1 e2]) (Calls.mono (HP.out _) ?_)
      rintro e w2 ⟨rfl,hb⟩
      refine ⟨_,rfl,hK _ _ (.inl hb) ?_⟩
      exact rgNew_one 4 rfl fun _=>rfl
     ·rintro vs w1 ⟨hC,_⟩ K hK
      refine rg_loadU rfl rfl rfl ((HQ.out.below hC).u4 (x:=u) (by simp)) (hK _ _ (.inl (Below.refl _ _)) ?_)
      exact rgNew_one 5 rfl fun _=>rfl
    ·intro vs w1 hA
     obtain ⟨hC,e0,e1,e2,e3,e4,_⟩:=hA
     have e0:=rg1 e0
     have e1:=rg1 e1
     have e2:=rg1 e2
     have e3:=rg1 e3
     have e4:=rg1 e4
     refine rgTail_cons ?_
     refine rg_fn rfl rfl rfl (by kernel_rfl) (show [vs 0,vs 3,vs 4]=_ from by rw [e0,e3,e4]) (Calls.mono (HS.out _ _ (HQ.out.below hC)) ?_)
     rintro e w2 ⟨rfl,hq2⟩
     refine ⟨_,rfl,?_⟩
     refine rgTail_cons ?_
     refine rg_move rfl (.inr rfl) rfl ?_
     refine rgTail_nil ?_
     simp only [rgSet,Nat.reduceEqDiff,↓reduceIte,e0,e1,e2,e3,e4]
     clear e0 e1 e2 e3 e4 hC HP HS HB0 HQ
     rcases HLC.out with rfl | rfl
     ·obtain ⟨h1,h2,h3⟩:=HL.out.2.2.2.2 HX0.out (by trivial) (by trivial) (by trivial)
      have h2':=h2.symm
      have h3':=h3.symm
      subst h1 h2' h3'
      obtain ⟨r0,r1,r2,r3,_⟩:=row4 (hq2.u4 (g:=g2) (x:=rst) (by simp))
      obtain ⟨⟨d0,d1,d2,d3⟩,⟨d4,d5,d6,d7⟩,fz⟩:=row8 (hq2.h8 (g:=g1) (d:=d) (f:=fc) (by simp))
      have HQ2:=Lib.hid hq2
      clear hq2 HL HLC
      go_wp2_with fail
      refine Calls.mono (HWR.out _ _ HQ2.out) ?_
      rintro e w9 ⟨rfl,hB9⟩
      clear r0 r1 r2 r3 d0 d1 d2 d3 d4 d5 d6 d7 fz HQ2 HWR
      have hz:=hB9.u4 (g:=w.heap.size+2) (x:=(0,0,0,0)) (by simp)
      obtain ⟨z0,z1,z2,z3,z4,z5,z6,z7⟩:=row4 hz
      obtain ⟨u0,u1,u2,u3,_⟩:=row4 (hB9.u4 (g:=g3) (x:=u) (by simp))
      have HZ:=Lib.hid (put4 hz u)
      have HD2:=Lib.hid (QV.done (hB9.put4 (g:=w.heap.size+2) (y:=(0,0,0,0)) u (by simp) [] (fun _ hx=>by cases hx)))
      clear hz hB9
      go_wp2_with fail
      refine bodyPost_ret (results_cell_row2 rfl _ _ (w.heap.size+2) 28 (uL u) (0,0) _ rfl HZ.out Tryz.underlying28 rfl (by kernel_rfl)) rfl ?_
      exact ⟨rfl,HD2.out⟩
     ·obtain ⟨h1,h2,h3,h4⟩:=HL.out.2.2.2.1 HX0.out (by trivial) (by trivial) (by trivial)
      have h4':=h4
      subst h1 h2 h3 h4'
      have hz:=hq2.u4 (g:=w.heap.size+2) (x:=(0,0,0,0)) (by simp)
      obtain ⟨z0,z1,z2,z3,z4,z5,z6,z7⟩:=row4 hz
      have HZ:=Lib.hid (put4 hz (0,0,0,0))
      have HD2:=Lib.hid (QV.done (hq2.put4 (g:=w.heap.size+2) (y:=(0,0,0,0)) (0,0,0,0) (by simp) [] (fun _ hx=>by cases hx)))
      clear hz hq2 HL
      go_wp2_with fail
      refine bodyPost_ret (results_cell_row2 rfl _ _ (w.heap.size+2) 28 (uL (0,0,0,0)) (0,0) _ rfl HZ.out Tryz.underlying28 rfl (by kernel_rfl)) rfl ?_
      exact ⟨rfl,HD2.out⟩
end Go.Proofs.YtpojljieakdgiaaGreat
