/- What is proved here: holdings of the program: Worth and Cut. Their conditions: sizes. holdings of the program: Take. Its conditions: sizes. holdings of the program: Shift. Its conditions: sizes. -/
import Derived.Test.YtpojljieakdgiaaGreatDHoldB
set_option maxRecDepth 100000
set_option maxHeartbeats 16000000
namespace Go.Proofs.YtpojljieakdgiaaGreat
open Go.RowKit
def R0:World→List Nat→St→Prop:=fun _ L _=>L = []
theorem r0_ok:RepOk R0:=by
 refine ⟨fun _ L _ h k hk => ?_,fun _ _ _ _ h _ _=>h⟩
 have h':L = []:=h
 rw [h'] at hk; cases hk
abbrev BV (w:World) (rs:List (Nat × Obj)) (W:World):Prop:=QV R0 w [] ⟨[],[]⟩ rs W
theorem BV.start (w:World):BV w [] w:=QV.start r0_ok rfl
theorem BV.bl {w W:World} {rs:List (Nat × Obj)} (h:BV w rs W):Below w.heap.size w W:=by
 obtain ⟨L',_,st,_⟩:=h.on
 exact ⟨st.fr.os,st.fr.tape,st.fr.output,st.fr.size,fun k hk=>st.fr.block k hk (by simp)⟩
theorem BV.reads {w W:World} {rs:List (Nat × Obj)} (h:BV w rs W) {f:FuncId} {args:Array Value} {v:Value} (hC:Calls Tryz.prog f args W fun e W'=>e = .returned v∧Below W.heap.size W W'):Calls Tryz.prog f args W fun e W'=>e = .returned v∧BV w rs W' :=
 QV.reads h fun _ _=>hC
theorem HV.reads {h:Hand} {w W:World} {s:St} {rs:List (Nat × Obj)} (hq:HV h w s rs W) {f:FuncId} {args:Array Value} {v:Value} (hC:∀ L',QSt W ⟨h.ptr,h.on,L'⟩ s→Calls Tryz.prog f args W fun e W'=>e = .returned v∧Below W.heap.size W W'):Calls Tryz.prog f args W fun e W'=>e = .returned v∧HV h w s rs W' :=
 QV.reads hq hC
theorem hWorth_q (w:World) (h:Hand) (s:St) (f:Nat) (a t:Int) (m:W4) (ha:I63 a) (ht:I63 t) (hm0:m.Ok) (hq:QSt w h s) (hf:s.Fit f) (hm:f < 100000000000) :
  Calls Tryz.prog 22 #[.pointer h.ptr,.int .i64 a,.int .i64 t,uV m] w fun e w'=>e = .returned (uV (worthW (s.dep a t) (s.fct a t) m))∧Below w.heap.size w w':=by
 have hB2:=((BV.start w).alloc (uO m)).alloc zO
 rw [World.size_alloc] at hB2
 have HR:Hid (∀ rs W,BV w rs W→Calls Tryz.prog 58 #[.pointer h.ptr,.int .i64 a,.int .i64 t] W fun e w'=>e = .returned (hV (s.dep a t) (s.fct a t))∧BV w rs w'):=fun rs W hW=>hW.reads (hread_q W h s f a t ha ht (hq.below hW.bl) hf hm)
 have HW:Hid (∀ rs W,BV w rs W→Calls Tryz.prog 70 #[uV (s.dep a t),uV (s.fct a t),uV m] W fun e w'=>e = .returned (.tuple #[uV (worthW (s.dep a t) (s.fct a t) m),.bool (goodB (s.dep a t) (s.fct a t) m)])∧BV w rs w'):=fun rs W hW=>hW.reads (fworth_any _ _ m (amt_ok _ _) (fct_ok _ _ _) hm0 W)
 have HB2:=Lib.hid hB2
 generalize worthW (s.dep a t) (s.fct a t) m=u at *
 generalize goodB (s.dep a t) (s.fct a t) m=ub at *
 generalize s.dep a t=d at *
 generalize s.fct a t=fc at *
 clear hB2 hq hf
 go_enter Tryz.func22,Tryz.ntmps22
 go_wp2_with fail
 refine Calls.mono (HR.out _ _ HB2.out) ?_
 rintro e w3 ⟨rfl,hB3⟩
 have hB4:=hB3.alloc (hO d fc)
 clear hB3 HB2 HR
 go_upto_region 2 with fail
 generalize w3.alloc (hO d fc)=w4 at *
 generalize w3.heap.size=g at *
 obtain ⟨⟨d0,d1,d2,d3⟩,⟨d4,d5,d6,d7⟩,fz⟩:=row8 (hB4.h8 (g:=g) (d:=d) (f:=fc) (by simp))
 obtain ⟨m0,m1,m2,m3,_⟩:=row4 (hB4.u4 (g:=w.heap.size) (x:=m) (by simp))
 have HB4:=Lib.hid hB4
 clear hB4
 go_wp2_with fail
 refine Calls.mono (HW.out _ _ HB4.out) ?_
 rintro e w5 ⟨rfl,hB5⟩
 have hB6:=hB5.alloc (uO u)
 clear d0 d1 d2 d3 d4 d5 d6 d7 fz m0 m1 m2 m3 hB5 HB4 HW
 go_upto_region 3 with fail
 generalize w5.alloc (uO u)=w6 at *
 generalize w5.heap.size=g2 at *
 have hz:=hB6.u4 (g:=w.heap.size+1) (x:=(0,0,0,0)) (by simp)
 obtain ⟨z0,z1,z2,z3,z4,z5,z6,z7⟩:=row4 hz
 obtain ⟨u0,u1,u2,u3,_⟩:=row4 (hB6.u4 (g:=g2) (x:=u) (by simp))
 have HZ:=Lib.hid (put4 hz u)
 have HB:=Lib.hid (put4_below (BV.bl hB6) (show w.heap.size≤w.heap.size+1 by omega) (.int .u64 u.1) (.int .u64 u.2.1) (.int .u64 u.2.2.1) (.int .u64 u.2.2.2))
 clear hB6 hz
 go_wp2_with fail
 refine bodyPost_ret (results_cell_row rfl _ _ (w.heap.size+1) 28 (uL u) (0,0) _ rfl HZ.out Tryz.underlying28 rfl (by kernel_rfl)) rfl ?_
 exact ⟨rfl,HB.out⟩
def cutB (s:St) (o t:Int) (tk fk:W4):Bool:=suB (s.prt o t) tk fk && decide (uN tk≤uN fk)
def cutW (s:St) (o t:Int) (tk fk:W4):W4:=if cutB s o t tk fk then subW (s.prt o t) (suW (s.prt o t) tk fk) else (0,0,0,0)
def cutE (s:St) (o t:Int) (tk fk:W4):Int:=if cutB s o t tk fk then 0 else 2
def Hand.cutSt (h:Hand) (s:St) (o t:Int) (tk fk:W4):St:=if cutB s o t tk fk then h.st s (s.setAmt (keyL 12 [o,t]) (suW (s.prt o t) tk fk)) else s
theorem cut_law (h:Hand) (s:St) (o t:Int) (tk fk:W4):(suB (s.prt o t) tk fk=false→cutW s o t tk fk=(0,0,0,0)∧cutE s o t tk fk=2∧h.cutSt s o t tk fk=s)∧(decide (0 < uCmp tk fk)=true→cutW s o t tk fk=(0,0,0,0)∧cutE s o t tk fk=2∧h.cutSt s o t tk fk=s) ∧
  (suB (s.prt o t) tk fk=true→decide (0 < uCmp tk fk)=false→cutW s o t tk fk=subW (s.prt o t) (suW (s.prt o t) tk fk)∧cutE s o t tk fk=0∧h.cutSt s o t tk fk=h.st s (s.setAmt (keyL 12 [o,t]) (suW (s.prt o t) tk fk))):=by
 unfold cutW cutE Hand.cutSt
 refine ⟨fun h1 => ?_,fun h1 => ?_,fun h1 h2 => ?_⟩
 ·have hb:cutB s o t tk fk=false:=by unfold cutB; rw [h1,Bool.false_and]
  rw [hb]; exact ⟨rfl,rfl,rfl⟩
 ·have hb:cutB s o t tk fk=false:=by
   have:=uCmp_gt0.1 (of_decide_eq_true h1)
   unfold cutB; rw [decide_eq_false (show ¬ uN tk≤uN fk by omega),Bool.and_false]
  rw [hb]; exact ⟨rfl,rfl,rfl⟩
 ·have hb:cutB s o t tk fk=true:=by
   have h3:¬ 0 < uCmp tk fk:=of_decide_eq_false h2
   rw [uCmp_gt0] at h3
   unfold cutB; rw [h1,decide_eq_true (show uN tk≤uN fk by omega)]; rfl
  rw [hb]; exact ⟨rfl,rfl,rfl⟩
theorem hCut_q (w:World) (h:Hand) (s:St) (f:Nat) (o t:Int) (tk fk:W4) (ho:I63 o) (ht:I63 t) (htk:tk.Ok) (hfk:fk.Ok) (hq:QSt w h s) (hf:s.Fit f) (hm:f < 10000000000) :
  Calls Tryz.prog 20 #[.pointer h.ptr,.int .i64 o,.int .i64 t,uV tk,uV fk] w fun e w'=>e = .returned (.tuple #[uV (cutW s o t tk fk),.int .i64 (cutE s o t tk fk)])∧QOn w h (h.cutSt s o t tk fk) w':=by
 have hB:=(((HV.start hq).alloc (uO tk)).alloc (uO fk)).alloc zO
 rw [World.size_alloc,World.size_alloc] at hB
 have HPa:Hid (∀ rs W,HV h w s rs W→Calls Tryz.prog 24 #[.pointer h.ptr,.int .i64 o,.int .i64 t] W fun e w'=>e = .returned (uV (s.prt o t))∧HV h w s rs w'):=fun rs W hW=>hW.reads fun L' h1=>hPart_q W ⟨h.ptr,h.on,L'⟩ s f o t ho ht h1 hf (by omega)
 have HU:Hid (∀ rs W,HV h w s rs W→Calls Tryz.prog 73 #[uV (s.prt o t),uV tk,uV fk] W fun e w'=>e = .returned (.tuple #[uV (suW (s.prt o t) tk fk),.bool (suB (s.prt o t) tk fk)])∧HV h w s rs w'):=fun rs W hW=>hW.reads fun _ _=>scaleup_any _ tk fk (amt_ok _ _) htk hfk W
 have HC:Hid (∀ rs W,HV h w s rs W→Calls Tryz.prog 74 #[uV tk,uV fk] W fun e w'=>e = .returned (.int .i64 (uCmp tk fk))∧HV h w s rs w'):=fun rs W hW=>hW.reads fun _ _=>ucmp_any tk fk htk hfk W
 have HP:Hid (∀ W,Calls Tryz.prog 63 #[.int .i64 o,.int .i64 t] W fun e w'=>e = .returned (.string (keyL 12 [o,t]))∧Below W.heap.size W w'):=hpart_any o t ho ht
 have HS:Hid (∀ rs W,HV h w s rs W→Calls Tryz.prog 75 #[.pointer h.ptr,.string (keyL 12 [o,t]),uV (suW (s.prt o t) tk fk)] W fun e W'=>e = .returned (.tuple #[])∧HV h w (h.st s (s.setAmt (keyL 12 [o,t]) (suW (s.prt o t) tk fk))) rs W'):=fun rs W hW=>hW.cset (Nat.lt_of_le_of_lt hf.size (by omega)) _ _
 have HD:Hid (∀ rs s' W,HV h w s' rs W→Calls Tryz.prog 69 #[uV (s.prt o t),uV (suW (s.prt o t) tk fk)] W fun e w'=>e = .returned (.tuple #[uV (subW (s.prt o t) (suW (s.prt o t) tk fk)),.bool (subB (s.prt o t) (suW (s.prt o t) tk fk))])∧HV h w s' rs w'):=fun rs s' W hW=>hW.reads fun _ _=>usub_is _ _ (amt_ok _ _) (suW_ok _ _ _) W
 have HL:=Lib.hid (cut_law h s o t tk fk)
 have HB:=Lib.hid hB
 generalize h.cutSt s o t tk fk=sx at *
 generalize h.st s (s.setAmt (keyL 12 [o,t]) (suW (s.prt o t) tk fk))=s2 at *
 generalize cutW s o t tk fk=cw at *
 generalize cutE s o t tk fk=ce at *
 generalize subB (s.prt o t) (suW (s.prt o t) tk fk)=lb at *
 generalize subW (s.prt o t) (suW (s.prt o t) tk fk)=l at *
 generalize suW (s.prt o t) tk fk=x at *
 generalize suB (s.prt o t) tk fk=xb at *
 generalize s.prt o t=p at *
 generalize keyL 12 [o,t]=kk at *
 have hgt:decide (0 < uCmp tk fk)=true∨decide (0 < uCmp tk fk)=false:=by cases decide (0 < uCmp tk fk) <;> simp
 have HGT:=Lib.hid hgt
 clear hB hq hf hgt
 generalize uCmp tk fk=cm at *
 go_enter Tryz.func20,Tryz.ntmps20
 go_wp2_with fail
 refine Calls.mono (HPa.out _ _ HB.out) ?_
 rintro e w3 ⟨rfl,hB3⟩
 have hB4:=hB3.alloc (uO p)
 clear hB3 HB HPa
 go_upto_region 2 with fail
 generalize w3.alloc (uO p)=w4 at *
 generalize w3.heap.size=g1 at *
 obtain ⟨p0,p1,p2,p3,_⟩:=row4 (hB4.u4 (g:=g1) (x:=p) (by simp))
 obtain ⟨a0,a1,a2,a3,_⟩:=row4 (hB4.u4 (g:=w.heap.size) (x:=tk) (by simp))
 obtain ⟨b0,b1,b2,b3,_⟩:=row4 (hB4.u4 (g:=w.heap.size+1) (x:=fk) (by simp))
 have HB4:=Lib.hid hB4
 clear hB4
 go_wp2_with fail
 refine Calls.mono (HU.out _ _ HB4.out) ?_
 rintro e w5 ⟨rfl,hB5⟩
 have hB6:=hB5.alloc (uO x)
 clear p0 p1 p2 p3 a0 a1 a2 a3 b0 b1 b2 b3 hB5 HB4 HU
 go_upto_region 3 with fail
 generalize w5.alloc (uO x)=w6 at *
 generalize w5.heap.size=g2 at *
 cases xb with
 | false =>
  obtain ⟨h1,h2,h3⟩:=HL.out.1 rfl
  subst h1 h2 h3
  have hz:=hB6.u4 (g:=w.heap.size+2) (x:=(0,0,0,0)) (by simp)
  obtain ⟨z0,z1,z2,z3,z4,z5,z6,z7⟩:=row4 hz
  have HZ:=Lib.hid (put4 hz (0,0,0,0))
  have HD2:=Lib.hid (QV.done (hB6.put4 (g:=w.heap.size+2) (y:=(0,0,0,0)) (0,0,0,0) (by simp) [] (fun _ hx=>by cases hx)))
  clear hz hB6 HL HC HS HD HP
  go_wp2_with fail
  refine bodyPost_ret (results_cell_row2 rfl _ _ (w.heap.size+2) 28 (uL (0,0,0,0)) (0,0) _ rfl HZ.out Tryz.underlying28 rfl (by kernel_rfl)) rfl ?_
  exact ⟨rfl,HD2.out⟩
 | true =>
  obtain ⟨a0,a1,a2,a3,_⟩:=row4 (hB6.u4 (g:=w.heap.size) (x:=tk) (by simp))
  obtain ⟨b0,b1,b2,b3,_⟩:=row4 (hB6.u4 (g:=w.heap.size+1) (x:=fk) (by simp))
  have HB6:=Lib.hid hB6
  clear hB6
  go_wp2_with fail
  refine Calls.mono (HC.out _ _ HB6.out) ?_
  rintro e w7 ⟨rfl,hB7⟩
  clear a0 a1 a2 a3 b0 b1 b2 b3 HB6 HC
  rcases HGT.out with hgt | hgt
  ·obtain ⟨h1,h2,h3⟩:=HL.out.2.1 hgt
   subst h1 h2 h3
   have hz:=hB7.u4 (g:=w.heap.size+2) (x:=(0,0,0,0)) (by simp)
   obtain ⟨z0,z1,z2,z3,z4,z5,z6,z7⟩:=row4 hz
   have HZ:=Lib.hid (put4 hz (0,0,0,0))
   have HD2:=Lib.hid (QV.done (hB7.put4 (g:=w.heap.size+2) (y:=(0,0,0,0)) (0,0,0,0) (by simp) [] (fun _ hx=>by cases hx)))
   clear hz hB7 HL HS HD HP HGT
   go_wp2_with fail
   refine bodyPost_ret (results_cell_row2 rfl _ _ (w.heap.size+2) 28 (uL (0,0,0,0)) (0,0) _ rfl HZ.out Tryz.underlying28 rfl (by kernel_rfl)) rfl ?_
   exact ⟨rfl,HD2.out⟩
  ·obtain ⟨h1,h2,h3⟩:=HL.out.2.2 (by trivial) hgt
   have h1':=h1.symm
   have h3':=h3.symm
   subst h1' h2 h3'
   clear HL HGT
   go_wp2_with fail
   go_upto_region 5 with fail
   have HQ:=Lib.hid hB7
   have HB0:=Lib.hid (bl_drew (Below.refl w7.heap.size w7))
   clear hB7
   refine wp_region_rely_tail 5 [[],[],[],[1,2],[],[0,1,2,3,4]]
    [rgC (Below w7.heap.size w7),rgV 0 (.pointer h.ptr),rgV 1 (.int .i64 o),rgV 2 (.int .i64 t),rgV 3 (.string kk),rgV 4 (uV x)] _ (by kernel_rfl) (by kernel_rfl) (by decide) (by kernel_rfl) (by kernel_rfl)
    (fun vs=>by simp only [rgAct,rgPut,List.setIfInBounds_toArray,List.set_cons_zero,List.set_cons_succ]; exact rfl)
    ⟨fun _ _ _ hb h=>bl_then h hb,rgV_st,rgV_st,rgV_st,rgV_st,rgV_st,trivial⟩ ?_ ?_ ?_
   ·refine rgAll_yes rfl HB0.out ?_
    iterate 5 refine rgAll_no rfl ?_
    exact trivial
   ·refine ⟨?_,?_,?_,?_,?_,trivial⟩
    ·rintro vs w1 ⟨_,_⟩ K hK
     refine rg_move rfl (.inl rfl) rfl (hK _ _ (.inl (Below.refl _ _)) ?_)
     exact rgNew_one 1 rfl fun _=>rfl
    ·rintro vs w1 ⟨_,_⟩ K hK
     refine rg_move rfl (.inl rfl) rfl (hK _ _ (.inl (Below.refl _ _)) ?_)
     exact rgNew_one 2 rfl fun _=>rfl
    ·rintro vs w1 ⟨_,_⟩ K hK
     refine rg_move rfl (.inl rfl) rfl (hK _ _ (.inl (Below.refl _ _)) ?_)
     exact rgNew_one 3 rfl fun _=>rfl
    ·rintro vs w1 ⟨_,e1,e2,_⟩ K hK
     refine rg_fn rfl rfl rfl (by kernel_rfl) (show [vs 1,vs 2]=_ from by rw [rg1 e1,rg1 e2]) (Calls.mono (HP.out _) ?_)
     rintro e w2 ⟨rfl,hb⟩
     refine ⟨_,rfl,hK _ _ (.inl hb) ?_⟩
     exact rgNew_one 4 rfl fun _=>rfl
    ·rintro vs w1 ⟨hC,_⟩ K hK
     refine rg_loadU rfl rfl rfl ((HQ.out.below hC).u4 (x:=x) (by simp)) (hK _ _ (.inl (Below.refl _ _)) ?_)
     exact rgNew_one 5 rfl fun _=>rfl
   ·intro vs w1 hA
    obtain ⟨hC,e0,e1,e2,e3,e4,_⟩:=hA
    have e0:=rg1 e0
    have e1:=rg1 e1
    have e2:=rg1 e2
    have e3:=rg1 e3
    have e4:=rg1 e4
    refine rgTail_cons ?_
    refine rg_fn rfl rfl rfl (by kernel_rfl) (show [vs 0,vs 3,vs 4]=_ from by rw [e0,e3,e4]) (Calls.mono (HS.out _ _ (HQ.out.below hC)) ?_)
    rintro e w2 ⟨rfl,hq2⟩
    refine ⟨_,rfl,?_⟩
    refine rgTail_nil ?_
    simp only [rgSet,Nat.reduceEqDiff,↓reduceIte,e0,e1,e2,e3,e4]
    obtain ⟨p0,p1,p2,p3,_⟩:=row4 (hq2.u4 (g:=g1) (x:=p) (by simp))
    obtain ⟨x0,x1,x2,x3,_⟩:=row4 (hq2.u4 (g:=g2) (x:=x) (by simp))
    have HQ2:=Lib.hid hq2
    clear e0 e1 e2 e3 e4 hC HP HS HB0 HQ hq2
    go_wp2_with fail
    refine Calls.mono (HD.out _ _ _ HQ2.out) ?_
    rintro e w8 ⟨rfl,hB8⟩
    have hB9:=hB8.alloc (uO l)
    clear p0 p1 p2 p3 x0 x1 x2 x3 hB8 HQ2 HD
    go_upto_region 7 with fail
    generalize w8.alloc (uO l)=w9 at *
    generalize w8.heap.size=g3 at *
    have hz:=hB9.u4 (g:=w.heap.size+2) (x:=(0,0,0,0)) (by simp)
    obtain ⟨z0,z1,z2,z3,z4,z5,z6,z7⟩:=row4 hz
    obtain ⟨x0,x1,x2,x3,_⟩:=row4 (hB9.u4 (g:=g3) (x:=l) (by simp))
    have HZ:=Lib.hid (put4 hz l)
    have HD2:=Lib.hid (QV.done (hB9.put4 (g:=w.heap.size+2) (y:=(0,0,0,0)) l (by simp) [] (fun _ hx=>by cases hx)))
    clear hz hB9
    go_wp2_with fail
    refine bodyPost_ret (results_cell_row2 rfl _ _ (w.heap.size+2) 28 (uL l) (0,0) _ rfl HZ.out Tryz.underlying28 rfl (by kernel_rfl)) rfl ?_
    exact ⟨rfl,HD2.out⟩
def takeE (s:St) (a o t:Int) (m x:W4):Int:=if x=(0,0,0,0) then 2 else if uN x≤uN (s.dep a t) then (if goodB x (s.fct a t) m then lessE' (s.prt o t) (worthW x (s.fct a t) m) else 6) else 13
def takeW (s:St) (a o t:Int) (m x:W4):W4:=if takeE s a o t m x=0 then worthW x (s.fct a t) m else (0,0,0,0)
def Hand.takeSt (h:Hand) (s:St) (a o t:Int) (m x:W4):St:=if takeE s a o t m x=0 then h.wr (h.subSt s (keyL 12 [o,t]) (worthW x (s.fct a t) m)) a t (subW (s.dep a t) x) (s.fct a t) else s
theorem take_law (h:Hand) (s:St) (a o t:Int) (m x:W4):(x=(0,0,0,0)→takeE s a o t m x=2∧takeW s a o t m x=(0,0,0,0)∧h.takeSt s a o t m x=s)∧(x≠(0,0,0,0)→subB (s.dep a t) x=false→takeE s a o t m x=13∧takeW s a o t m x=(0,0,0,0)∧h.takeSt s a o t m x=s) ∧
  (x≠(0,0,0,0)→subB (s.dep a t) x=true→goodB x (s.fct a t) m=false→takeE s a o t m x=6∧takeW s a o t m x=(0,0,0,0)∧h.takeSt s a o t m x=s) ∧
  (x≠(0,0,0,0)→subB (s.dep a t) x=true→goodB x (s.fct a t) m=true→lessE' (s.prt o t) (worthW x (s.fct a t) m)=13→takeE s a o t m x=13∧takeW s a o t m x=(0,0,0,0)∧h.takeSt s a o t m x=s∧h.subSt s (keyL 12 [o,t]) (worthW x (s.fct a t) m)=s) ∧
  (x≠(0,0,0,0)→subB (s.dep a t) x=true→goodB x (s.fct a t) m=true→lessE' (s.prt o t) (worthW x (s.fct a t) m)=0→takeE s a o t m x=0∧takeW s a o t m x=worthW x (s.fct a t) m∧h.takeSt s a o t m x=h.wr (h.subSt s (keyL 12 [o,t]) (worthW x (s.fct a t) m)) a t (subW (s.dep a t) x) (s.fct a t)):=by
 have fin:∀ n:Int,n≠0→takeE s a o t m x=n→takeE s a o t m x=n∧takeW s a o t m x=(0,0,0,0)∧h.takeSt s a o t m x=s:=fun n hn he=>by
  refine ⟨he,?_,?_⟩
  ·unfold takeW; rw [he,if_neg hn]
  ·unfold Hand.takeSt; rw [he,if_neg hn]
 have hsub:∀ b,subB (s.dep a t) x=b→decide (uN x≤uN (s.dep a t))=b:=fun b hb=>hb
 refine ⟨fun h1=>fin 2 (by decide) ?_,fun h1 h2=>fin 13 (by decide) ?_,fun h1 h2 h3=>fin 6 (by decide) ?_,fun h1 h2 h3 h4 => ?_,fun h1 h2 h3 h4 => ?_⟩
 ·unfold takeE; rw [if_pos h1]
 ·unfold takeE; rw [if_neg h1,if_neg (of_decide_eq_false (hsub _ h2))]
 ·unfold takeE; rw [if_neg h1,if_pos (of_decide_eq_true (hsub _ h2)),h3]; rfl
 ·have he:takeE s a o t m x=13:=by unfold takeE; rw [if_neg h1,if_pos (of_decide_eq_true (hsub _ h2)),if_pos h3,h4]
  obtain ⟨p1,p2,p3⟩:=fin 13 (by decide) he
  refine ⟨p1,p2,p3,?_⟩
  unfold Hand.subSt
  rw [if_neg (fun e=>by have:=h4.symm.trans e; exact absurd this (by decide))]
 ·have he:takeE s a o t m x=0:=by unfold takeE; rw [if_neg h1,if_pos (of_decide_eq_true (hsub _ h2)),if_pos h3,h4]
  refine ⟨he,?_,?_⟩
  ·unfold takeW; rw [if_pos he]
  ·unfold Hand.takeSt; rw [if_pos he]
theorem hTake_q (w:World) (h:Hand) (s:St) (f0:Nat) (a o t:Int) (m x:W4) (ha:I63 a) (ho:I63 o) (ht:I63 t) (hmo:m.Ok) (hxo:x.Ok) (hq:QSt w h s) (hf:s.Fit f0) (hm:f0 < 1000000000) :
  Calls Tryz.prog 18 #[.pointer h.ptr,.int .i64 a,.int .i64 o,.int .i64 t,uV m,uV x] w fun e w'=>e = .returned (.tuple #[uV (takeW s a o t m x),.int .i64 (takeE s a o t m x)])∧QOn w h (h.takeSt s a o t m x) w':=by
 have hB:=(((HV.start hq).alloc (uO m)).alloc (uO x)).alloc zO
 rw [World.size_alloc,World.size_alloc] at hB
 have HR:Hid (∀ rs W,HV h w s rs W→Calls Tryz.prog 58 #[.pointer h.ptr,.int .i64 a,.int .i64 t] W fun e w'=>e = .returned (hV (s.dep a t) (s.fct a t))∧HV h w s rs w'):=fun rs W hW=>hW.reads fun L' h1=>hread_q W ⟨h.ptr,h.on,L'⟩ s f0 a t ha ht h1 hf (by omega)
 have HD:Hid (∀ rs W,HV h w s rs W→Calls Tryz.prog 69 #[uV (s.dep a t),uV x] W fun e w'=>e = .returned (.tuple #[uV (subW (s.dep a t) x),.bool (subB (s.dep a t) x)])∧HV h w s rs w'):=fun rs W hW=>hW.reads fun _ _=>usub_is _ _ (amt_ok _ _) hxo W
 have HW:Hid (∀ rs W,HV h w s rs W→Calls Tryz.prog 70 #[uV x,uV (s.fct a t),uV m] W fun e w'=>e = .returned (.tuple #[uV (worthW x (s.fct a t) m),.bool (goodB x (s.fct a t) m)])∧HV h w s rs w'):=fun rs W hW=>hW.reads fun _ _=>fworth_any x _ m hxo (fct_ok _ _ _) hmo W
 have HP:Hid (∀ W,Calls Tryz.prog 63 #[.int .i64 o,.int .i64 t] W fun e w'=>e = .returned (.string (keyL 12 [o,t]))∧Below W.heap.size W w'):=hpart_any o t ho ht
 have HS:Hid (∀ rs W,HV h w s rs W→Calls Tryz.prog 71 #[.pointer h.ptr,.string (keyL 12 [o,t]),uV (worthW x (s.fct a t) m)] W fun e W'=>e = .returned (.int .i64 (lessE' (s.prt o t) (worthW x (s.fct a t) m)))∧HV h w (h.subSt s (keyL 12 [o,t]) (worthW x (s.fct a t) m)) rs W'):=fun rs W hW=>QV.call hW fun L' h1=>cSub_q W ⟨h.ptr,h.on,L'⟩ s f0 _ _ (worthW_ok _ _ _) h1 hf (by omega)
 have hfs:(h.subSt s (keyL 12 [o,t]) (worthW x (s.fct a t) m)).Fit (f0+2):=by
  unfold Hand.subSt; split
  ·exact Hand.st_fit (hf.mono (by omega)) (hf.setAmt _ _)
  ·exact hf.mono (by omega)
 have HWR:Hid (∀ rs W,HV h w (h.subSt s (keyL 12 [o,t]) (worthW x (s.fct a t) m)) rs W→Calls Tryz.prog 61 #[hV (subW (s.dep a t) x) (s.fct a t),.pointer h.ptr,.int .i64 a,.int .i64 t] W fun e W'=>e = .returned (.tuple #[])∧HV h w (h.wr (h.subSt s (keyL 12 [o,t]) (worthW x (s.fct a t) m)) a t (subW (s.dep a t) x) (s.fct a t)) rs W'):=fun rs W hW=>QV.call hW fun L' h1=>hwrite_q W ⟨h.ptr,h.on,L'⟩ _ (f0+2) a t _ _ ha ht h1 hfs (by omega)
 have HL:=Lib.hid (take_law h s a o t m x)
 have HLC:=Lib.hid (less_cases (s.prt o t) (worthW x (s.fct a t) m))
 have HB:=Lib.hid hB
 generalize h.takeSt s a o t m x=sx at *
 generalize h.wr (h.subSt s (keyL 12 [o,t]) (worthW x (s.fct a t) m)) a t (subW (s.dep a t) x) (s.fct a t)=s3 at *
 generalize h.subSt s (keyL 12 [o,t]) (worthW x (s.fct a t) m)=s2 at *
 generalize takeE s a o t m x=te at *
 generalize takeW s a o t m x=tw at *
 generalize lessE' (s.prt o t) (worthW x (s.fct a t) m)=le at *
 generalize goodB x (s.fct a t) m=gb at *
 generalize worthW x (s.fct a t) m=u at *
 generalize subB (s.dep a t) x=sb at *
 generalize subW (s.dep a t) x=rst at *
 generalize s.dep a t=d at *
 generalize s.fct a t=fc at *
 generalize keyL 12 [o,t]=kk at *
 by_cases hx0:x=(0,0,0,0)
 ·obtain ⟨h1,h2,h3⟩:=HL.out.1 hx0
  subst h1 h2 h3 hx0
  have hE:∀ w,(Op.equalIn 10000 28 (.agg #[.int .u64 0,.int .u64 0,.int .u64 0,.int .u64 0]) (.agg #[.int .u64 0,.int .u64 0,.int .u64 0,.int .u64 0])).run Tryz.prog w = .ok true w:=fun w=>eqU (0,0,0,0) (0,0,0,0) w
  have hz:(((w.alloc (uO m)).alloc zO).alloc zO).heap[w.heap.size+2]? = some zO:=HB.out.row (by simp)
  have HZ:=Lib.hid hz
  have HD2:=Lib.hid (QV.done hB)
  clear hB hz hq hf HL HLC HWR hfs HS HP HW HD HR HB
  go_enter Tryz.func18,Tryz.ntmps18
  go_wp2_with fail
  refine bodyPost_ret (results_cell_row2 rfl _ _ (w.heap.size+2) 28 (uL (0,0,0,0)) (0,0) _ rfl HZ.out Tryz.underlying28 rfl (by kernel_rfl)) rfl ?_
  exact ⟨rfl,HD2.out⟩
 ·have HX0:=Lib.hid hx0
  have hE:∀ w,(Op.equalIn 10000 28 (uV x) (.agg #[.int .u64 0,.int .u64 0,.int .u64 0,.int .u64 0])).run Tryz.prog w = .ok false w:=fun w=>by
   have:=eqU x (0,0,0,0) w
   rwa [decide_eq_false hx0] at this
  clear hB hq hf hfs hx0
  go_enter Tryz.func18,Tryz.ntmps18
  go_wp2_with fail
  refine Calls.mono (HR.out _ _ HB.out) ?_
  rintro e w3 ⟨rfl,hB3⟩
  have hB4:=hB3.alloc (hO d fc)
  clear hB3 HB HR hE
  go_upto_region 4 with fail
  generalize w3.alloc (hO d fc)=w4 at *
  generalize w3.heap.size=g1 at *
  obtain ⟨⟨d0,d1,d2,d3⟩,⟨d4,d5,d6,d7⟩,fz⟩:=row8 (hB4.h8 (g:=g1) (d:=d) (f:=fc) (by simp))
  obtain ⟨a0,a1,a2,a3,_⟩:=row4 (hB4.u4 (g:=w.heap.size+1) (x:=x) (by simp))
  have HB4:=Lib.hid hB4
  clear hB4
  go_wp2_with fail
  refine Calls.mono (HD.out _ _ HB4.out) ?_
  rintro e w5 ⟨rfl,hB5⟩
  have hB6:=hB5.alloc (uO rst)
  clear d0 d1 d2 d3 d4 d5 d6 d7 fz a0 a1 a2 a3 hB5 HB4 HD
  go_upto_region 5 with fail
  generalize w5.alloc (uO rst)=w6 at *
  generalize w5.heap.size=g2 at *
  cases sb with
  | false =>
   obtain ⟨h1,h2,h3⟩:=HL.out.2.1 HX0.out rfl
   subst h1 h2 h3
   have hz:=hB6.u4 (g:=w.heap.size+2) (x:=(0,0,0,0)) (by simp)
   obtain ⟨z0,z1,z2,z3,z4,z5,z6,z7⟩:=row4 hz
   have HZ:=Lib.hid (put4 hz (0,0,0,0))
   have HD2:=Lib.hid (QV.done (hB6.put4 (g:=w.heap.size+2) (y:=(0,0,0,0)) (0,0,0,0) (by simp) [] (fun _ hx=>by cases hx)))
   clear hz hB6 HL
   go_wp2_with fail
   refine bodyPost_ret (results_cell_row2 rfl _ _ (w.heap.size+2) 28 (uL (0,0,0,0)) (0,0) _ rfl HZ.out Tryz.underlying28 rfl (by kernel_rfl)) rfl ?_
   exact ⟨rfl,HD2.out⟩
  | true =>
   obtain ⟨⟨d0,d1,d2,d3⟩,⟨d4,d5,d6,d7⟩,fz⟩:=row8 (hB6.h8 (g:=g1) (d:=d) (f:=fc) (by simp))
   obtain ⟨a0,a1,a2,a3,_⟩:=row4 (hB6.u4 (g:=w.heap.size+1) (x:=x) (by simp))
   obtain ⟨b0,b1,b2,b3,_⟩:=row4 (hB6.u4 (g:=w.heap.size) (x:=m) (by simp))
   have HB6:=Lib.hid hB6
   clear hB6
   go_wp2_with fail
   refine Calls.mono (HW.out _ _ HB6.out) ?_
   rintro e w7 ⟨rfl,hB7⟩
   have hB8:=hB7.alloc (uO u)
   clear d0 d1 d2 d3 d4 d5 d6 d7 fz a0 a1 a2 a3 b0 b1 b2 b3 hB7 HB6 HW
   go_upto_region 8 with fail
   generalize w7.alloc (uO u)=w8 at *
   generalize w7.heap.size=g3 at *
   cases gb with
   | false =>
    obtain ⟨h1,h2,h3⟩:=HL.out.2.2.1 HX0.out (by trivial) (by trivial)
    subst h1 h2 h3
    have hz:=hB8.u4 (g:=w.heap.size+2) (x:=(0,0,0,0)) (by simp)
    obtain ⟨z0,z1,z2,z3,z4,z5,z6,z7⟩:=row4 hz
    have HZ:=Lib.hid (put4 hz (0,0,0,0))
    have HD2:=Lib.hid (QV.done (hB8.put4 (g:=w.heap.size+2) (y:=(0,0,0,0)) (0,0,0,0) (by simp) [] (fun _ hx=>by cases hx)))
    clear hz hB8 HL
    go_wp2_with fail
    refine bodyPost_ret (results_cell_row2 rfl _ _ (w.heap.size+2) 28 (uL (0,0,0,0)) (0,0) _ rfl HZ.out Tryz.underlying28 rfl (by kernel_rfl)) rfl ?_
    exact ⟨rfl,HD2.out⟩
   | true =>
    have HQ:=Lib.hid hB8
    have HB0:=Lib.hid (bl_drew (Below.refl w8.heap.size w8))
    clear hB8
    go_wp2_with fail
    go_upto_region 10 with fail
    refine wp_region_rely_tail 5 [[],[],[],[1,2],[],[0,1,2,3,4],[0,1,2,3,4,5]]
     [rgC (Below w8.heap.size w8),rgV 0 (.pointer h.ptr),rgV 1 (.int .i64 o),rgV 2 (.int .i64 t),rgV 3 (.string kk),rgV 4 (uV u)] _ (by kernel_rfl) (by kernel_rfl) (by decide) (by kernel_rfl) (by kernel_rfl)
     (fun vs=>by simp only [rgAct,rgPut,List.setIfInBounds_toArray,List.set_cons_zero,List.set_cons_succ]; exact rfl)
     ⟨fun _ _ _ hb h=>bl_then h hb,rgV_st,rgV_st,rgV_st,rgV_st,rgV_st,trivial⟩ ?_ ?_ ?_
    ·refine rgAll_yes rfl HB0.out ?_
     iterate 5 refine rgAll_no rfl ?_
     exact trivial
    ·refine ⟨?_,?_,?_,?_,?_,trivial⟩
     ·rintro vs w1 ⟨_,_⟩ K hK
      refine rg_move rfl (.inl rfl) rfl (hK _ _ (.inl (Below.refl _ _)) ?_)
      exact rgNew_one 1 rfl fun _=>rfl
     ·rintro vs w1 ⟨_,_⟩ K hK
      refine rg_move rfl (.inl rfl) rfl (hK _ _ (.inl (Below.refl _ _)) ?_)
      exact rgNew_one 2 rfl fun _=>rfl
     ·rintro vs w1 ⟨_,_⟩ K hK
      refine rg_move rfl (.inl rfl) rfl (hK _ _ (.inl (Below.refl _ _)) ?_)
      exact rgNew_one 3 rfl fun _=>rfl
     ·rintro vs w1 ⟨_,e1,e2,_⟩ K hK
      refine rg_fn rfl rfl rfl (by kernel_rfl) (show [vs 1,vs 2]=_ from by rw [rg1 e1,rg1 e2]) (Calls.mono (HP.out _) ?_)
      rintro e w2 ⟨rfl,hb⟩
      refine ⟨_,rfl,hK _ _ (.inl hb) ?_⟩
      exact rgNew_one 4 rfl fun _=>rfl
     ·rintro vs w1 ⟨hC,_⟩ K hK
      refine rg_loadU rfl rfl rfl ((HQ.out.below hC).u4 (x:=u) (by simp)) (hK _ _ (.inl (Below.refl _ _)) ?_)
      exact rgNew_one 5 rfl fun _=>rfl
    ·intro vs w1 hA
     obtain ⟨hC,e0,e1,e2,e3,e4,_⟩:=hA
     have e0:=rg1 e0
     have e1:=rg1 e1
     have e2:=rg1 e2
     have e3:=rg1 e3
     have e4:=rg1 e4
     refine rgTail_cons ?_
     refine rg_fn rfl rfl rfl (by kernel_rfl) (show [vs 0,vs 3,vs 4]=_ from by rw [e0,e3,e4]) (Calls.mono (HS.out _ _ (HQ.out.below hC)) ?_)
     rintro e w2 ⟨rfl,hq2⟩
     refine ⟨_,rfl,?_⟩
     refine rgTail_cons ?_
     refine rg_move rfl (.inr rfl) rfl ?_
     refine rgTail_nil ?_
     simp only [rgSet,Nat.reduceEqDiff,↓reduceIte,e0,e1,e2,e3,e4]
     clear e0 e1 e2 e3 e4 hC HP HS HB0 HQ
     rcases HLC.out with rfl | rfl
     ·obtain ⟨h1,h2,h3⟩:=HL.out.2.2.2.2 HX0.out (by trivial) (by trivial) (by trivial)
      have h2':=h2.symm
      have h3':=h3.symm
      subst h1 h2' h3'
      obtain ⟨r0,r1,r2,r3,_⟩:=row4 (hq2.u4 (g:=g2) (x:=rst) (by simp))
      obtain ⟨⟨d0,d1,d2,d3⟩,⟨d4,d5,d6,d7⟩,fz⟩:=row8 (hq2.h8 (g:=g1) (d:=d) (f:=fc) (by simp))
      have HQ2:=Lib.hid hq2
      clear hq2 HL HLC
      go_wp2_with fail
      refine Calls.mono (HWR.out _ _ HQ2.out) ?_
      rintro e w9 ⟨rfl,hB9⟩
      clear r0 r1 r2 r3 d0 d1 d2 d3 d4 d5 d6 d7 fz HQ2 HWR
      have hz:=hB9.u4 (g:=w.heap.size+2) (x:=(0,0,0,0)) (by simp)
      obtain ⟨z0,z1,z2,z3,z4,z5,z6,z7⟩:=row4 hz
      obtain ⟨u0,u1,u2,u3,_⟩:=row4 (hB9.u4 (g:=g3) (x:=u) (by simp))
      have HZ:=Lib.hid (put4 hz u)
      have HD2:=Lib.hid (QV.done (hB9.put4 (g:=w.heap.size+2) (y:=(0,0,0,0)) u (by simp) [] (fun _ hx=>by cases hx)))
      clear hz hB9
      go_wp2_with fail
      refine bodyPost_ret (results_cell_row2 rfl _ _ (w.heap.size+2) 28 (uL u) (0,0) _ rfl HZ.out Tryz.underlying28 rfl (by kernel_rfl)) rfl ?_
      exact ⟨rfl,HD2.out⟩
     ·obtain ⟨h1,h2,h3,h4⟩:=HL.out.2.2.2.1 HX0.out (by trivial) (by trivial) (by trivial)
      have h4':=h4
      subst h1 h2 h3 h4'
      have hz:=hq2.u4 (g:=w.heap.size+2) (x:=(0,0,0,0)) (by simp)
      obtain ⟨z0,z1,z2,z3,z4,z5,z6,z7⟩:=row4 hz
      have HZ:=Lib.hid (put4 hz (0,0,0,0))
      have HD2:=Lib.hid (QV.done (hq2.put4 (g:=w.heap.size+2) (y:=(0,0,0,0)) (0,0,0,0) (by simp) [] (fun _ hx=>by cases hx)))
      clear hz hq2 HL
      go_wp2_with fail
      refine bodyPost_ret (results_cell_row2 rfl _ _ (w.heap.size+2) 28 (uL (0,0,0,0)) (0,0) _ rfl HZ.out Tryz.underlying28 rfl (by kernel_rfl)) rfl ?_
      exact ⟨rfl,HD2.out⟩
def shiftE (s:St) (a o t:Int) (m:W4):Int:=if o < 1 then 2 else if s.dep a t=(0,0,0,0) then 0 else if m=(0,0,0,0) then 14 else if moveB (s.dep a t) (s.fct a t) m then moveE s (keyL 12 [0,t]) (keyL 12 [o,t]) (worthW (s.dep a t) (s.fct a t) oneW) else 6
def shiftOk (s:St) (a o t:Int) (m:W4):Bool:=decide (shiftE s a o t m=0) && decide (s.dep a t≠(0,0,0,0))
def shiftW (s:St) (a o t:Int) (m:W4):W4:=if shiftOk s a o t m then worthW (s.dep a t) (s.fct a t) oneW else (0,0,0,0)
def Hand.shiftSt (h:Hand) (s:St) (a o t:Int) (m:W4):St:=if shiftOk s a o t m then h.wr (h.moveSt s (keyL 12 [0,t]) (keyL 12 [o,t]) (worthW (s.dep a t) (s.fct a t) oneW)) a t (s.dep a t) (moveW (s.dep a t) (s.fct a t) m) else s
theorem moveE_cases (s:St) (fk tk:ByteArray) (a:W4):moveE s fk tk a=0∨moveE s fk tk a=6∨moveE s fk tk a=13:=by
 unfold moveE
 split
 ·split
  ·exact .inl rfl
  ·rcases more_cases (s.amt tk) a with h | h
   ·exact .inl h
   ·exact .inr (.inl h)
 ·exact .inr (.inr rfl)
theorem moveSt_no (h:Hand) (s:St) (fk tk:ByteArray) (a:W4) (hn:moveE s fk tk a≠0):h.moveSt s fk tk a=s:=by
 unfold Hand.moveSt
 rw [if_neg]
 rintro ⟨h1,h2,h3⟩
 apply hn
 unfold moveE
 rw [if_pos h1,if_neg h2,h3]
theorem shift_law (h:Hand) (s:St) (a o t:Int) (m:W4):(o < 1→shiftE s a o t m=2∧shiftW s a o t m=(0,0,0,0)∧h.shiftSt s a o t m=s)∧(1≤o→s.dep a t=(0,0,0,0)→shiftE s a o t m=0∧shiftW s a o t m=(0,0,0,0)∧h.shiftSt s a o t m=s) ∧
  (1≤o→s.dep a t≠(0,0,0,0)→m=(0,0,0,0)→shiftE s a o t m=14∧shiftW s a o t m=(0,0,0,0)∧h.shiftSt s a o t m=s) ∧
  (1≤o→s.dep a t≠(0,0,0,0)→m≠(0,0,0,0)→moveB (s.dep a t) (s.fct a t) m=false→shiftE s a o t m=6∧shiftW s a o t m=(0,0,0,0)∧h.shiftSt s a o t m=s) ∧
  (∀ n,n≠0→1≤o→s.dep a t≠(0,0,0,0)→m≠(0,0,0,0)→moveB (s.dep a t) (s.fct a t) m=true→moveE s (keyL 12 [0,t]) (keyL 12 [o,t]) (worthW (s.dep a t) (s.fct a t) oneW)=n→shiftE s a o t m=n∧shiftW s a o t m=(0,0,0,0)∧h.shiftSt s a o t m=s∧h.moveSt s (keyL 12 [0,t]) (keyL 12 [o,t]) (worthW (s.dep a t) (s.fct a t) oneW)=s) ∧
  (1≤o→s.dep a t≠(0,0,0,0)→m≠(0,0,0,0)→moveB (s.dep a t) (s.fct a t) m=true→moveE s (keyL 12 [0,t]) (keyL 12 [o,t]) (worthW (s.dep a t) (s.fct a t) oneW)=0→shiftE s a o t m=0∧shiftW s a o t m=worthW (s.dep a t) (s.fct a t) oneW∧h.shiftSt s a o t m=h.wr (h.moveSt s (keyL 12 [0,t]) (keyL 12 [o,t]) (worthW (s.dep a t) (s.fct a t) oneW)) a t (s.dep a t) (moveW (s.dep a t) (s.fct a t) m)):=by
 have fin:∀ n:Int,shiftE s a o t m=n→(n≠0∨s.dep a t=(0,0,0,0))→shiftE s a o t m=n∧shiftW s a o t m=(0,0,0,0)∧h.shiftSt s a o t m=s:=fun n he hn=>by
  have hk:shiftOk s a o t m=false:=by
   unfold shiftOk
   rw [he]
   rcases hn with hn | hn
   ·rw [decide_eq_false hn,Bool.false_and]
   ·rw [decide_eq_false (show ¬ s.dep a t≠(0,0,0,0) from fun e=>e hn),Bool.and_false]
  refine ⟨he,?_,?_⟩
  ·unfold shiftW; rw [hk]; rfl
  ·unfold Hand.shiftSt; rw [hk]; rfl
 refine ⟨fun h1=>fin 2 ?_ (.inl (by decide)),fun h1 h2=>fin 0 ?_ (.inr h2),fun h1 h2 h3=>fin 14 ?_ (.inl (by decide)),fun h1 h2 h3 h4=>fin 6 ?_ (.inl (by decide)),fun n hn h1 h2 h3 h4 h5 => ?_,fun h1 h2 h3 h4 h5 => ?_⟩
 ·unfold shiftE; rw [if_pos h1]
 ·unfold shiftE; rw [if_neg (Int.not_lt.2 h1),if_pos h2]
 ·unfold shiftE; rw [if_neg (Int.not_lt.2 h1),if_neg h2,if_pos h3]
 ·unfold shiftE; rw [if_neg (Int.not_lt.2 h1),if_neg h2,if_neg h3,h4]; rfl
 ·obtain ⟨p1,p2,p3⟩:=fin n (by unfold shiftE; rw [if_neg (Int.not_lt.2 h1),if_neg h2,if_neg h3,if_pos h4,h5]) (.inl hn)
  exact ⟨p1,p2,p3,moveSt_no h s _ _ _ (by rw [h5]; exact hn)⟩
 ·have he:shiftE s a o t m=0:=by unfold shiftE; rw [if_neg (Int.not_lt.2 h1),if_neg h2,if_neg h3,if_pos h4,h5]
  have hk:shiftOk s a o t m=true:=by unfold shiftOk; rw [he,decide_eq_true h2]; rfl
  refine ⟨he,?_,?_⟩
  ·unfold shiftW; rw [if_pos hk]
  ·unfold Hand.shiftSt; rw [if_pos hk]
theorem hShift_q (w:World) (h:Hand) (s:St) (f0:Nat) (a o t:Int) (m:W4) (ha:I63 a) (ho:I63 o) (ht:I63 t) (hmo:m.Ok) (hq:QSt w h s) (hf:s.Fit f0) (hm:f0 < 1000000000) :
  Calls Tryz.prog 82 #[.pointer h.ptr,.int .i64 a,.int .i64 o,.int .i64 t,uV m] w fun e w'=>e = .returned (.tuple #[uV (shiftW s a o t m),.int .i64 (shiftE s a o t m)])∧QOn w h (h.shiftSt s a o t m) w':=by
 have hB:=((HV.start hq).alloc (uO m)).alloc zO
 rw [World.size_alloc] at hB
 have HR:Hid (∀ rs W,HV h w s rs W→Calls Tryz.prog 58 #[.pointer h.ptr,.int .i64 a,.int .i64 t] W fun e w'=>e = .returned (hV (s.dep a t) (s.fct a t))∧HV h w s rs w'):=fun rs W hW=>hW.reads fun L' h1=>hread_q W ⟨h.ptr,h.on,L'⟩ s f0 a t ha ht h1 hf (by omega)
 have HW:Hid (∀ W,Calls Tryz.prog 70 #[uV (s.dep a t),uV (s.fct a t),uV oneW] W fun e w'=>e = .returned (.tuple #[uV (worthW (s.dep a t) (s.fct a t) oneW),.bool (goodB (s.dep a t) (s.fct a t) oneW)])∧Below W.heap.size W w'):=fworth_any _ _ oneW (amt_ok _ _) (fct_ok _ _ _) one_ok
 have HMv:Hid (∀ rs W,HV h w s rs W→Calls Tryz.prog 148 #[uV (s.dep a t),uV (s.fct a t),uV m] W fun e w'=>e = .returned (.tuple #[uV (moveW (s.dep a t) (s.fct a t) m),.bool (moveB (s.dep a t) (s.fct a t) m)])∧HV h w s rs w'):=fun rs W hW=>hW.reads fun _ _=>fmove_any _ _ m (amt_ok _ _) (fct_ok _ _ _) hmo W
 have HP0:Hid (∀ W,Calls Tryz.prog 63 #[.int .i64 0,.int .i64 t] W fun e w'=>e = .returned (.string (keyL 12 [0,t]))∧Below W.heap.size W w'):=hpart_any 0 t (by decide) ht
 have HP1:Hid (∀ W,Calls Tryz.prog 63 #[.int .i64 o,.int .i64 t] W fun e w'=>e = .returned (.string (keyL 12 [o,t]))∧Below W.heap.size W w'):=hpart_any o t ho ht
 have HS:Hid (∀ rs W,HV h w s rs W→Calls Tryz.prog 149 #[.pointer h.ptr,.string (keyL 12 [0,t]),.string (keyL 12 [o,t]),uV (worthW (s.dep a t) (s.fct a t) oneW)] W fun e W'=>e = .returned (.int .i64 (moveE s (keyL 12 [0,t]) (keyL 12 [o,t]) (worthW (s.dep a t) (s.fct a t) oneW)))∧HV h w (h.moveSt s (keyL 12 [0,t]) (keyL 12 [o,t]) (worthW (s.dep a t) (s.fct a t) oneW)) rs W'):=fun rs W hW=>QV.call hW fun L' h1=>cMove_q W ⟨h.ptr,h.on,L'⟩ s f0 _ _ _ (worthW_ok _ _ _) h1 hf (by omega)
 have hfs:(h.moveSt s (keyL 12 [0,t]) (keyL 12 [o,t]) (worthW (s.dep a t) (s.fct a t) oneW)).Fit (f0+4):=by
  unfold Hand.moveSt; split
  ·have h1:(h.st s (s.setAmt (keyL 12 [0,t]) (subW (s.amt (keyL 12 [0,t])) (worthW (s.dep a t) (s.fct a t) oneW)))).Fit (f0+2):=Hand.st_fit (hf.mono (by omega)) (hf.setAmt _ _)
   exact Hand.st_fit (h1.mono (by omega)) (h1.setAmt _ _)
  ·exact hf.mono (by omega)
 have HWR:Hid (∀ rs W,HV h w (h.moveSt s (keyL 12 [0,t]) (keyL 12 [o,t]) (worthW (s.dep a t) (s.fct a t) oneW)) rs W→Calls Tryz.prog 61 #[hV (s.dep a t) (moveW (s.dep a t) (s.fct a t) m),.pointer h.ptr,.int .i64 a,.int .i64 t] W fun e W'=>e = .returned (.tuple #[])∧HV h w (h.wr (h.moveSt s (keyL 12 [0,t]) (keyL 12 [o,t]) (worthW (s.dep a t) (s.fct a t) oneW)) a t (s.dep a t) (moveW (s.dep a t) (s.fct a t) m)) rs W'):=fun rs W hW=>QV.call hW fun L' h1=>hwrite_q W ⟨h.ptr,h.on,L'⟩ _ (f0+4) a t _ _ ha ht h1 hfs (by omega)
 have HL:=Lib.hid (shift_law h s a o t m)
 have HMC:=Lib.hid (moveE_cases s (keyL 12 [0,t]) (keyL 12 [o,t]) (worthW (s.dep a t) (s.fct a t) oneW))
 have HB:=Lib.hid hB
 generalize h.shiftSt s a o t m=sx at *
 generalize h.wr (h.moveSt s (keyL 12 [0,t]) (keyL 12 [o,t]) (worthW (s.dep a t) (s.fct a t) oneW)) a t (s.dep a t) (moveW (s.dep a t) (s.fct a t) m)=s3 at *
 generalize h.moveSt s (keyL 12 [0,t]) (keyL 12 [o,t]) (worthW (s.dep a t) (s.fct a t) oneW)=s2 at *
 generalize shiftE s a o t m=te at *
 generalize shiftW s a o t m=tw at *
 generalize moveE s (keyL 12 [0,t]) (keyL 12 [o,t]) (worthW (s.dep a t) (s.fct a t) oneW)=me at *
 generalize goodB (s.dep a t) (s.fct a t) oneW=ub at *
 generalize worthW (s.dep a t) (s.fct a t) oneW=u at *
 generalize moveB (s.dep a t) (s.fct a t) m=mb at *
 generalize moveW (s.dep a t) (s.fct a t) m=mw at *
 generalize s.dep a t=d at *
 generalize s.fct a t=fc at *
 generalize keyL 12 [0,t]=k0 at *
 generalize keyL 12 [o,t]=k1 at *
 clear hB hq hf hfs
 go_enter Tryz.func82,Tryz.ntmps82
 go_wp2_with fail
 refine Calls.mono (HR.out _ _ HB.out) ?_
 rintro e w3 ⟨rfl,hB3⟩
 have hB4:=hB3.alloc (hO d fc)
 clear hB3 HB HR
 go_upto_region 2 with fail
 generalize w3.alloc (hO d fc)=w4 at *
 generalize w3.heap.size=g1 at *
 by_cases ho1:o < 1
 ·obtain ⟨h1,h2,h3⟩:=HL.out.1 ho1
  subst h1 h2 h3
  have hd1:decide (o < 1)=true:=decide_eq_true ho1
  clear HMv HP0 HP1 HS HWR HMC HW
  have hz:=hB4.u4 (g:=w.heap.size+1) (x:=(0,0,0,0)) (by simp)
  obtain ⟨z0,z1,z2,z3,z4,z5,z6,z7⟩:=row4 hz
  have HZ:=Lib.hid (put4 hz (0,0,0,0))
  have HD2:=Lib.hid (QV.done (hB4.put4 (g:=w.heap.size+1) (y:=(0,0,0,0)) (0,0,0,0) (by simp) [] (fun _ hx=>by cases hx)))
  clear hz hB4 HL
  go_wp2_with fail
  refine bodyPost_ret (results_cell_row2 rfl _ _ (w.heap.size+1) 28 (uL (0,0,0,0)) (0,0) _ rfl HZ.out Tryz.underlying28 rfl (by kernel_rfl)) rfl ?_
  exact ⟨rfl,HD2.out⟩
 ·have hd1:decide (o < 1)=false:=decide_eq_false ho1
  have HO1:=Lib.hid (Int.not_lt.1 ho1)
  clear ho1
  obtain ⟨⟨d0,d1,d2,d3⟩,⟨d4,d5,d6,d7⟩,fz⟩:=row8 (hB4.h8 (g:=g1) (d:=d) (f:=fc) (by simp))
  obtain ⟨m0,m1,m2,m3,_⟩:=row4 (hB4.u4 (g:=w.heap.size) (x:=m) (by simp))
  by_cases hd0:d=(0,0,0,0)
  ·obtain ⟨h1,h2,h3⟩:=HL.out.2.1 HO1.out hd0
   subst h1 h2 h3
   have hE:∀ w,(Op.equalIn 10000 28 (uV d) (.agg #[.int .u64 0,.int .u64 0,.int .u64 0,.int .u64 0])).run Tryz.prog w = .ok true w:=fun w=>by
    have:=eqU d (0,0,0,0) w
    rwa [decide_eq_true hd0] at this
   clear HMv HP0 HP1 HS HWR HMC HW hd0
   have hz:=hB4.u4 (g:=w.heap.size+1) (x:=(0,0,0,0)) (by simp)
   obtain ⟨z0,z1,z2,z3,z4,z5,z6,z7⟩:=row4 hz
   have HZ:=Lib.hid (put4 hz (0,0,0,0))
   have HD2:=Lib.hid (QV.done (hB4.put4 (g:=w.heap.size+1) (y:=(0,0,0,0)) (0,0,0,0) (by simp) [] (fun _ hx=>by cases hx)))
   clear hz hB4 HL
   go_wp2_with fail
   refine bodyPost_ret (results_cell_row2 rfl _ _ (w.heap.size+1) 28 (uL (0,0,0,0)) (0,0) _ rfl HZ.out Tryz.underlying28 rfl (by kernel_rfl)) rfl ?_
   exact ⟨rfl,HD2.out⟩
  ·have hE:∀ w,(Op.equalIn 10000 28 (uV d) (.agg #[.int .u64 0,.int .u64 0,.int .u64 0,.int .u64 0])).run Tryz.prog w = .ok false w:=fun w=>by
    have:=eqU d (0,0,0,0) w
    rwa [decide_eq_false hd0] at this
   have HD0:=Lib.hid hd0
   clear hd0
   by_cases hm0:m=(0,0,0,0)
   ·obtain ⟨h1,h2,h3⟩:=HL.out.2.2.1 HO1.out HD0.out hm0
    subst h1 h2 h3
    have hEm:∀ w,(Op.equalIn 10000 28 (uV m) (.agg #[.int .u64 0,.int .u64 0,.int .u64 0,.int .u64 0])).run Tryz.prog w = .ok true w:=fun w=>by
     have:=eqU m (0,0,0,0) w
     rwa [decide_eq_true hm0] at this
    clear HMv HP0 HP1 HS HWR HMC HW hm0
    have hz:=hB4.u4 (g:=w.heap.size+1) (x:=(0,0,0,0)) (by simp)
    obtain ⟨z0,z1,z2,z3,z4,z5,z6,z7⟩:=row4 hz
    have HZ:=Lib.hid (put4 hz (0,0,0,0))
    have HD2:=Lib.hid (QV.done (hB4.put4 (g:=w.heap.size+1) (y:=(0,0,0,0)) (0,0,0,0) (by simp) [] (fun _ hx=>by cases hx)))
    clear hz hB4 HL
    go_wp2_with fail
    refine bodyPost_ret (results_cell_row2 rfl _ _ (w.heap.size+1) 28 (uL (0,0,0,0)) (0,0) _ rfl HZ.out Tryz.underlying28 rfl (by kernel_rfl)) rfl ?_
    exact ⟨rfl,HD2.out⟩
   ·have hEm:∀ w,(Op.equalIn 10000 28 (uV m) (.agg #[.int .u64 0,.int .u64 0,.int .u64 0,.int .u64 0])).run Tryz.prog w = .ok false w:=fun w=>by
     have:=eqU m (0,0,0,0) w
     rwa [decide_eq_false hm0] at this
    have HM0:=Lib.hid hm0
    have HQ:=Lib.hid hB4
    have HB0:=Lib.hid (bl_drew (Below.refl w4.heap.size w4))
    clear hm0 hB4
    go_wp2_with fail
    go_upto_region 8 with fail
    refine wp_region_rely [[],[0],[],[2],[],[0,1,2,3,4],[0,1,2,3,4,5],[0,1,2,3,4,5,6],[0,1,2,3,4,5,6],[],[0,1,2,3,4,5,6,7,9],[0,1,2,3,4,5,6,7,8,9,10]]
     [rgC (Below w4.heap.size w4),rgV 0 (.pointer (some ⟨g1,0,none⟩)),rgV 1 (uV d),rgV 2 (.pointer (some ⟨g1,4,none⟩)),rgV 3 (uV fc),rgV 4 (uV oneW),rgV 5 (.tuple #[uV u,.bool ub]),rgV 6 (.tuple #[uV u,.bool ub]),rgV 7 (uV u),rgV 8 (.bool ub),rgP 9 (w4.heap.size),rgV 11 (.bool ub),rgS 9 10 (u)] _ (by kernel_rfl) (by kernel_rfl) (by kernel_rfl)
     (fun vs=>by simp only [rgAct,rgPut,List.setIfInBounds_toArray,List.set_cons_zero,List.set_cons_succ]; exact rfl)
     ⟨fun _ _ _ hb h=>bl_then h hb,rgV_st,rgV_st,rgV_st,rgV_st,rgV_st,rgV_st,rgV_st,rgV_st,rgV_st,rgP_st,rgV_st,rgS_st,trivial⟩ ?_ ?_ ?_
    ·refine rgAll_yes rfl HB0.out ?_
     iterate 12 refine rgAll_no rfl ?_
     exact trivial
    ·refine ⟨?_,?_,?_,?_,?_,?_,?_,?_,?_,?_,?_,?_,trivial⟩
     ·rintro vs w1 ⟨_,_⟩ K hK
      refine rg_held0 rfl rfl rfl (hK _ _ (.inl (Below.refl _ _)) ?_)
      exact rgNew_one 1 rfl fun _=>rfl
     ·rintro vs w1 ⟨hC,e0,_⟩ K hK
      refine rg_load4 rfl rfl (rg1 e0) (row8 ((HQ.out.below hC).h8 (d:=d) (f:=fc) (by simp))).1 (hK _ _ (.inl (Below.refl _ _)) ?_)
      exact rgNew_one 2 rfl fun _=>rfl
     ·rintro vs w1 ⟨_,_⟩ K hK
      refine rg_held1 rfl rfl rfl (hK _ _ (.inl (Below.refl _ _)) ?_)
      exact rgNew_one 3 rfl fun _=>rfl
     ·rintro vs w1 ⟨hC,e2,_⟩ K hK
      refine rg_load4 rfl rfl (rg1 e2) (row8 ((HQ.out.below hC).h8 (d:=d) (f:=fc) (by simp))).2.1 (hK _ _ (.inl (Below.refl _ _)) ?_)
      exact rgNew_one 4 rfl fun _=>rfl
     ·rintro vs w1 ⟨_,_⟩ K hK
      refine rg_fn rfl rfl rfl (by kernel_rfl) rfl (Calls.mono (one_any _) ?_)
      rintro e w2 ⟨rfl,hb⟩
      refine ⟨_,rfl,hK _ _ (.inl hb) ?_⟩
      exact rgNew_one 5 rfl fun _=>rfl
     ·rintro vs w1 ⟨_,_,e1,_,e3,e4,_⟩ K hK
      refine rg_fn rfl rfl rfl (by kernel_rfl) (show [vs 1,vs 3,vs 4]=_ from by rw [rg1 e1,rg1 e3,rg1 e4]) (Calls.mono (HW.out _) ?_)
      rintro e w2 ⟨rfl,hb⟩
      refine ⟨_,rfl,hK _ _ (.inl hb) ?_⟩
      exact rgNew_one 6 rfl fun _=>rfl
     ·rintro vs w1 ⟨_,_,_,_,_,_,e5,_⟩ K hK
      refine rg_move rfl (.inl rfl) (rg1 e5) (hK _ _ (.inl (Below.refl _ _)) ?_)
      exact rgNew_one 7 rfl fun _=>rfl
     ·rintro vs w1 ⟨_,_,_,_,_,_,_,e6,_⟩ K hK
      refine rg_extract rfl rfl (rg1 e6) rfl (hK _ _ (.inl (Below.refl _ _)) ?_)
      exact rgNew_one 8 rfl fun _=>rfl
     ·rintro vs w1 ⟨_,_,_,_,_,_,_,e6,_⟩ K hK
      refine rg_extract rfl rfl (rg1 e6) rfl (hK _ _ (.inl (Below.refl _ _)) ?_)
      exact rgNew_one 9 rfl fun _=>rfl
     ·rintro vs w1 ⟨hC,_⟩ K hK
      refine rg_allocU rfl rfl (hK _ _ (.inl (bl_alloc (Below.refl _ _) _)) ?_)
      iterate 10 refine rgNew_no rfl ?_
      refine rgNew_yes rfl (fun _=>⟨_,_,rfl,hC.size,heap_alloc_new _ _⟩) ?_
      iterate 2 refine rgNew_no rfl ?_
      exact trivial
     ·rintro vs w1 ⟨hC,_,_,_,_,_,_,_,e7,⟨_,_,e9,h9,g9⟩,_⟩ K hK
      refine rg_storeU rfl rfl (rg1 e9) (rg1 e7) g9 (hK _ _ (.inr ?_) ?_)
      ·refine rgStay_yes rfl (fun hC _=>bput hC h9) ?_
       iterate 9 refine rgStay_yes rfl (fun h _=>h) ?_
       refine rgStay_yes rfl (fun h _=>rgP_put h) ?_
       iterate 2 refine rgStay_no rfl ?_
       exact trivial
      ·iterate 12 refine rgNew_no rfl ?_
       refine rgNew_yes rfl (fun _=>⟨_,_,by show [vs 9,undef]=_; rw [rg1 e9],setRow_heap _ _ _ _ _ _ g9⟩) ?_
       exact trivial
     ·rintro vs w1 ⟨_,_,_,_,_,_,_,_,_,e8,_,_,_⟩ K hK
      refine rg_move rfl (.inr rfl) (rg1 e8) (hK _ _ (.inl (Below.refl _ _)) ?_)
      exact rgNew_one 11 rfl fun _=>rfl
    ·intro vs w1 hA
     obtain ⟨hC,e0,e1,e2,e3,e4,e5,e6,e7,e8,⟨p9,_,e9,h9,g9⟩,e11,s10,_⟩:=hA
     have e0:=rg1 e0
     have e1:=rg1 e1
     have e2:=rg1 e2
     have e3:=rg1 e3
     have e4:=rg1 e4
     have e5:=rg1 e5
     have e6:=rg1 e6
     have e7:=rg1 e7
     have e8:=rg1 e8
     have e9:=rg1 e9
     have e11:=rg1 e11
     have s10:=rgS_at s10 e9
     simp only [e0,e1,e2,e3,e4,e5,e6,e7,e8,e9,e11]
     have hB5:=HQ.out.add1 hC h9 s10
     clear e0 e1 e2 e3 e4 e5 e6 e7 e8 e9 e11 g9 s10 h9 hC HW HB0 HQ hE hEm hd1 d0 d1 d2 d3 d4 d5 d6 d7 fz m0 m1 m2 m3
     obtain ⟨⟨d0,d1,d2,d3⟩,⟨d4,d5,d6,d7⟩,fz⟩:=row8 (hB5.h8 (g:=g1) (d:=d) (f:=fc) (by simp))
     obtain ⟨m0,m1,m2,m3,_⟩:=row4 (hB5.u4 (g:=w.heap.size) (x:=m) (by simp))
     have HB5:=Lib.hid hB5
     clear hB5
     go_wp2_with fail
     refine Calls.mono (HMv.out _ _ HB5.out) ?_
     rintro e w5 ⟨rfl,hB6⟩
     have hB7:=hB6.alloc (uO mw)
     clear d0 d1 d2 d3 d4 d5 d6 d7 fz m0 m1 m2 m3 hB6 HB5 HMv
     go_upto_region 10 with fail
     generalize w5.alloc (uO mw)=w6 at *
     generalize w5.heap.size=g3 at *
     cases mb with
     | false =>
      obtain ⟨h1,h2,h3⟩:=HL.out.2.2.2.1 HO1.out HD0.out HM0.out (by trivial)
      subst h1 h2 h3
      clear HP0 HP1 HS HWR HMC
      have hz:=hB7.u4 (g:=w.heap.size+1) (x:=(0,0,0,0)) (by simp)
      obtain ⟨z0,z1,z2,z3,z4,z5,z6,z7⟩:=row4 hz
      have HZ:=Lib.hid (put4 hz (0,0,0,0))
      have HD2:=Lib.hid (QV.done (hB7.put4 (g:=w.heap.size+1) (y:=(0,0,0,0)) (0,0,0,0) (by simp) [] (fun _ hx=>by cases hx)))
      clear hz hB7 HL
      go_wp2_with fail
      refine bodyPost_ret (results_cell_row2 rfl _ _ (w.heap.size+1) 28 (uL (0,0,0,0)) (0,0) _ rfl HZ.out Tryz.underlying28 rfl (by kernel_rfl)) rfl ?_
      exact ⟨rfl,HD2.out⟩
     | true =>
      have HQ2:=Lib.hid hB7
      have HB1:=Lib.hid (bl_drew (Below.refl w6.heap.size w6))
      clear hB7
      go_wp2_with fail
      go_upto_region 12 with fail
      refine wp_region_rely_tail 7 [[],[],[1],[],[],[1,2,3,4],[],[0,1,2,3,4,5,6],[0,1,2,3,4,5,6,7]]
       [rgC (Below w6.heap.size w6),rgV 0 (.pointer h.ptr),rgV 1 (.int .i64 t),rgV 2 (.string k0),rgV 3 (.int .i64 o),rgV 4 (.int .i64 t),rgV 5 (.string k1),rgV 6 (uV u)] _ (by kernel_rfl) (by kernel_rfl) (by decide) (by kernel_rfl) (by kernel_rfl)
       (fun vs=>by simp only [rgAct,rgPut,List.setIfInBounds_toArray,List.set_cons_zero,List.set_cons_succ]; exact rfl)
       ⟨fun _ _ _ hb h=>bl_then h hb,rgV_st,rgV_st,rgV_st,rgV_st,rgV_st,rgV_st,rgV_st,trivial⟩ ?_ ?_ ?_
      ·refine rgAll_yes rfl HB1.out ?_
       iterate 7 refine rgAll_no rfl ?_
       exact trivial
      ·refine ⟨?_,?_,?_,?_,?_,?_,?_,trivial⟩
       ·rintro vs w1 ⟨_,_⟩ K hK
        refine rg_move rfl (.inl rfl) rfl (hK _ _ (.inl (Below.refl _ _)) ?_)
        exact rgNew_one 1 rfl fun _=>rfl
       ·rintro vs w1 ⟨_,_⟩ K hK
        refine rg_move rfl (.inl rfl) rfl (hK _ _ (.inl (Below.refl _ _)) ?_)
        exact rgNew_one 2 rfl fun _=>rfl
       ·rintro vs w1 ⟨_,e1,_⟩ K hK
        refine rg_fn rfl rfl rfl (by kernel_rfl) (show [.int .i64 0,vs 1]=_ from by rw [rg1 e1]) (Calls.mono (HP0.out _) ?_)
        rintro e w2 ⟨rfl,hb⟩
        refine ⟨_,rfl,hK _ _ (.inl hb) ?_⟩
        exact rgNew_one 3 rfl fun _=>rfl
       ·rintro vs w1 ⟨_,_⟩ K hK
        refine rg_move rfl (.inl rfl) rfl (hK _ _ (.inl (Below.refl _ _)) ?_)
        exact rgNew_one 4 rfl fun _=>rfl
       ·rintro vs w1 ⟨_,_⟩ K hK
        refine rg_move rfl (.inl rfl) rfl (hK _ _ (.inl (Below.refl _ _)) ?_)
        exact rgNew_one 5 rfl fun _=>rfl
       ·rintro vs w1 ⟨_,_,_,e3,e4,_⟩ K hK
        refine rg_fn rfl rfl rfl (by kernel_rfl) (show [vs 3,vs 4]=_ from by rw [rg1 e3,rg1 e4]) (Calls.mono (HP1.out _) ?_)
        rintro e w2 ⟨rfl,hb⟩
        refine ⟨_,rfl,hK _ _ (.inl hb) ?_⟩
        exact rgNew_one 6 rfl fun _=>rfl
       ·rintro vs w1 ⟨hC,_⟩ K hK
        refine rg_loadU rfl rfl rfl ((HQ2.out.below hC).u4 (x:=u) (by simp)) (hK _ _ (.inl (Below.refl _ _)) ?_)
        exact rgNew_one 7 rfl fun _=>rfl
      ·intro vs w1 hA
       obtain ⟨hC,e0,e1,e2,e3,e4,e5,e6,_⟩:=hA
       have e0:=rg1 e0
       have e1:=rg1 e1
       have e2:=rg1 e2
       have e3:=rg1 e3
       have e4:=rg1 e4
       have e5:=rg1 e5
       have e6:=rg1 e6
       refine rgTail_cons ?_
       refine rg_fn rfl rfl rfl (by kernel_rfl) (show [vs 0,vs 2,vs 5,vs 6]=_ from by rw [e0,e2,e5,e6]) (Calls.mono (HS.out _ _ (HQ2.out.below hC)) ?_)
       rintro e w2 ⟨rfl,hq2⟩
       refine ⟨_,rfl,?_⟩
       refine rgTail_cons ?_
       refine rg_move rfl (.inr rfl) rfl ?_
       refine rgTail_nil ?_
       simp only [rgSet,Nat.reduceEqDiff,↓reduceIte,e0,e1,e2,e3,e4,e5,e6]
       clear e0 e1 e2 e3 e4 e5 e6 hC HP0 HP1 HS HB1 HQ2
       rcases HMC.out with rfl | rfl | rfl
       ·obtain ⟨h1,h2,h3⟩:=HL.out.2.2.2.2.2 HO1.out HD0.out HM0.out (by trivial) (by trivial)
        have h2':=h2.symm
        have h3':=h3.symm
        subst h1 h2' h3'
        obtain ⟨r0,r1,r2,r3,_⟩:=row4 (hq2.u4 (g:=g3) (x:=mw) (by simp))
        obtain ⟨⟨d0,d1,d2,d3⟩,⟨d4,d5,d6,d7⟩,fz⟩:=row8 (hq2.h8 (g:=g1) (d:=d) (f:=fc) (by simp))
        have HQ3:=Lib.hid hq2
        clear hq2 HL HMC
        go_wp2_with fail
        refine Calls.mono (HWR.out _ _ HQ3.out) ?_
        rintro e w9 ⟨rfl,hB9⟩
        clear r0 r1 r2 r3 d0 d1 d2 d3 d4 d5 d6 d7 fz HQ3 HWR
        have hz:=hB9.u4 (g:=w.heap.size+1) (x:=(0,0,0,0)) (by simp)
        obtain ⟨z0,z1,z2,z3,z4,z5,z6,z7⟩:=row4 hz
        obtain ⟨u0,u1,u2,u3,_⟩:=row4 (hB9.u4 (g:=p9) (x:=u) (by simp))
        have HZ:=Lib.hid (put4 hz u)
        have HD2:=Lib.hid (QV.done (hB9.put4 (g:=w.heap.size+1) (y:=(0,0,0,0)) u (by simp) [] (fun _ hx=>by cases hx)))
        clear hz hB9
        go_wp2_with fail
        refine bodyPost_ret (results_cell_row2 rfl _ _ (w.heap.size+1) 28 (uL u) (0,0) _ rfl HZ.out Tryz.underlying28 rfl (by kernel_rfl)) rfl ?_
        exact ⟨rfl,HD2.out⟩
       ·obtain ⟨h1,h2,h3,h4⟩:=HL.out.2.2.2.2.1 6 (by decide) HO1.out HD0.out HM0.out (by trivial) (by trivial)
        subst h1 h2 h3 h4
        clear HWR HMC
        have hz:=hq2.u4 (g:=w.heap.size+1) (x:=(0,0,0,0)) (by simp)
        obtain ⟨z0,z1,z2,z3,z4,z5,z6,z7⟩:=row4 hz
        have HZ:=Lib.hid (put4 hz (0,0,0,0))
        have HD2:=Lib.hid (QV.done (hq2.put4 (g:=w.heap.size+1) (y:=(0,0,0,0)) (0,0,0,0) (by simp) [] (fun _ hx=>by cases hx)))
        clear hz hq2 HL
        go_wp2_with fail
        refine bodyPost_ret (results_cell_row2 rfl _ _ (w.heap.size+1) 28 (uL (0,0,0,0)) (0,0) _ rfl HZ.out Tryz.underlying28 rfl (by kernel_rfl)) rfl ?_
        exact ⟨rfl,HD2.out⟩
       ·obtain ⟨h1,h2,h3,h4⟩:=HL.out.2.2.2.2.1 13 (by decide) HO1.out HD0.out HM0.out (by trivial) (by trivial)
        subst h1 h2 h3 h4
        clear HWR HMC
        have hz:=hq2.u4 (g:=w.heap.size+1) (x:=(0,0,0,0)) (by simp)
        obtain ⟨z0,z1,z2,z3,z4,z5,z6,z7⟩:=row4 hz
        have HZ:=Lib.hid (put4 hz (0,0,0,0))
        have HD2:=Lib.hid (QV.done (hq2.put4 (g:=w.heap.size+1) (y:=(0,0,0,0)) (0,0,0,0) (by simp) [] (fun _ hx=>by cases hx)))
        clear hz hq2 HL
        go_wp2_with fail
        refine bodyPost_ret (results_cell_row2 rfl _ _ (w.heap.size+1) 28 (uL (0,0,0,0)) (0,0) _ rfl HZ.out Tryz.underlying28 rfl (by kernel_rfl)) rfl ?_
        exact ⟨rfl,HD2.out⟩
end Go.Proofs.YtpojljieakdgiaaGreat
