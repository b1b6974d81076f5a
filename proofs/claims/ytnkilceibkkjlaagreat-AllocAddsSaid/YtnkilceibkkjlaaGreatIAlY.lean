/- What is proved here: AllocAdds' walk: true at every input. Condition: the arguments as they came in. -/
import Derived.Test.YtnkilceibkkjlaaGreatIAlV
import Derived.Deep.CutBlock
import Derived.Deep.DeepCutAuto
set_option maxRecDepth 100000
set_option maxHeartbeats 16000000
namespace Go.Proofs.YtnkilceibkkjlaaGreat
open Go.RowKit
theorem adds29_walk (w:World) (a:Option Addr) (c:Nat) (l:List LAct) (h:Acts29In w a l):Calls Tryz.prog 5 #[.slice a l.length c] w fun e w'=>e = .returned (.bool true)∧Below w.heap.size w w':=by
 have HL:=Lib.hid (lives29 w)
 have HN:=Lib.hid (newB w)
 by_cases h60:60 < l.length
 ·have hd:decide ((60:Int) < (l.length:Int))=true:=decide_eq_true (by omega)
  clear h
  generalize l.length=n at *
  go_enter Tryz.func5,Tryz.ntmps5
  go_wp2_with (go_at_call 14; refine HL.out.mono ?_; rintro e wb ⟨rfl,h1⟩)
  go_ret
  exact ⟨rfl,h1⟩
 ·have hd:decide ((60:Int) < (l.length:Int))=false:=decide_eq_false (by omega)
  have HC:Hid (∀ wr k x,Below w.heap.size w wr→l[k]? = some x→∃ ad,a=some ad∧∀ j v,x.L[j]? = some v→wr.cell? ((ad.add (k*21)).add j)=some v):=fun wr k x hb hk=>by
   obtain ⟨ad,e,h0⟩:=h.at0 k x hk
   exact ⟨ad,e,fun j v hj=>by rw [hb.cell (World.block_lt_of_cell? w _ (h0 j v hj))]; exact h0 j v hj⟩
  have HOK:Hid (∀ (k:Nat) (x:LAct),l[k]? = some x→x.Ok):=fun k x hk=>h.ok x (List.mem_of_getElem? hk)
  have HG:Hid (∀ k,k < l.length→∃ x,l[k]? = some x):=fun k hk=>⟨_,List.getElem?_eq_getElem hk⟩
  have HLV:Hid (∀ W,Below w.heap.size w W→Calls Tryz.prog 14 #[] W fun e w'=>e = .returned (.bool true)∧Below w.heap.size w w'):=fun W hb=>(lives29 W).mono fun e w' ⟨he,h1⟩=>⟨he,bl_then hb h1⟩
  clear h HL
  generalize l.length=n at *
  go_enter Tryz.func5,Tryz.ntmps5
  go_wp2_with fail
  refine Calls.mono HN.out ?_
  rintro e wb ⟨b0,L,rfl,hS,hb,hL⟩
  have hq0:HV ⟨some ⟨b0,0,none⟩,true,L⟩ wb emptySt [] wb:=HV.start (.inl ⟨rfl,b0,rfl,hS⟩)
  have HB:Hid (∀ k s m rs W,AW wb (some ⟨b0,0,none⟩) L k s m rs W→Below w.heap.size w W):=fun k s m rs W hV=>HV.belowOf hV.hv hb hL
  have HONE:=Lib.hid (one_any wb)
  have HQ0:=Lib.hid hq0
  clear hq0 hS hb hL HN
  generalize (some ⟨b0,0,none⟩:Option Addr)=q at *
  go_wp2_with fail
  refine Calls.mono HONE.out ?_
  rintro e w2 ⟨rfl,hb2⟩
  have hq3:=AW.start (QV.alloc (QV.below HQ0.out hb2) (uO oneW))
  clear HQ0 hb2 HONE
  go_upto_region 5 with fail
  generalize w2.alloc (uO oneW)=w3 at *
  generalize w2.heap.size=g at *
  have H0:=Lib.hid hq3
  clear hq3
  go_wp2_with fail
  go_loopw [20] (fun i wr=>∃ (k:Nat) (s:St) (m:W4),i = .int .i64 k∧k≤n∧AW wb q L k s m [(g,uO m)] wr) (fun i _=>n - (intOf i).toNat)
  case atStart=>exact ⟨0,_,_,rfl,by omega,H0.out⟩
  case round =>
   obtain ⟨k,s,m,rfl,hk,hA⟩:=hrel
   have HA:=Lib.hid hA
   clear hA H0
   by_cases hlt:k < n
   ·obtain ⟨x,hx⟩:=HG.out k hlt
    obtain ⟨ad,rfl,qs⟩:=HC.out wr k _ (HB.out _ _ _ _ _ HA.out) hx
    have hxo:=HOK.out k x hx
    have HNE:Hid (g≠wr.heap.size):=Nat.ne_of_lt (HA.out.lt (g:=g) (o:=uO m) (by simp))
    have HQS:=Lib.hid qs
    clear qs
    have HN:=Lib.hid (heap_alloc_new wr (.cells #[.int .i64 0,.int .i64 0,.int .i64 0,.int .i64 0,.int .i64 0,.int .u64 0,.int .u64 0,.int .u64 0,.int .u64 0,.int .u64 0,.int .u64 0,.int .u64 0,.int .u64 0,.int .i64 0,.int .i64 0,.int .i64 0,.bool false,.int .u64 0,.int .u64 0,.int .u64 0,.int .u64 0] 38))
    have HX5:=Lib.hid (lact_one x)
    go_upto_region 7 with fail
    go_upto_region 8 with (first | (with_reducible refine wpList_load29 (op:=⟨some 23,.load _ _,_,_,_,_⟩) rfl 38 (.tmp 22) rfl (ad.add (k*21)) ?y1 x.L HQS.out _ Tryz.underlying38 ?y2 ?y3 ?y4) | (with_reducible refine wpList_store_row (o:=⟨none,.store _ _ _,_,_,_,_⟩) rfl 38 (.tmp 6) (.tmp 23) rfl wr.heap.size x.L ?x1 ?x2 38 #[.int .i64 0,.int .i64 0,.int .i64 0,.int .i64 0,.int .i64 0,.int .u64 0,.int .u64 0,.int .u64 0,.int .u64 0,.int .u64 0,.int .u64 0,.int .u64 0,.int .u64 0,.int .i64 0,.int .i64 0,.int .i64 0,.bool false,.int .u64 0,.int .u64 0,.int .u64 0,.int .u64 0] HN.out ?x3 ?x4 HX5.out ?x5))
    case y1=>rfl
    case y2=>rfl
    case y3=>show _=some 21; kernel_rfl
    case x1=>rfl
    case x2=>rfl
    case x3=>show _=some 21; kernel_rfl
    case x4=>rfl
    rw [World.setRow_alloc_new]
    simp only [Act.put]
    have hA1:=HA.out.alloc (actO x)
    clear HX5 HN HQS HA
    generalize wr.alloc (.cells x.L 38)=w4 at *
    generalize wr.heap.size=gs at *
    obtain ⟨ck,⟨cx0,cx1,cx2,cx3⟩,⟨ct0,ct1,ct2,ct3⟩,⟨cm0,cm1,cm2,cm3⟩,⟨cb,cd,cl,cs⟩,⟨cf0,cf1,cf2,cf3⟩,cz⟩:=row21 (hA1.row (g:=gs) (o:=actO x) (by simp))
    have HA1:=Lib.hid hA1
    clear hA1
    go_upto_region 9 with fail
    obtain ⟨j,hj3,hje⟩:=set_mod x.x.2.2.2
    rw [hje]
    have hA2:=HA1.out.putJ j (A:=x) (g:=gs) (by simp) [(g,uO m)] (by simpa using HNE.out)
    generalize (((w4.setCell ⟨gs,1,none⟩ (.int .i64 7)).setCell ⟨gs,2,none⟩ (.int .i64 1)).setCell ⟨gs,3,none⟩ (.int .i64 9)).setCell ⟨gs,4,none⟩ (.int .i64 (j:Int))=w5 at *
    clear HA1 ck cx0 cx1 cx2 cx3 ct0 ct1 ct2 ct3 cm0 cm1 cm2 cm3 cb cd cl cs cf0 cf1 cf2 cf3 cz
    obtain ⟨m0,m1,m2,m3,_⟩:=row4 (hA2.row (g:=g) (o:=uO m) (by simp))
    obtain ⟨_,_,_,_,_,_,cz⟩:=row21 (hA2.row (g:=gs) (o:=actO { x with x:=xI j }) (by simp))
    have HA2:=Lib.hid hA2
    clear hA2
    go_upto_region 10 with fail
    have hA3:=HA2.out.putM m (A:={ x with x:=xI j }) (g:=gs) (by simp) [(g,uO m)] (by simpa using HNE.out)
    generalize (((w5.setCell ⟨gs,9,none⟩ (.int .u64 m.1)).setCell ⟨gs,10,none⟩ (.int .u64 m.2.1)).setCell ⟨gs,11,none⟩ (.int .u64 m.2.2.1)).setCell ⟨gs,12,none⟩ (.int .u64 m.2.2.2)=w6 at *
    have HAO:Hid (x.tt.Ok∧x.fv.Ok):=⟨hxo.tt,hxo.fv⟩
    obtain ⟨K,xx,T,M,B,D,N,S,F⟩:=x
    dsimp only at hA3 HAO hje ⊢
    clear HA2 cz m0 m1 m2 m3 hje hxo hx
    have hA4:=hA3.allocW
    have HNG:Hid (g≠gs):=HNE
    have HN1:Hid (gs≠w6.heap.size∧g≠w6.heap.size):=⟨Nat.ne_of_lt (hA3.lt (g:=gs) (o:=actO ⟨K,xI j,T,m,B,D,N,S,F⟩) (by simp)),Nat.ne_of_lt (hA3.lt (g:=g) (o:=uO m) (by simp))⟩
    clear hA3
    go_upto_block 2 with fail
    generalize w6.alloc (.cells #[.int .u64 0,.int .u64 0,.int .u64 0,.int .u64 0,.int .u64 0,.int .u64 0,.int .u64 0,.int .u64 0,.int .u64 0,.int .u64 0,.int .u64 0,.int .u64 0] 60)=w7 at *
    generalize w6.heap.size=gw at *
    have H1:=Lib.hid hA4
    clear hA4
    have hk60:k≤60:=by omega
    have HCU:Hid (∀ (i:Nat) rs W,i < 3→AW wb q L k s m rs W→_):=fun i rs W hi h=>h.nowL hk60 i hi
    have HF0:Hid (∀ r,r < 0→was0 r=cur s (xI r)):=fun r hr=>absurd hr (by omega)
    go_wp2_with fail
    go_loopw [35] (fun i wv=>∃ (t:Nat) (f:Nat→W4),i = .int .i64 t∧t≤3∧(∀ r,r < t→f r=cur s (xI r))∧AW wb q L k s m [(gw,wasO f),(gs,actO ⟨K,xI j,T,m,B,D,N,S,F⟩),(g,uO m)] wv) (fun i _=>3 - (intOf i).toNat)
    case atStart=>exact ⟨0,_,rfl,by omega,HF0.out,H1.out⟩
    case round =>
     obtain ⟨t,f,rfl,ht,hf,hA⟩:=hrel
     have HA:=Lib.hid hA
     clear hA H1 HF0
     by_cases ht3:t < 3
     ·have HC1:=Lib.hid (HCU.out t _ _ ht3 HA.out)
      have HFS:Hid (∀ r,r < t+1→setF f t (cur s (xI t)) r=cur s (xI r)):=fun r hr=>by
       unfold setF
       by_cases e:r=t
       ·rw [if_pos e,e]
       ·rw [if_neg e]; exact hf r (by omega)
      clear HA HCU hf
      generalize cur s (xI t)=v at *
      go_wp2_with fail
      refine Calls.mono HC1.out ?_
      rintro e w8 ⟨rfl,hA8⟩
      obtain ⟨p0,p1,p2,p3,pz⟩:=wasRow (hA8.row (g:=gw) (o:=wasO f) (by simp)) ht3
      have HR:=Lib.hid (hA8.putW (f:=f) (g:=gw) ht3 v (by simp) [(gs,actO ⟨K,xI j,T,m,B,D,N,S,F⟩),(g,uO m)] (by
       intro y hy
       simp only [List.mem_cons,List.not_mem_nil,or_false] at hy
       rcases hy with rfl | rfl
       ·exact ⟨by simp,HN1.out.1⟩
       ·exact ⟨by simp,HN1.out.2⟩))
      clear hA8 HC1
      go_wp2_with fail
      go_roundw
      case rel=>exact ⟨t+1,_,by go_num,by omega,HFS.out,HR.out⟩
      case measure=>simp [intOf]; omega
     ·obtain rfl:t=3:=by omega
      clear HCU
      have hk1:k+1≤60:=by omega
      have HCW:=Lib.hid hf
      obtain ⟨ck,_⟩:=rowJ (HA.out.row (g:=gs) (o:=actO ⟨K,xI j,T,m,B,D,N,S,F⟩) (by simp))
      clear hf
      go_upto_block 4 with fail
      clear ck
      go_cut [] (fun wc=>∃ (s':St) (m':W4),AW wb q L (k+1) s' m' [(g,uO m')] wc)
      case first =>
       by_cases h0:K=0
       ·subst h0
        obtain ⟨ck,⟨cx0,cx1,cx2,cx3⟩,⟨ct0,ct1,ct2,ct3⟩,⟨cm0,cm1,cm2,cm3⟩,⟨cb,cd,cl,cs⟩,_⟩:=rowJ (HA.out.row (g:=gs) (o:=actO ⟨0,xI j,T,m,B,D,N,S,F⟩) (by simp))
        have HMD:=Lib.hid (HA.out.modifyL hk60 hj3 HAO.out.1 B D N S)
        clear HA HCW HAO
        go_wp2_with fail
        refine Calls.mono HMD.out ?_
        rintro e w9 ⟨s2,n2,er,rfl,hA9⟩
        have HR:=Lib.hid (hA9.less (rs':=[(g,uO m)]) (by simp))
        clear hA9 HMD ck cx0 cx1 cx2 cx3 ct0 ct1 ct2 ct3 cm0 cm1 cm2 cm3 cb cd cl cs
        go_wp2_with fail
        go_meet
        case rel=>exact ⟨s2,m,HR.out⟩
       ·by_cases h1:K=1
        ·subst h1
         obtain ⟨ck,⟨cx0,cx1,cx2,cx3⟩,_⟩:=rowJ (HA.out.row (g:=gs) (o:=actO ⟨1,xI j,T,m,B,D,N,S,F⟩) (by simp))
         have HMT:=Lib.hid (HA.out.matureL hk60 hj3)
         clear HA HCW HAO
         go_wp2_with fail
         refine Calls.mono HMT.out ?_
         rintro e w9 ⟨s2,b2,rfl,hA9⟩
         have HR:=Lib.hid (hA9.less (rs':=[(g,uO m)]) (by simp))
         clear hA9 HMT ck cx0 cx1 cx2 cx3
         go_wp2_with fail
         go_meet
         case rel=>exact ⟨s2,m,HR.out⟩
        ·have hk0:(K == 0)=false:=beq_eq_false_iff_ne.2 h0
         have hk1':(K == 1)=false:=beq_eq_false_iff_ne.2 h1
         obtain ⟨ck,⟨cx0,cx1,cx2,cx3⟩,_,_,_,⟨cf0,cf1,cf2,cf3⟩,_⟩:=rowJ (HA.out.row (g:=gs) (o:=actO ⟨K,xI j,T,m,B,D,N,S,F⟩) (by simp))
         have HCT:=Lib.hid (HA.out.cutL hk60 hj3 HAO.out.2)
         have hmo:=HA.out.ar.v.mo
         have HNN:Hid (gw≠g∧gs≠g):=⟨Ne.symm HN1.out.2,Ne.symm HNG.out⟩
         clear HA HAO
         go_wp2_with fail
         refine Calls.mono HCT.out ?_
         rintro e w9 ⟨s2,c,er,rfl,hco,hcle,hoth,hA9⟩
         have HNC:Hid (w9.heap.size≠g):=Ne.symm (Nat.ne_of_lt (hA9.lt (g:=g) (o:=uO m) (by simp)))
         have hA10:=hA9.alloc (uO c)
         have HCL:Hid (decide (0 < uCmp c (f j))=false):=decide_eq_false (by rw [HCW.out j hj3]; omega)
         have HCP:Hid (∀ W,Calls Tryz.prog 10 #[uV c,uV (f j)] W fun e w'=>e = .returned (.int .i64 (uCmp c (f j)))∧Below W.heap.size W w'):=fun W=>rcmp_u c (f j) hco (by rw [HCW.out j hj3]; exact cur_ok _ _) W
         have HCV:Hid (∀ (i:Nat),i < 3→i≠j→∀ (m2:W4) rs W,AW wb q L (k+1) s2 m2 rs W→Calls Tryz.prog 18 #[.pointer q,.agg #[.int .i64 7,.int .i64 1,.int .i64 9,.int .i64 (i:Int)]] W fun e W'=>e = .returned (uV (f i))∧AW wb q L (k+1) s2 m2 rs W'):=fun i hi hij m2 rs W h=>by
          rw [HCW.out i hi,← hoth i hi hij]
          exact h.nowL hk1 i hi
         clear hA9 HCT ck cx0 cx1 cx2 cx3 cf0 cf1 cf2 cf3 hcle hoth HCW
         go_upto_region 18 with fail
         generalize w9.alloc (uO c)=w10 at *
         generalize w9.heap.size=gc at *
         by_cases her:er=0
         ·subst her
          rw [if_pos rfl] at hA10
          obtain ⟨m0,m1,m2,m3,_⟩:=row4 (hA10.row (g:=g) (o:=uO m) (by simp))
          obtain ⟨p0,p1,p2,p3,_⟩:=row4 (hA10.row (g:=gc) (o:=uO c) (by simp))
          have HSB:Hid (∀ W,Calls Tryz.prog 22 #[uV m,uV c] W fun e w'=>e = .returned (.tuple #[uV (subW m c),.bool (subB m c)])∧Below W.heap.size W w'):=fun W=>rsub_u m c hmo hco W
          have HA10:=Lib.hid hA10
          clear hA10 hmo hco
          generalize subW m c=md at *
          generalize subB m c=mb at *
          go_wp2_with fail
          refine Calls.mono (HA10.out.reads (HSB.out _)) ?_
          rintro e w11 ⟨rfl,hA11⟩
          obtain ⟨x0,x1,x2,x3,xf4⟩:=row4 (hA11.row (g:=g) (o:=uO m) (by simp))
          have hA12:=hA11.put4 (g:=g) (y:=m) md (by simp) [(gc,uO c),(gw,wasO f),(gs,actO ⟨K,xI j,T,m,B,D,N,S,F⟩)] (by
           intro y hy
           simp only [List.mem_cons,List.not_mem_nil,or_false] at hy
           rcases hy with rfl | rfl | rfl
           ·exact ⟨by simp,HNC.out⟩
           ·exact ⟨by simp,HNN.out.1⟩
           ·exact ⟨by simp,HNN.out.2⟩)
          clear hA11 HA10 HSB m0 m1 m2 m3 p0 p1 p2 p3
          go_upto_region 20 with fail
          generalize (((w11.setCell ⟨g,0,none⟩ (.int .u64 md.1)).setCell ⟨g,1,none⟩ (.int .u64 md.2.1)).setCell ⟨g,2,none⟩ (.int .u64 md.2.2.1)).setCell ⟨g,3,none⟩ (.int .u64 md.2.2.2)=w12 at *
          clear x0 x1 x2 x3 xf4
          have HB:Hid (AW wb q L (k+1) s2 md [(gc,uO c),(gw,wasO f),(gs,actO ⟨K,xI j,T,m,B,D,N,S,F⟩),(g,uO md)] w12):=hA12.less (by simp)
          clear hA12
          go_upto_region 20 with fail
          have HB0:Hid (AW wb q L (k+1) s2 md [(gc,uO c),(gw,wasO f),(gs,actO ⟨K,xI j,T,m,B,D,N,S,F⟩),(g,uO md)] w12.drew):=HB.out.drew
          clear HB
          refine wp_region_const2 [[],[],[1],[1,2],[1,2,3],[1,2,3,4],[0,1,2,3,4,5],[0,1,2,3,4,5,6]]
           [uV c,.pointer (some ⟨gs,1,none⟩),.pointer (some ⟨gs,4,none⟩),.int .i64 (j:Int),.pointer (some ⟨gw,j*4,none⟩),uV (f j),.int .i64 (uCmp c (f j)),.bool false]
           [6] ((fun _ W=>AW wb q L (k+1) s2 md [(gc,uO c),(gw,wasO f),(gs,actO ⟨K,xI j,T,m,B,D,N,S,F⟩),(g,uO md)] W)) _ (by kernel_rfl) (by kernel_rfl) (by kernel_rfl)
           (fun vs=>by simp only [rgAct,rgPut,List.setIfInBounds_toArray,List.set_cons_zero,List.set_cons_succ]; exact rfl)
           (by simp only [List.getD_cons_zero,List.getD_cons_succ]; exact rfl) HB0.out ?_ ?_
          ·refine ⟨?_,?_,?_,?_,?_,?_,?_,?_,trivial⟩
           ·intro vs p w1 hA hP hq
            exact rg_loadU rfl rfl rfl (AW.row (g:=gc) (o:=uO c) hP (by simp)) ⟨rfl,hP⟩
           ·intro vs p w1 hA hP hq
            exact rgl_fa rfl rfl rfl ⟨rfl,hP⟩
           ·intro vs p w1 hA hP hq
            obtain ⟨e1,_⟩:=hA
            have e1:vs 1 = .pointer (some ⟨gs,1,none⟩):=e1
            exact rgl_fi rfl rfl e1 ⟨rfl,hP⟩
           ·intro vs p w1 hA hP hq
            obtain ⟨_,e2,_⟩:=hA
            have e2:vs 2 = .pointer (some ⟨gs,4,none⟩):=e2
            exact rg_loadI rfl rfl e2 (rowJ (AW.row (g:=gs) (o:=actO ⟨K,xI j,T,m,B,D,N,S,F⟩) hP (by simp))).2.1.2.2.2 ⟨rfl,hP⟩
           ·intro vs p w1 hA hP hq
            obtain ⟨_,_,e3,_⟩:=hA
            have e3:vs 3 = .int .i64 (j:Int):=e3
            exact rgl_idx rfl rfl rfl e3 hj3 ⟨rfl,hP⟩
           ·intro vs p w1 hA hP hq
            obtain ⟨_,_,_,e4,_⟩:=hA
            have e4:vs 4 = .pointer (some ⟨gw,j*4,none⟩):=e4
            exact rgl_load rfl rfl e4 (wasRow (AW.row (g:=gw) (o:=wasO f) hP (by simp)) hj3) ⟨rfl,hP⟩
           ·intro vs p w1 hA hP hq
            obtain ⟨e0,_,_,_,_,e5,_⟩:=hA
            have e0:vs 0=uV c:=e0
            have e5:vs 5=uV (f j):=e5
            have hp:=hq 0 rfl
            subst hp
            refine rg_fn rfl rfl rfl (by kernel_rfl) (show [vs 0,vs 5]=_ from by rw [e0,e5]) (Calls.mono ((AW.reads hP (HCP.out _))) ?_)
            rintro e w2 ⟨rfl,hP2⟩
            exact ⟨_,rfl,rfl,hP2⟩
           ·intro vs p w1 hA hP hq
            obtain ⟨_,_,_,_,_,_,e6,_⟩:=hA
            have e6:vs 6 = .int .i64 (uCmp c (f j)):=e6
            exact rg_gtr0 rfl rfl e6 HCL.out ⟨rfl,hP⟩
          ·intro W hW
           have HW:Hid (AW wb q L (k+1) s2 md [(gc,uO c),(gw,wasO f),(gs,actO ⟨K,xI j,T,m,B,D,N,S,F⟩),(g,uO md)] W):=hW
           clear hW HB0 HCP HCL
           go_wp2_with fail
           go_loopw [72] (fun i wv=>∃ t:Nat,i = .int .i64 t∧t≤3∧AW wb q L (k+1) s2 md [(gc,uO c),(gw,wasO f),(gs,actO ⟨K,xI j,T,m,B,D,N,S,F⟩),(g,uO md)] wv) (fun i _=>3 - (intOf i).toNat)
           case atStart=>exact ⟨0,rfl,by omega,HW.out⟩
           case round =>
            obtain ⟨t,rfl,ht,hA⟩:=hrel
            have HA:=Lib.hid hA
            clear hA HW
            by_cases ht3:t < 3
            ·have HA0:=Lib.hid HA.out.drew
             clear HA
             go_upto_region 25 with fail
             by_cases htj:t=j
             ·have hne:((t:Int) != (j:Int))=false:=by rw [htj]; simp
              refine wp_region_const2 [[],[],[1],[1,2],[0,1,2,3],[0,1,2,3,4],[0,1,2,3,4,5],[0,1,2,3,4,5],[0,1,2,3,4,5,7],[0,1,2,3,4,5,6,7,8],[0,1,2,3,4,5],[0,1,2,3,4,5,10],[0,1,2,3,4,5,10,11],[0,1,2,3,4,5,6,7,8,9,10,11,12],[0,1,2,3,4,5,6,7,8,9,10,11,12,13]]
               [.int .i64 (t:Int),.pointer (some ⟨gs,1,none⟩),.pointer (some ⟨gs,4,none⟩),.int .i64 (j:Int),.bool false,.bool false,undef,undef,undef,undef,undef,undef,undef,undef,.bool false]
               [] ((fun _ W=>AW wb q L (k+1) s2 md [(gc,uO c),(gw,wasO f),(gs,actO ⟨K,xI j,T,m,B,D,N,S,F⟩),(g,uO md)] W)) _ (by kernel_rfl) (by kernel_rfl) (by kernel_rfl)
               (fun vs=>by simp only [rgAct,rgPut,List.setIfInBounds_toArray,List.set_cons_zero,List.set_cons_succ]; exact rfl)
               (by simp only [List.getD_cons_zero,List.getD_cons_succ]; exact rfl) HA0.out ?_ ?_
              ·refine ⟨?_,?_,?_,?_,?_,?_,?_,?_,?_,?_,?_,?_,?_,?_,?_,trivial⟩
               ·intro vs p w1 hA hP hq
                exact rg_move rfl (.inl rfl) rfl ⟨rfl,hP⟩
               ·intro vs p w1 hA hP hq
                exact rgl_fa rfl rfl rfl ⟨rfl,hP⟩
               ·intro vs p w1 hA hP hq
                obtain ⟨e1,_⟩:=hA
                have e1:vs 1 = .pointer (some ⟨gs,1,none⟩):=e1
                exact rgl_fi rfl rfl e1 ⟨rfl,hP⟩
               ·intro vs p w1 hA hP hq
                obtain ⟨_,e2,_⟩:=hA
                have e2:vs 2 = .pointer (some ⟨gs,4,none⟩):=e2
                exact rg_loadI rfl rfl e2 (rowJ (AW.row (g:=gs) (o:=actO ⟨K,xI j,T,m,B,D,N,S,F⟩) hP (by simp))).2.1.2.2.2 ⟨rfl,hP⟩
               ·intro vs p w1 hA hP hq
                obtain ⟨e0,_,_,e3,_⟩:=hA
                have e0:vs 0 = .int .i64 (t:Int):=e0
                have e3:vs 3 = .int .i64 (j:Int):=e3
                exact rgl_neI rfl rfl e0 e3 hne ⟨rfl,hP⟩
               ·intro vs p w1 hA hP hq
                obtain ⟨_,_,_,_,e4,_⟩:=hA
                have e4:vs 4 = .bool false:=e4
                exact rg_move rfl (.inl rfl) e4 ⟨rfl,hP⟩
               ·intro vs p w1 hA hP hq
                exact rg_out (rg_unwanted rfl rfl rfl hA.2.2.2.2.2.1 rfl) ⟨rfl,hP⟩
               ·intro vs p w1 hA hP hq
                exact rg_out (rg_unwanted rfl rfl rfl hA.2.2.2.2.2.1 rfl) ⟨rfl,hP⟩
               ·intro vs p w1 hA hP hq
                exact rg_out (rg_unwanted rfl rfl rfl hA.2.2.2.2.2.1 rfl) ⟨rfl,hP⟩
               ·intro vs p w1 hA hP hq
                exact rg_out (rg_unwanted rfl rfl rfl hA.2.2.2.2.2.1 rfl) ⟨rfl,hP⟩
               ·intro vs p w1 hA hP hq
                exact rg_out (rg_unwanted rfl rfl rfl hA.2.2.2.2.2.1 rfl) ⟨rfl,hP⟩
               ·intro vs p w1 hA hP hq
                exact rg_out (rg_unwanted rfl rfl rfl hA.2.2.2.2.2.1 rfl) ⟨rfl,hP⟩
               ·intro vs p w1 hA hP hq
                exact rg_out (rg_unwanted rfl rfl rfl hA.2.2.2.2.2.1 rfl) ⟨rfl,hP⟩
               ·intro vs p w1 hA hP hq
                exact rg_out (rg_unwanted rfl rfl rfl hA.2.2.2.2.2.1 rfl) ⟨rfl,hP⟩
               ·intro vs p w1 hA hP hq
                obtain ⟨_,_,_,_,_,e5,_⟩:=hA
                have e5:vs 5 = .bool false:=e5
                exact rg_pick rfl rfl e5 rfl ⟨rfl,hP⟩
              ·intro W hW
               have HR:Hid (AW wb q L (k+1) s2 md [(gc,uO c),(gw,wasO f),(gs,actO ⟨K,xI j,T,m,B,D,N,S,F⟩),(g,uO md)] W):=hW
               clear hW HA0
               go_wp2_with fail
               go_roundw
               case rel=>exact ⟨t+1,by go_num,by omega,HR.out⟩
               case measure=>simp [intOf]; omega
             ·have hne:((t:Int) != (j:Int))=true:=by simp; omega
              have HC2:=Lib.hid (HCV.out t ht3 htj)
              refine wp_region_const2 [[],[],[1],[1,2],[0,1,2,3],[0,1,2,3,4],[0,1,2,3,4,5],[0,1,2,3,4,5],[0,1,2,3,4,5,7],[0,1,2,3,4,5,6,7,8],[0,1,2,3,4,5],[0,1,2,3,4,5,10],[0,1,2,3,4,5,10,11],[0,1,2,3,4,5,6,7,8,9,10,11,12],[0,1,2,3,4,5,6,7,8,9,10,11,12,13]]
               [.int .i64 (t:Int),.pointer (some ⟨gs,1,none⟩),.pointer (some ⟨gs,4,none⟩),.int .i64 (j:Int),.bool true,.bool true,.pointer q,.int .i64 (t:Int),.agg #[.int .i64 7,.int .i64 1,.int .i64 9,.int .i64 (t:Int)],uV (f t),.int .i64 (t:Int),.pointer (some ⟨gw,t*4,none⟩),uV (f t),.bool false,.bool false]
               [9] ((fun _ W=>AW wb q L (k+1) s2 md [(gc,uO c),(gw,wasO f),(gs,actO ⟨K,xI j,T,m,B,D,N,S,F⟩),(g,uO md)] W)) _ (by kernel_rfl) (by kernel_rfl) (by kernel_rfl)
               (fun vs=>by simp only [rgAct,rgPut,List.setIfInBounds_toArray,List.set_cons_zero,List.set_cons_succ]; exact rfl)
               (by simp only [List.getD_cons_zero,List.getD_cons_succ]; exact rfl) HA0.out ?_ ?_
              ·refine ⟨?_,?_,?_,?_,?_,?_,?_,?_,?_,?_,?_,?_,?_,?_,?_,trivial⟩
               ·intro vs p w1 hA hP hq
                exact rg_move rfl (.inl rfl) rfl ⟨rfl,hP⟩
               ·intro vs p w1 hA hP hq
                exact rgl_fa rfl rfl rfl ⟨rfl,hP⟩
               ·intro vs p w1 hA hP hq
                obtain ⟨e1,_⟩:=hA
                have e1:vs 1 = .pointer (some ⟨gs,1,none⟩):=e1
                exact rgl_fi rfl rfl e1 ⟨rfl,hP⟩
               ·intro vs p w1 hA hP hq
                obtain ⟨_,e2,_⟩:=hA
                have e2:vs 2 = .pointer (some ⟨gs,4,none⟩):=e2
                exact rg_loadI rfl rfl e2 (rowJ (AW.row (g:=gs) (o:=actO ⟨K,xI j,T,m,B,D,N,S,F⟩) hP (by simp))).2.1.2.2.2 ⟨rfl,hP⟩
               ·intro vs p w1 hA hP hq
                obtain ⟨e0,_,_,e3,_⟩:=hA
                have e0:vs 0 = .int .i64 (t:Int):=e0
                have e3:vs 3 = .int .i64 (j:Int):=e3
                exact rgl_neI rfl rfl e0 e3 hne ⟨rfl,hP⟩
               ·intro vs p w1 hA hP hq
                obtain ⟨_,_,_,_,e4,_⟩:=hA
                have e4:vs 4 = .bool true:=e4
                exact rg_move rfl (.inl rfl) e4 ⟨rfl,hP⟩
               ·intro vs p w1 hA hP hq
                obtain ⟨_,_,_,_,_,e5,_⟩:=hA
                have e5:vs 5 = .bool true:=e5
                exact rg_move (rg_wanted rfl rfl rfl e5) (.inl rfl) rfl ⟨rfl,hP⟩
               ·intro vs p w1 hA hP hq
                obtain ⟨_,_,_,_,_,e5,_⟩:=hA
                have e5:vs 5 = .bool true:=e5
                exact rg_move (rg_wanted rfl rfl rfl e5) (.inl rfl) rfl ⟨rfl,hP⟩
               ·intro vs p w1 hA hP hq
                obtain ⟨_,_,_,_,_,e5,e7,_⟩:=hA
                have e5:vs 5 = .bool true:=e5
                have e7:vs 7 = .int .i64 (t:Int):=e7
                exact rgl_id (rg_wanted rfl rfl rfl e5) rfl e7 ⟨rfl,hP⟩
               ·intro vs p w1 hA hP hq
                obtain ⟨_,_,_,_,_,e5,e6,_,e8,_⟩:=hA
                have e5:vs 5 = .bool true:=e5
                have e6:vs 6 = .pointer q:=e6
                have e8:vs 8 = .agg #[.int .i64 7,.int .i64 1,.int .i64 9,.int .i64 (t:Int)]:=e8
                have hp:=hq 0 rfl
                subst hp
                refine rg_fn (rg_wanted rfl rfl rfl e5) rfl rfl (by kernel_rfl) (show [vs 6,vs 8]=_ from by rw [e6,e8]) (Calls.mono (HC2.out _ _ _ hP) ?_)
                rintro e w2 ⟨rfl,hP2⟩
                exact ⟨_,rfl,rfl,hP2⟩
               ·intro vs p w1 hA hP hq
                obtain ⟨_,_,_,_,_,e5,_⟩:=hA
                have e5:vs 5 = .bool true:=e5
                exact rg_move (rg_wanted rfl rfl rfl e5) (.inl rfl) rfl ⟨rfl,hP⟩
               ·intro vs p w1 hA hP hq
                obtain ⟨_,_,_,_,_,e5,e10,_⟩:=hA
                have e5:vs 5 = .bool true:=e5
                have e10:vs 10 = .int .i64 (t:Int):=e10
                exact rgl_idx (rg_wanted rfl rfl rfl e5) rfl rfl e10 ht3 ⟨rfl,hP⟩
               ·intro vs p w1 hA hP hq
                obtain ⟨_,_,_,_,_,e5,_,e11,_⟩:=hA
                have e5:vs 5 = .bool true:=e5
                have e11:vs 11 = .pointer (some ⟨gw,t*4,none⟩):=e11
                exact rgl_load (rg_wanted rfl rfl rfl e5) rfl e11 (wasRow (AW.row (g:=gw) (o:=wasO f) hP (by simp)) ht3) ⟨rfl,hP⟩
               ·intro vs p w1 hA hP hq
                obtain ⟨_,_,_,_,_,e5,_,_,_,e9,_,_,e12,_⟩:=hA
                have e5:vs 5 = .bool true:=e5
                have e9:vs 9=uV (f t):=e9
                have e12:vs 12=uV (f t):=e12
                exact rgl_neU (rg_wanted rfl rfl rfl e5) rfl e9 e12 ⟨rfl,hP⟩
               ·intro vs p w1 hA hP hq
                obtain ⟨_,_,_,_,_,e5,_,_,_,_,_,_,_,e13,_⟩:=hA
                have e5:vs 5 = .bool true:=e5
                have e13:vs 13 = .bool false:=e13
                exact rg_pick rfl rfl e5 e13 ⟨rfl,hP⟩
              ·intro W hW
               have HR:Hid (AW wb q L (k+1) s2 md [(gc,uO c),(gw,wasO f),(gs,actO ⟨K,xI j,T,m,B,D,N,S,F⟩),(g,uO md)] W):=hW
               clear hW HA0 HC2
               go_wp2_with fail
               go_roundw
               case rel=>exact ⟨t+1,by go_num,by omega,HR.out⟩
               case measure=>simp [intOf]; omega
            ·have HR:=Lib.hid (HA.out.less (rs':=[(g,uO md)]) (by simp))
             clear HA HCV
             go_wp2_with fail
             go_meet
             case rel=>exact ⟨s2,md,HR.out⟩
         ·rw [if_neg her] at hA10
          have hee:(er == 0)=false:=beq_eq_false_iff_ne.2 her
          have HB:=Lib.hid hA10
          clear hA10 hmo hco
          go_upto_region 20 with fail
          have HB0:Hid (AW wb q L (k+1) s2 m [(gc,uO c),(gw,wasO f),(gs,actO ⟨K,xI j,T,m,B,D,N,S,F⟩),(g,uO m)] w10.drew):=HB.out.drew
          clear HB
          refine wp_region_const2 [[],[],[1],[1,2],[1,2,3],[1,2,3,4],[0,1,2,3,4,5],[0,1,2,3,4,5,6]]
           [uV c,.pointer (some ⟨gs,1,none⟩),.pointer (some ⟨gs,4,none⟩),.int .i64 (j:Int),.pointer (some ⟨gw,j*4,none⟩),uV (f j),.int .i64 (uCmp c (f j)),.bool false]
           [6] ((fun _ W=>AW wb q L (k+1) s2 m [(gc,uO c),(gw,wasO f),(gs,actO ⟨K,xI j,T,m,B,D,N,S,F⟩),(g,uO m)] W)) _ (by kernel_rfl) (by kernel_rfl) (by kernel_rfl)
           (fun vs=>by simp only [rgAct,rgPut,List.setIfInBounds_toArray,List.set_cons_zero,List.set_cons_succ]; exact rfl)
           (by simp only [List.getD_cons_zero,List.getD_cons_succ]; exact rfl) HB0.out ?_ ?_
          ·refine ⟨?_,?_,?_,?_,?_,?_,?_,?_,trivial⟩
           ·intro vs p w1 hA hP hq
            exact rg_loadU rfl rfl rfl (AW.row (g:=gc) (o:=uO c) hP (by simp)) ⟨rfl,hP⟩
           ·intro vs p w1 hA hP hq
            exact rgl_fa rfl rfl rfl ⟨rfl,hP⟩
           ·intro vs p w1 hA hP hq
            obtain ⟨e1,_⟩:=hA
            have e1:vs 1 = .pointer (some ⟨gs,1,none⟩):=e1
            exact rgl_fi rfl rfl e1 ⟨rfl,hP⟩
           ·intro vs p w1 hA hP hq
            obtain ⟨_,e2,_⟩:=hA
            have e2:vs 2 = .pointer (some ⟨gs,4,none⟩):=e2
            exact rg_loadI rfl rfl e2 (rowJ (AW.row (g:=gs) (o:=actO ⟨K,xI j,T,m,B,D,N,S,F⟩) hP (by simp))).2.1.2.2.2 ⟨rfl,hP⟩
           ·intro vs p w1 hA hP hq
            obtain ⟨_,_,e3,_⟩:=hA
            have e3:vs 3 = .int .i64 (j:Int):=e3
            exact rgl_idx rfl rfl rfl e3 hj3 ⟨rfl,hP⟩
           ·intro vs p w1 hA hP hq
            obtain ⟨_,_,_,e4,_⟩:=hA
            have e4:vs 4 = .pointer (some ⟨gw,j*4,none⟩):=e4
            exact rgl_load rfl rfl e4 (wasRow (AW.row (g:=gw) (o:=wasO f) hP (by simp)) hj3) ⟨rfl,hP⟩
           ·intro vs p w1 hA hP hq
            obtain ⟨e0,_,_,_,_,e5,_⟩:=hA
            have e0:vs 0=uV c:=e0
            have e5:vs 5=uV (f j):=e5
            have hp:=hq 0 rfl
            subst hp
            refine rg_fn rfl rfl rfl (by kernel_rfl) (show [vs 0,vs 5]=_ from by rw [e0,e5]) (Calls.mono ((AW.reads hP (HCP.out _))) ?_)
            rintro e w2 ⟨rfl,hP2⟩
            exact ⟨_,rfl,rfl,hP2⟩
           ·intro vs p w1 hA hP hq
            obtain ⟨_,_,_,_,_,_,e6,_⟩:=hA
            have e6:vs 6 = .int .i64 (uCmp c (f j)):=e6
            exact rg_gtr0 rfl rfl e6 HCL.out ⟨rfl,hP⟩
          ·intro W hW
           have HW:Hid (AW wb q L (k+1) s2 m [(gc,uO c),(gw,wasO f),(gs,actO ⟨K,xI j,T,m,B,D,N,S,F⟩),(g,uO m)] W):=hW
           clear hW HB0 HCP HCL
           go_wp2_with fail
           go_loopw [72] (fun i wv=>∃ t:Nat,i = .int .i64 t∧t≤3∧AW wb q L (k+1) s2 m [(gc,uO c),(gw,wasO f),(gs,actO ⟨K,xI j,T,m,B,D,N,S,F⟩),(g,uO m)] wv) (fun i _=>3 - (intOf i).toNat)
           case atStart=>exact ⟨0,rfl,by omega,HW.out⟩
           case round =>
            obtain ⟨t,rfl,ht,hA⟩:=hrel
            have HA:=Lib.hid hA
            clear hA HW
            by_cases ht3:t < 3
            ·have HA0:=Lib.hid HA.out.drew
             clear HA
             go_upto_region 25 with fail
             by_cases htj:t=j
             ·have hne:((t:Int) != (j:Int))=false:=by rw [htj]; simp
              refine wp_region_const2 [[],[],[1],[1,2],[0,1,2,3],[0,1,2,3,4],[0,1,2,3,4,5],[0,1,2,3,4,5],[0,1,2,3,4,5,7],[0,1,2,3,4,5,6,7,8],[0,1,2,3,4,5],[0,1,2,3,4,5,10],[0,1,2,3,4,5,10,11],[0,1,2,3,4,5,6,7,8,9,10,11,12],[0,1,2,3,4,5,6,7,8,9,10,11,12,13]]
               [.int .i64 (t:Int),.pointer (some ⟨gs,1,none⟩),.pointer (some ⟨gs,4,none⟩),.int .i64 (j:Int),.bool false,.bool false,undef,undef,undef,undef,undef,undef,undef,undef,.bool false]
               [] ((fun _ W=>AW wb q L (k+1) s2 m [(gc,uO c),(gw,wasO f),(gs,actO ⟨K,xI j,T,m,B,D,N,S,F⟩),(g,uO m)] W)) _ (by kernel_rfl) (by kernel_rfl) (by kernel_rfl)
               (fun vs=>by simp only [rgAct,rgPut,List.setIfInBounds_toArray,List.set_cons_zero,List.set_cons_succ]; exact rfl)
               (by simp only [List.getD_cons_zero,List.getD_cons_succ]; exact rfl) HA0.out ?_ ?_
              ·refine ⟨?_,?_,?_,?_,?_,?_,?_,?_,?_,?_,?_,?_,?_,?_,?_,trivial⟩
               ·intro vs p w1 hA hP hq
                exact rg_move rfl (.inl rfl) rfl ⟨rfl,hP⟩
               ·intro vs p w1 hA hP hq
                exact rgl_fa rfl rfl rfl ⟨rfl,hP⟩
               ·intro vs p w1 hA hP hq
                obtain ⟨e1,_⟩:=hA
                have e1:vs 1 = .pointer (some ⟨gs,1,none⟩):=e1
                exact rgl_fi rfl rfl e1 ⟨rfl,hP⟩
               ·intro vs p w1 hA hP hq
                obtain ⟨_,e2,_⟩:=hA
                have e2:vs 2 = .pointer (some ⟨gs,4,none⟩):=e2
                exact rg_loadI rfl rfl e2 (rowJ (AW.row (g:=gs) (o:=actO ⟨K,xI j,T,m,B,D,N,S,F⟩) hP (by simp))).2.1.2.2.2 ⟨rfl,hP⟩
               ·intro vs p w1 hA hP hq
                obtain ⟨e0,_,_,e3,_⟩:=hA
                have e0:vs 0 = .int .i64 (t:Int):=e0
                have e3:vs 3 = .int .i64 (j:Int):=e3
                exact rgl_neI rfl rfl e0 e3 hne ⟨rfl,hP⟩
               ·intro vs p w1 hA hP hq
                obtain ⟨_,_,_,_,e4,_⟩:=hA
                have e4:vs 4 = .bool false:=e4
                exact rg_move rfl (.inl rfl) e4 ⟨rfl,hP⟩
               ·intro vs p w1 hA hP hq
                exact rg_out (rg_unwanted rfl rfl rfl hA.2.2.2.2.2.1 rfl) ⟨rfl,hP⟩
               ·intro vs p w1 hA hP hq
                exact rg_out (rg_unwanted rfl rfl rfl hA.2.2.2.2.2.1 rfl) ⟨rfl,hP⟩
               ·intro vs p w1 hA hP hq
                exact rg_out (rg_unwanted rfl rfl rfl hA.2.2.2.2.2.1 rfl) ⟨rfl,hP⟩
               ·intro vs p w1 hA hP hq
                exact rg_out (rg_unwanted rfl rfl rfl hA.2.2.2.2.2.1 rfl) ⟨rfl,hP⟩
               ·intro vs p w1 hA hP hq
                exact rg_out (rg_unwanted rfl rfl rfl hA.2.2.2.2.2.1 rfl) ⟨rfl,hP⟩
               ·intro vs p w1 hA hP hq
                exact rg_out (rg_unwanted rfl rfl rfl hA.2.2.2.2.2.1 rfl) ⟨rfl,hP⟩
               ·intro vs p w1 hA hP hq
                exact rg_out (rg_unwanted rfl rfl rfl hA.2.2.2.2.2.1 rfl) ⟨rfl,hP⟩
               ·intro vs p w1 hA hP hq
                exact rg_out (rg_unwanted rfl rfl rfl hA.2.2.2.2.2.1 rfl) ⟨rfl,hP⟩
               ·intro vs p w1 hA hP hq
                obtain ⟨_,_,_,_,_,e5,_⟩:=hA
                have e5:vs 5 = .bool false:=e5
                exact rg_pick rfl rfl e5 rfl ⟨rfl,hP⟩
              ·intro W hW
               have HR:Hid (AW wb q L (k+1) s2 m [(gc,uO c),(gw,wasO f),(gs,actO ⟨K,xI j,T,m,B,D,N,S,F⟩),(g,uO m)] W):=hW
               clear hW HA0
               go_wp2_with fail
               go_roundw
               case rel=>exact ⟨t+1,by go_num,by omega,HR.out⟩
               case measure=>simp [intOf]; omega
             ·have hne:((t:Int) != (j:Int))=true:=by simp; omega
              have HC2:=Lib.hid (HCV.out t ht3 htj)
              refine wp_region_const2 [[],[],[1],[1,2],[0,1,2,3],[0,1,2,3,4],[0,1,2,3,4,5],[0,1,2,3,4,5],[0,1,2,3,4,5,7],[0,1,2,3,4,5,6,7,8],[0,1,2,3,4,5],[0,1,2,3,4,5,10],[0,1,2,3,4,5,10,11],[0,1,2,3,4,5,6,7,8,9,10,11,12],[0,1,2,3,4,5,6,7,8,9,10,11,12,13]]
               [.int .i64 (t:Int),.pointer (some ⟨gs,1,none⟩),.pointer (some ⟨gs,4,none⟩),.int .i64 (j:Int),.bool true,.bool true,.pointer q,.int .i64 (t:Int),.agg #[.int .i64 7,.int .i64 1,.int .i64 9,.int .i64 (t:Int)],uV (f t),.int .i64 (t:Int),.pointer (some ⟨gw,t*4,none⟩),uV (f t),.bool false,.bool false]
               [9] ((fun _ W=>AW wb q L (k+1) s2 m [(gc,uO c),(gw,wasO f),(gs,actO ⟨K,xI j,T,m,B,D,N,S,F⟩),(g,uO m)] W)) _ (by kernel_rfl) (by kernel_rfl) (by kernel_rfl)
               (fun vs=>by simp only [rgAct,rgPut,List.setIfInBounds_toArray,List.set_cons_zero,List.set_cons_succ]; exact rfl)
               (by simp only [List.getD_cons_zero,List.getD_cons_succ]; exact rfl) HA0.out ?_ ?_
              ·refine ⟨?_,?_,?_,?_,?_,?_,?_,?_,?_,?_,?_,?_,?_,?_,?_,trivial⟩
               ·intro vs p w1 hA hP hq
                exact rg_move rfl (.inl rfl) rfl ⟨rfl,hP⟩
               ·intro vs p w1 hA hP hq
                exact rgl_fa rfl rfl rfl ⟨rfl,hP⟩
               ·intro vs p w1 hA hP hq
                obtain ⟨e1,_⟩:=hA
                have e1:vs 1 = .pointer (some ⟨gs,1,none⟩):=e1
                exact rgl_fi rfl rfl e1 ⟨rfl,hP⟩
               ·intro vs p w1 hA hP hq
                obtain ⟨_,e2,_⟩:=hA
                have e2:vs 2 = .pointer (some ⟨gs,4,none⟩):=e2
                exact rg_loadI rfl rfl e2 (rowJ (AW.row (g:=gs) (o:=actO ⟨K,xI j,T,m,B,D,N,S,F⟩) hP (by simp))).2.1.2.2.2 ⟨rfl,hP⟩
               ·intro vs p w1 hA hP hq
                obtain ⟨e0,_,_,e3,_⟩:=hA
                have e0:vs 0 = .int .i64 (t:Int):=e0
                have e3:vs 3 = .int .i64 (j:Int):=e3
                exact rgl_neI rfl rfl e0 e3 hne ⟨rfl,hP⟩
               ·intro vs p w1 hA hP hq
                obtain ⟨_,_,_,_,e4,_⟩:=hA
                have e4:vs 4 = .bool true:=e4
                exact rg_move rfl (.inl rfl) e4 ⟨rfl,hP⟩
               ·intro vs p w1 hA hP hq
                obtain ⟨_,_,_,_,_,e5,_⟩:=hA
                have e5:vs 5 = .bool true:=e5
                exact rg_move (rg_wanted rfl rfl rfl e5) (.inl rfl) rfl ⟨rfl,hP⟩
               ·intro vs p w1 hA hP hq
                obtain ⟨_,_,_,_,_,e5,_⟩:=hA
                have e5:vs 5 = .bool true:=e5
                exact rg_move (rg_wanted rfl rfl rfl e5) (.inl rfl) rfl ⟨rfl,hP⟩
               ·intro vs p w1 hA hP hq
                obtain ⟨_,_,_,_,_,e5,e7,_⟩:=hA
                have e5:vs 5 = .bool true:=e5
                have e7:vs 7 = .int .i64 (t:Int):=e7
                exact rgl_id (rg_wanted rfl rfl rfl e5) rfl e7 ⟨rfl,hP⟩
               ·intro vs p w1 hA hP hq
                obtain ⟨_,_,_,_,_,e5,e6,_,e8,_⟩:=hA
                have e5:vs 5 = .bool true:=e5
                have e6:vs 6 = .pointer q:=e6
                have e8:vs 8 = .agg #[.int .i64 7,.int .i64 1,.int .i64 9,.int .i64 (t:Int)]:=e8
                have hp:=hq 0 rfl
                subst hp
                refine rg_fn (rg_wanted rfl rfl rfl e5) rfl rfl (by kernel_rfl) (show [vs 6,vs 8]=_ from by rw [e6,e8]) (Calls.mono (HC2.out _ _ _ hP) ?_)
                rintro e w2 ⟨rfl,hP2⟩
                exact ⟨_,rfl,rfl,hP2⟩
               ·intro vs p w1 hA hP hq
                obtain ⟨_,_,_,_,_,e5,_⟩:=hA
                have e5:vs 5 = .bool true:=e5
                exact rg_move (rg_wanted rfl rfl rfl e5) (.inl rfl) rfl ⟨rfl,hP⟩
               ·intro vs p w1 hA hP hq
                obtain ⟨_,_,_,_,_,e5,e10,_⟩:=hA
                have e5:vs 5 = .bool true:=e5
                have e10:vs 10 = .int .i64 (t:Int):=e10
                exact rgl_idx (rg_wanted rfl rfl rfl e5) rfl rfl e10 ht3 ⟨rfl,hP⟩
               ·intro vs p w1 hA hP hq
                obtain ⟨_,_,_,_,_,e5,_,e11,_⟩:=hA
                have e5:vs 5 = .bool true:=e5
                have e11:vs 11 = .pointer (some ⟨gw,t*4,none⟩):=e11
                exact rgl_load (rg_wanted rfl rfl rfl e5) rfl e11 (wasRow (AW.row (g:=gw) (o:=wasO f) hP (by simp)) ht3) ⟨rfl,hP⟩
               ·intro vs p w1 hA hP hq
                obtain ⟨_,_,_,_,_,e5,_,_,_,e9,_,_,e12,_⟩:=hA
                have e5:vs 5 = .bool true:=e5
                have e9:vs 9=uV (f t):=e9
                have e12:vs 12=uV (f t):=e12
                exact rgl_neU (rg_wanted rfl rfl rfl e5) rfl e9 e12 ⟨rfl,hP⟩
               ·intro vs p w1 hA hP hq
                obtain ⟨_,_,_,_,_,e5,_,_,_,_,_,_,_,e13,_⟩:=hA
                have e5:vs 5 = .bool true:=e5
                have e13:vs 13 = .bool false:=e13
                exact rg_pick rfl rfl e5 e13 ⟨rfl,hP⟩
              ·intro W hW
               have HR:Hid (AW wb q L (k+1) s2 m [(gc,uO c),(gw,wasO f),(gs,actO ⟨K,xI j,T,m,B,D,N,S,F⟩),(g,uO m)] W):=hW
               clear hW HA0 HC2
               go_wp2_with fail
               go_roundw
               case rel=>exact ⟨t+1,by go_num,by omega,HR.out⟩
               case measure=>simp [intOf]; omega
            ·have HR:=Lib.hid (HA.out.less (rs':=[(g,uO m)]) (by simp))
             clear HA HCV
             go_wp2_with fail
             go_meet
             case rel=>exact ⟨s2,m,HR.out⟩
      case rest =>
       obtain ⟨s2,m2,hA2⟩:=hcut
       have HEN:Hid (∀ W,AW wb q L (k+1) s2 m2 [(g,uO m2)] W→_):=fun W h=>h.encd hk1
       have HSM:Hid (∀ W,AW wb q L (k+1) s2 m2 [(g,uO m2)] W→_):=fun W h=>h.sumd hk1
       have HCP:Hid (∀ W,Calls Tryz.prog 10 #[uV (s2.amt KA),uV m2] W fun e w'=>e = .returned (.int .i64 (uCmp (s2.amt KA) m2))∧Below W.heap.size W w'):=fun W=>rcmp_u (s2.amt KA) m2 (amt_ok _ _) hA2.ar.v.mo W
       have HCL:Hid (decide (0 < uCmp (s2.amt KA) m2)=false):=decide_eq_false (by have:=uCmp_le.2 hA2.ar.v.le; omega)
       have HB0:Hid (AW wb q L (k+1) s2 m2 [(g,uO m2)] wc.drew):=hA2.drew
       clear hA2 HA HCW HAO
       generalize s2.amt KA=en at *
       go_upto_region 32 with fail
       refine wp_region_const2 [[],[0],[],[0,1,2],[0,1,2,3],[0,1,2,3,4],[0,1,2,3,4,5],[0,1,2,3,4,5,6],[0,1,2,3,4,5],[0,1,2,3,4,5,6,7,8],[0,1,2,3,4,5,6,7,8,9],[0,1,2,3,4,5,6,7,8,9,10]]
        [.pointer q,uV en,.pointer q,uV en,.bool false,.bool false,.pointer q,uV en,uV m2,.int .i64 (uCmp en m2),.bool false,.bool false]
        [1,3,7,9] ((fun _ W=>AW wb q L (k+1) s2 m2 [(g,uO m2)] W)) _ (by kernel_rfl) (by kernel_rfl) (by kernel_rfl)
        (fun vs=>by simp only [rgAct,rgPut,List.setIfInBounds_toArray,List.set_cons_zero,List.set_cons_succ]; exact rfl)
        (by simp only [List.getD_cons_zero,List.getD_cons_succ]; exact rfl) HB0.out ?_ ?_
       ·refine ⟨?_,?_,?_,?_,?_,?_,?_,?_,?_,?_,?_,?_,trivial⟩
        ·intro vs p w1 hA hP hq
         exact rg_move rfl (.inl rfl) rfl ⟨rfl,hP⟩
        ·intro vs p w1 hA hP hq
         obtain ⟨e0,_⟩:=hA
         have e0:vs 0 = .pointer q:=e0
         have hp:=hq 0 rfl
         subst hp
         refine rg_fn rfl rfl rfl (by kernel_rfl) (show [vs 0,.int .i64 7,.int .i64 1]=_ from by rw [e0]) (Calls.mono (HSM.out _ hP) ?_)
         rintro e w2 ⟨rfl,hP2⟩
         exact ⟨_,rfl,rfl,hP2⟩
        ·intro vs p w1 hA hP hq
         exact rg_move rfl (.inl rfl) rfl ⟨rfl,hP⟩
        ·intro vs p w1 hA hP hq
         obtain ⟨_,_,e2,_⟩:=hA
         have e2:vs 2 = .pointer q:=e2
         have hp:=hq 1 rfl
         subst hp
         refine rg_fn rfl rfl rfl (by kernel_rfl) (show [vs 2,.int .i64 7,.int .i64 1]=_ from by rw [e2]) (Calls.mono (HEN.out _ hP) ?_)
         rintro e w2 ⟨rfl,hP2⟩
         exact ⟨_,rfl,rfl,hP2⟩
        ·intro vs p w1 hA hP hq
         obtain ⟨_,e1,_,e3,_⟩:=hA
         have e1:vs 1=uV en:=e1
         have e3:vs 3=uV en:=e3
         exact rgl_neU rfl rfl e1 e3 ⟨rfl,hP⟩
        ·intro vs p w1 hA hP hq
         obtain ⟨_,_,_,_,e4,_⟩:=hA
         have e4:vs 4 = .bool false:=e4
         exact rg_move rfl (.inl rfl) e4 ⟨rfl,hP⟩
        ·intro vs p w1 hA hP hq
         obtain ⟨_,_,_,_,_,e5,_⟩:=hA
         have e5:vs 5 = .bool false:=e5
         exact rg_move (rg_wanted rfl rfl rfl e5) (.inl rfl) rfl ⟨rfl,hP⟩
        ·intro vs p w1 hA hP hq
         obtain ⟨_,_,_,_,_,e5,e6,_⟩:=hA
         have e5:vs 5 = .bool false:=e5
         have e6:vs 6 = .pointer q:=e6
         have hp:=hq 2 rfl
         subst hp
         refine rg_fn (rg_wanted rfl rfl rfl e5) rfl rfl (by kernel_rfl) (show [vs 6,.int .i64 7,.int .i64 1]=_ from by rw [e6]) (Calls.mono (HEN.out _ hP) ?_)
         rintro e w2 ⟨rfl,hP2⟩
         exact ⟨_,rfl,rfl,hP2⟩
        ·intro vs p w1 hA hP hq
         obtain ⟨_,_,_,_,_,e5,_⟩:=hA
         have e5:vs 5 = .bool false:=e5
         exact rg_loadU (rg_wanted rfl rfl rfl e5) rfl rfl (AW.row (g:=g) (o:=uO m2) hP (by simp)) ⟨rfl,hP⟩
        ·intro vs p w1 hA hP hq
         obtain ⟨_,_,_,_,_,e5,_,e7,e8,_⟩:=hA
         have e5:vs 5 = .bool false:=e5
         have e7:vs 7=uV en:=e7
         have e8:vs 8=uV m2:=e8
         have hp:=hq 3 rfl
         subst hp
         refine rg_fn (rg_wanted rfl rfl rfl e5) rfl rfl (by kernel_rfl) (show [vs 7,vs 8]=_ from by rw [e7,e8]) (Calls.mono ((AW.reads hP (HCP.out _))) ?_)
         rintro e w2 ⟨rfl,hP2⟩
         exact ⟨_,rfl,rfl,hP2⟩
        ·intro vs p w1 hA hP hq
         obtain ⟨_,_,_,_,_,e5,_,_,_,e9,_⟩:=hA
         have e5:vs 5 = .bool false:=e5
         have e9:vs 9 = .int .i64 (uCmp en m2):=e9
         exact rg_gtr0 (rg_wanted rfl rfl rfl e5) rfl e9 HCL.out ⟨rfl,hP⟩
        ·intro vs p w1 hA hP hq
         obtain ⟨_,_,_,_,_,e5,_,_,_,_,e10,_⟩:=hA
         have e5:vs 5 = .bool false:=e5
         have e10:vs 10 = .bool false:=e10
         exact rg_pick rfl rfl e5 e10 ⟨rfl,hP⟩
       ·intro W hW
        have HR:Hid (AW wb q L (k+1) s2 m2 [(g,uO m2)] W):=hW
        clear hW HB0 HEN HSM HCP HCL
        go_wp2_with fail
        go_roundw
        case rel=>exact ⟨k+1,s2,m2,by go_num,by omega,HR.out⟩
        case measure=>simp [intOf]; omega
   ·have HL5:=Lib.hid (HLV.out _ (HB.out _ _ _ _ _ HA.out))
    clear HA HB HG HC HOK HLV
    go_wp2_with fail
    refine Calls.mono HL5.out ?_
    rintro e w6 ⟨rfl,hb6⟩
    have HB6:=Lib.hid hb6
    clear hb6 HL5
    go_wp2_with fail
    go_ret
    exact ⟨rfl,HB6.out⟩
end Go.Proofs.YtnkilceibkkjlaaGreat
