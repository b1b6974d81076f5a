/- What is proved here: ExitCovers' walk: true at every input. Condition: the arguments as they came in. the given statement ExitCoversSaid: the law ExitCovers returns true at every input, and what was there when it was called stands. -/
import Derived.Test.YtnkilceibkkjlaaGreatHExCp
import Derived.Test.YtnkilceibkkjlaaGreatHRDivU
import Derived.Test.YtnkilceibkkjlaaGreatHExActA
import Derived.Deep.CutBlock
import Derived.Deep.DeepCutAuto
import Derived.Test.YtnkilceibkkjlaaGreatHRow
set_option maxRecDepth 100000
set_option maxHeartbeats 16000000
namespace Go.Proofs.YtnkilceibkkjlaaGreat
open Go.RowKit
theorem uT:SliceT Tryz.prog 76 24 (.agg #[.int .u64 0,.int .u64 0,.int .u64 0,.int .u64 0]) 4 32:=⟨by kernel_rfl,by kernel_rfl,rfl,by decide⟩
theorem row6 {w:World} {g:Nat} {v0 v1 v2 v3 v4 v5:Value} {T:TypeId} (h:w.heap[g]? = some (.cells #[v0,v1,v2,v3,v4,v5] T (0,0))):w.cell? ⟨g,0,none⟩=some v0∧w.cell? ⟨g,1,none⟩=some v1∧w.cell? ⟨g,2,none⟩=some v2∧w.cell? ⟨g,3,none⟩=some v3∧w.cell? ⟨g,4,none⟩=some v4∧w.cell? ⟨g,5,none⟩=some v5:=by
 have hc:∀ (o:Nat) v,(#[v0,v1,v2,v3,v4,v5]:Array Value)[o]? = some v→w.cell? ⟨g,o,none⟩=some v:=fun o v hv=>by rw [cell_of_row _ _ _ _ _ _ h]; exact hv
 exact ⟨hc 0 _ rfl,hc 1 _ rfl,hc 2 _ rfl,hc 3 _ rfl,hc 4 _ rfl,hc 5 _ rfl⟩
theorem cvLeft {m P:W4} (hm:m.Ok) (h0:1≤uN m) {x:Nat} (hx:x < 256) (hP:uN P=uN m*x / 256):(subW m P).Ok∧1≤uN (subW m P)∧uN (subW m P)≤uN m:=by
 have h1:uN m*x / 256 < uN m:=by
  refine (Nat.div_lt_iff_lt_mul (by decide)).2 ?_
  exact Nat.mul_lt_mul_of_pos_left hx h0
 have h2:uN (subW m P)=uN m - uN P:=sub_own hm (by omega)
 exact ⟨subW_ok _ _,by omega,by omega⟩
theorem cvPart {d:W4} (hd:uN d≤1000000000000000000) {y:Nat} (hy:y≤256):∃ P:W4,uOf (uN (toW (uN d*uN ((y,0,0,0):W4))) / uN ((256,0,0,0):W4))=P∧P.Ok∧uN P=uN d*y / 256:=by
 have e1:uN ((y,0,0,0):W4)=y:=by unfold uN; simp
 have e2:uN ((256,0,0,0):W4)=256:=rfl
 have hlt:uN d*y < 115792089237316195423570985008687907853269984665640564039457584007913129639936:=by
  have h1:uN d*y≤uN d*256:=Nat.mul_le_mul_left _ hy
  omega
 refine ⟨_,rfl,uOf_ok _,?_⟩
 have hltW:uN d*y < W256:=hlt
 rw [e1,e2]
 unfold toW
 rw [if_pos hltW,uN_of hlt,uN_of (Nat.lt_of_le_of_lt (Nat.div_le_self _ _) hlt)]
theorem all4 (m:W4):∀ u∈[Value.int .u64 m.1,.int .u64 m.2.1,.int .u64 m.2.2.1,.int .u64 m.2.2.2],u.oneCell'=true:=fun u hu=>by
 simp only [List.mem_cons,List.not_mem_nil,or_false] at hu
 rcases hu with rfl | rfl | rfl | rfl <;> rfl
theorem news_four (w:World) (x0 x1 x2 x3:Value) (t:TypeId):∀ j u,[x0,x1,x2,x3][j]? = some u→(w.alloc (.cells #[x0,x1,x2,x3] t)).cell? ((⟨w.heap.size,0,none⟩:Addr).add j)=some u:=fun j u hj=>by
 rw [Addr.add_lit,Nat.zero_add,cell_of_row _ _ _ _ _ _ (heap_alloc_new w _)]
 simpa using hj
theorem xcov_walk (w:World) (dl:Nat) (hdl:dl < 256) (a:Option Addr) (c:Nat) (l:List CStep) (h:Steps24In w a l):Calls Tryz.prog 7 #[.int .u8 dl,.slice a l.length c] w fun e w'=>e = .returned (.bool true)∧Below w.heap.size w w':=by
 have HL:=Lib.hid (lives24 w)
 have HN:=Lib.hid (newB w)
 by_cases h40:40 < l.length
 ·have hd:decide ((40:Int) < (l.length:Int))=true:=decide_eq_true (by omega)
  clear h
  generalize l.length=n at *
  go_enter Tryz.func7,Tryz.ntmps7
  go_wp2_with (go_at_call 12; refine HL.out.mono ?_; rintro e wb ⟨rfl,h1⟩)
  go_ret
  exact ⟨rfl,h1⟩
 ·have hd:decide ((40:Int) < (l.length:Int))=false:=decide_eq_false (by omega)
  have HC:Hid (∀ wr k x,Below w.heap.size w wr→l[k]? = some x→At6c a k x wr):=fun wr k x hb hk=>h.at6c hb hk
  have HOK:Hid (∀ (k:Nat) (x:CStep),l[k]? = some x→x.Ok):=fun k x hk=>h.ok x (List.mem_of_getElem? hk)
  have HG:Hid (∀ k,k < l.length→∃ x,l[k]? = some x):=fun k hk=>⟨_,List.getElem?_eq_getElem hk⟩
  have HLV:Hid (∀ W,Below w.heap.size w W→Calls Tryz.prog 12 #[] W fun e w'=>e = .returned (.bool true)∧Below w.heap.size w w'):=fun W hb=>(lives24 W).mono fun e w' ⟨he,h1⟩=>⟨he,bl_then hb h1⟩
  clear h HL
  generalize l.length=n at *
  go_enter Tryz.func7,Tryz.ntmps7
  go_wp2_with fail
  refine Calls.mono HN.out ?_
  rintro e wb ⟨b0,L,rfl,hS,hb,hL⟩
  have hq0:HV ⟨some ⟨b0,0,none⟩,true,L⟩ wb emptySt [] wb:=HV.start (.inl ⟨rfl,b0,rfl,hS⟩)
  have HB:Hid (∀ k b d m ve vs vc es ec s rs W,CL wb (some ⟨b0,0,none⟩) L k b d m ve vs vc es ec s rs W→Below w.heap.size w W):=fun k b d m ve vs vc es ec s rs W hV=>by
   obtain ⟨T,h1,_⟩:=hV.ev.t
   exact HV.belowOf h1 hb hL
  have HBE:Hid (∀ k j b ve vs vc es s W,CD wb (some ⟨b0,0,none⟩) L k j b ve vs vc es s W→Below w.heap.size w W):=fun k j b ve vs vc es s W hV=>by
   obtain ⟨T,h1,_⟩:=hV.ev.t
   exact HV.belowOf h1 hb hL
  have HONE:=Lib.hid (one_any wb)
  have HQ0:=Lib.hid hq0
  clear hq0 hS hb hL HN
  generalize (some ⟨b0,0,none⟩:Option Addr)=q at *
  go_wp2_with fail
  refine Calls.mono HONE.out ?_
  rintro e w2 ⟨rfl,hb2⟩
  have hq3:=(HQ0.out.below hb2).alloc (uO oneW)
  clear HQ0 hb2 HONE
  go_upto_region 5 with fail
  obtain ⟨d,hd7,hdd⟩:∃ d:Nat,d≤7∧(1+(dl:Int) % 7)=(d:Int):=⟨1+dl % 7,by omega,by omega⟩
  rw [hdd]
  clear hdd
  generalize w2.alloc (uO oneW)=w3 at *
  generalize w2.heap.size=g at *
  have H0:Hid (CL wb q L 0 0 d oneW (.slice none 0 0) (.slice none 0 0) (.slice none 0 0) [] [] emptySt [(g,uO oneW)] w3):=⟨EV.start hq3 _ _ _ _ _ _,CvSt.empty,CvM.empty _ _,St.Fit.empty,⟨rfl,Nat.le_refl _⟩,Nat.le_refl _⟩
  clear hq3
  go_wp2_with fail
  go_loopw [39,7,9,10,11] (fun i sb se ss sc wr=>∃ (k b:Nat) (m:W4) (es:List CE) (s:St),i = .int .i64 k∧k≤n∧sb = .int .i64 b∧CL wb q L k b d m se ss sc es es s [(g,uO m)] wr) (fun i _ _ _ _ _=>n - (intOf i).toNat)
  case atStart=>exact ⟨0,0,oneW,[],emptySt,rfl,by omega,rfl,H0.out⟩
  case round =>
   obtain ⟨k,b,m,es,s,rfl,hk,rfl,hA⟩:=hrel
   have HA:=Lib.hid hA
   clear hA H0
   by_cases hlt:k < n
   ·obtain ⟨x,hx⟩:=HG.out k hlt
    obtain ⟨ad,rfl,q0,qs⟩:=HC.out wr k _ (HB.out _ _ _ _ _ _ _ _ _ _ _ _ HA.out) hx
    have hxo:=HOK.out k x hx
    unfold CStep.L at qs
    clear hx
    obtain ⟨xk,xx,⟨M0,M1,M2,M3⟩⟩:=x
    simp only at q0 qs
    have hA1:=HA.out.alloc (.cells #[.int .i64 xk,.int .u8 xx,.int .u64 M0,.int .u64 M1,.int .u64 M2,.int .u64 M3] 78)
    have q1:=qs 1 _ rfl (by decide)
    have q2:=qs 2 _ rfl (by decide)
    have q3:=qs 3 _ rfl (by decide)
    have q4:=qs 4 _ rfl (by decide)
    have q5:=qs 5 _ rfl (by decide)
    clear qs
    go_upto_region 10 with fail
    generalize wr.alloc (.cells #[.int .i64 xk,.int .u8 xx,.int .u64 M0,.int .u64 M1,.int .u64 M2,.int .u64 M3] 78)=w4 at *
    generalize wr.heap.size=gs at *
    clear q0 q1 q2 q3 q4 q5
    obtain ⟨c0,c1,c2,c3,c4,c5⟩:=row6 (hA1.row (g:=gs) (o:=.cells #[.int .i64 xk,.int .u8 xx,.int .u64 M0,.int .u64 M1,.int .u64 M2,.int .u64 M3] 78) (by simp))
    have HA1:=Lib.hid hA1
    clear hA1 HA
    have hxx:=hxo.x
    simp only at hxx
    have HXO:=Lib.hid hxo.am
    simp only at HXO
    clear hxo
    go_upto_block 2 with fail
    go_cut [7,9,10,11] (fun sb se ss sc wc=>∃ (b':Nat) (m':W4) (es':List CE) (s':St),sb = .int .i64 b'∧CL wb q L (k+1) b' d m' se ss sc es' (es'.map (cCut b' d m')) s' [(g,uO m')] wc)
    case first =>
     by_cases h0:xk=0
     ·subst h0
      obtain ⟨m0,m1,m2,m3,_⟩:=row4 (HA1.out.row (g:=g) (o:=uO m) (by simp))
      obtain ⟨pS,pc,hss,_⟩:=Own.form HA1.out.ev.fb
      dsimp only at hss
      subst hss
      have HP:=Lib.hid (HA1.out.add (by omega) HXO.out)
      have hnk:=HA1.out.len.2
      have hbk:=HA1.out.bl
      have hst:wrap64 (1+wrap64 ((es.length:Int) / 8))=((1+es.length / 8:Nat):Int):=by unfold wrap64; omega
      have HST:=Lib.hid hst
      have HNB:Hid (es.length≤k∧b≤4*k):=⟨hnk,hbk⟩
      have HES:Hid (es.length≤40):=Nat.le_trans hnk (by omega)
      clear hnk hbk hst
      go_wp2_with fail
      rw [HST.out]
      refine Calls.mono HP.out ?_
      rintro e w5 ⟨nn,er,rfl,hr⟩
      clear HP HA1 HST c0 c1 c2 c3 c4 c5 m0 m1 m2 m3
      rcases hr with ⟨her,hLL⟩ | ⟨rfl,rfl,s',hev,hst',hm',hf'⟩
      ·have hbe:(er == 0)=false:=by simpa using her
       have HR:=Lib.hid (hLL.less (rs':=[(g,uO m)]) (by simp))
       clear hLL
       go_wp2_with fail
       go_roundw
       case rel=>exact ⟨k+1,b,m,es,s,by go_num,by omega,rfl,HR.out⟩
       case measure=>simp [intOf]; omega
      ·have hev0:=hev.less (rs':=[(g,uO m)]) (by simp)
       clear hev
       have HO1:Hid (∀ o1,Own (w5.alloc o1) 3 1 u9 es.length (idsV es.length)):=fun o1=>(hev0.alloc o1).fa
       have HP1:Hid (∀ o1 v' w',Appended (w5.alloc o1) 3 1 u9 es.length 1 (idsV es.length) [.int .i64 ((es.length:Int)+1)] v' w'→EV wb q L s' ⟨3,1,v',es.length+1,idsV es.length ++ [.int .i64 ((es.length+1:Nat):Int)]⟩ ⟨3,1,.slice pS es.length pc,es.length,stsV es⟩ ⟨24,4,u11,es.length,csV es⟩ [(g,uO m)] w'):=fun o1 v' w' hA=>((hev0.alloc o1).app hA).less (by simp)
       have HSM:=Lib.hid (And.intro hst' (And.intro hm' hf'))
       clear hev0 hst' hm' hf'
       go_wp2_with (at_builtin; refine wpList_append_Own rfl _ _ 75 75 rfl intT intT _ es.length _ rfl (HO1.out _) _ 1 _ [.int .i64 ((es.length:Int)+1)] rfl rfl (news_one _ _ _) (by intro u hu; rw [List.mem_singleton.1 hu]; rfl) (by have:=HES.out; unfold maxLen; omega) (by have:=HES.out; omega) ?_)
       intro ve w6 hA
       have hev:=HP1.out _ _ _ hA
       clear hA HO1 HP1
       have HO2:Hid (∀ o1,Own (w6.alloc o1) 3 1 (.slice pS es.length pc) es.length (stsV es)):=fun o1=>(hev.alloc o1).fb
       have HP2:Hid (∀ o1 v' w',Appended (w6.alloc o1) 3 1 (.slice pS es.length pc) es.length 1 (stsV es) [.int .i64 (b:Int)] v' w'→EV wb q L s' ⟨3,1,ve,es.length+1,idsV es.length ++ [.int .i64 ((es.length+1:Nat):Int)]⟩ ⟨3,1,v',es.length+1,stsV es ++ [.int .i64 (b:Int)]⟩ ⟨24,4,u11,es.length,csV es⟩ [(g,uO m)] w'):=fun o1 v' w' hA=>((hev.alloc o1).swap.app hA).swap.less (by simp)
       clear hev
       go_wp2_with (at_builtin; refine wpList_append_Own rfl _ _ 75 75 rfl intT intT _ es.length _ rfl (HO2.out _) _ 1 _ [.int .i64 (b:Int)] rfl rfl (news_one _ _ _) (by intro u hu; rw [List.mem_singleton.1 hu]; rfl) (by have:=HES.out; unfold maxLen; omega) (by have:=HES.out; omega) ?_)
       intro vs w7 hA
       have hev:=HP2.out _ _ _ hA
       clear hA HO2 HP2
       obtain ⟨m0,m1,m2,m3,_⟩:=row4 (hev.row (g:=g) (o:=uO m) (by simp))
       have HO3:Hid (∀ o1,Own (w7.alloc o1) 24 4 u11 es.length (csV es)):=fun o1=>(hev.alloc o1).fc
       have HP3:Hid (∀ o1 v' w',Appended (w7.alloc o1) 24 4 u11 es.length 1 (csV es) [.int .u64 m.1,.int .u64 m.2.1,.int .u64 m.2.2.1,.int .u64 m.2.2.2] v' w'→EV wb q L s' ⟨3,1,ve,es.length+1,idsV es.length ++ [.int .i64 ((es.length+1:Nat):Int)]⟩ ⟨3,1,vs,es.length+1,stsV es ++ [.int .i64 (b:Int)]⟩ ⟨24,4,v',es.length+1,csV es ++ [.int .u64 m.1,.int .u64 m.2.1,.int .u64 m.2.2.1,.int .u64 m.2.2.2]⟩ [(g,uO m)] w'):=fun o1 v' w' hA=>((hev.alloc o1).rot.app hA).rot.rot.less (by simp)
       clear hev
       go_wp2_with (at_builtin; refine wpList_append_Own rfl _ _ 76 76 rfl uT uT _ es.length _ rfl (HO3.out _) _ 1 _ [.int .u64 m.1,.int .u64 m.2.1,.int .u64 m.2.2.1,.int .u64 m.2.2.2] rfl rfl (news_four _ _ _ _ _ _) (all4 m) (by have:=HES.out; unfold maxLen; omega) (by have:=HES.out; omega) ?_)
       intro vc w8 hA
       have hev:=HP3.out _ _ _ hA
       have HR:=Lib.hid (CL.grew (e:=⟨b,(M0,M1,M2,M3),m,m⟩) hev HSM.out.1 HSM.out.2.1 HSM.out.2.2 HNB.out.1 HNB.out.2)
       clear hA HO3 HP3 hev HSM HNB m0 m1 m2 m3
       go_wp2_with fail
       go_meet
       case rel=>exact ⟨b,m,_,s',rfl,HR.out⟩
     ·by_cases h1:xk=1
      ·subst h1
       obtain ⟨m0,m1,m2,m3,_⟩:=row4 (HA1.out.row (g:=g) (o:=uO m) (by simp))
       have hmm:=HA1.out.mm
       obtain ⟨P,hP,hPo,hPn⟩:=cvPart hmm.one (y:=xx) (by omega)
       obtain ⟨t1,t2,t3⟩:=cvLeft hmm.mo hmm.pos hxx hPn
       have HT:=Lib.hid (And.intro t1 (And.intro t2 t3))
       have HSB:Hid (∀ W,Calls Tryz.prog 22 #[uV m,uV P] W fun e w'=>e = .returned (.tuple #[uV (subW m P),.bool (subB m P)])∧Below W.heap.size W w'):=fun W=>rsub_u m P hmm.mo hPo W
       have HDV:Hid (∀ W,Calls Tryz.prog 39 #[uV (toW (uN m*uN ((xx,0,0,0):W4))),.agg #[.int .u64 256,.int .u64 0,.int .u64 0,.int .u64 0]] W fun e w'=>e = .returned (.tuple #[uV P,uV (uOf (uN (toW (uN m*uN ((xx,0,0,0):W4))) % uN ((256,0,0,0):W4))),.bool true])∧Below W.heap.size W w'):=fun W=>by
        have:=rdiv_u (toW (uN m*uN ((xx,0,0,0):W4))) (256,0,0,0) (toW_ok _) ⟨by decide,by decide,by decide,by decide⟩ (by decide) W
        rw [hP] at this
        exact this
       have HML:Hid (∀ W,Calls Tryz.prog 38 #[uV m,uV (xx,0,0,0)] W fun e w'=>e = .returned (.tuple #[uV (toW (uN m*uN ((xx,0,0,0):W4))),.bool (toB (uN m*uN ((xx,0,0,0):W4)))])∧Below W.heap.size W w'):=fun W=>rmul_u m _ hmm.mo ⟨(by show xx < 18446744073709551616; omega),(by show 0 < 18446744073709551616; decide),(by show 0 < 18446744073709551616; decide),(by show 0 < 18446744073709551616; decide)⟩ W
       clear hP hPo hPn t1 t2 t3 hmm
       generalize uOf (uN (toW (uN m*uN ((xx,0,0,0):W4))) % uN ((256,0,0,0):W4))=rr at *
       generalize toW (uN m*uN ((xx,0,0,0):W4))=p1 at *
       generalize toB (uN m*uN ((xx,0,0,0):W4))=b1 at *
       generalize subW m P=tq at *
       generalize subB m P=b2 at *
       go_wp2_with fail
       refine Calls.mono ((HA1.out.reads (HML.out _)).mono fun _ _ h=>And.intro h.1 (h.2.less (rs':=[(g,uO m)]) (by simp))) ?_
       rintro e w5 ⟨rfl,hB5⟩
       have hB6:=hB5.alloc (uO p1)
       have HNE:Hid (g≠w5.heap.size):=Nat.ne_of_lt (hB5.lt (g:=g) (o:=uO m) (by simp))
       clear hB5 HML m0 m1 m2 m3 c0 c1 c2 c3 c4 c5 HA1
       go_upto_region 19 with fail
       generalize w5.alloc (uO p1)=w6 at *
       generalize w5.heap.size=g16 at *
       obtain ⟨p0,p1',p2,p3,_⟩:=row4 (hB6.row (g:=g16) (o:=uO p1) (by simp))
       have HB6:=Lib.hid hB6
       clear hB6
       go_wp2_with fail
       refine Calls.mono (HB6.out.reads (HDV.out _)) ?_
       rintro e w7 ⟨rfl,hB7⟩
       clear HB6 HDV p0 p1' p2 p3
       obtain ⟨x0,x1,x2,x3,xf⟩:=row4 (hB7.row (g:=g16) (o:=uO p1) (by simp))
       have hB8:=hB7.put4 (g:=g16) (y:=p1) P (by simp) [(g,uO m)] (by simpa using HNE.out)
       clear hB7
       go_upto_region 20 with fail
       generalize (((w7.setCell ⟨g16,0,none⟩ (.int .u64 P.1)).setCell ⟨g16,1,none⟩ (.int .u64 P.2.1)).setCell ⟨g16,2,none⟩ (.int .u64 P.2.2.1)).setCell ⟨g16,3,none⟩ (.int .u64 P.2.2.2)=w8 at *
       clear x0 x1 x2 x3 xf
       obtain ⟨p0,p1',p2,p3,_⟩:=row4 (hB8.row (g:=g16) (o:=uO P) (by simp))
       obtain ⟨m0,m1,m2,m3,_⟩:=row4 (hB8.row (g:=g) (o:=uO m) (by simp))
       have HB8:=Lib.hid hB8
       clear hB8
       go_wp2_with fail
       refine Calls.mono ((HB8.out.reads (HSB.out _)).mono fun _ _ h=>And.intro h.1 (h.2.less (rs':=[(g,uO m)]) (by simp))) ?_
       rintro e w9 ⟨rfl,hB9⟩
       have HNE2:Hid (g≠w9.heap.size):=Nat.ne_of_lt (hB9.lt (g:=g) (o:=uO m) (by simp))
       have hB10:=hB9.alloc (uO tq)
       clear HB8 HSB HNE p0 p1' p2 p3 m0 m1 m2 m3 hB9
       go_upto_region 21 with fail
       generalize w9.alloc (uO tq)=w10 at *
       generalize w9.heap.size=g18 at *
       obtain ⟨p0,p1',p2,p3,_⟩:=row4 (hB10.row (g:=g18) (o:=uO tq) (by simp))
       obtain ⟨m0,m1,m2,m3,_⟩:=row4 (hB10.row (g:=g) (o:=uO m) (by simp))
       have HCU:=Lib.hid (hB10.cut (by omega) HT.out.1 HT.out.2.2 HT.out.2.1)
       clear hB10 HT
       go_wp2_with fail
       refine Calls.mono HCU.out ?_
       rintro e w11 ⟨u,rfl,s',hB11⟩
       clear HCU p0 p1' p2 p3 m0 m1 m2 m3
       have HB12:=Lib.hid ((hB11.alloc (uO u)).less (rs':=[(g18,uO tq),(g,uO m)]) (by simp))
       clear hB11
       go_upto_region 24 with fail
       generalize w11.alloc (uO u)=w12 at *
       generalize w11.heap.size=g20 at *
       obtain ⟨p0,p1',p2,p3,_⟩:=row4 (HB12.out.row (g:=g18) (o:=uO tq) (by simp))
       obtain ⟨x0,x1,x2,x3,xf⟩:=row4 (HB12.out.row (g:=g) (o:=uO m) (by simp))
       have HR:=Lib.hid ((HB12.out.put4 (g:=g) (y:=m) tq (by simp) [] (by simp)))
       clear HB12 HNE2
       go_wp2_with fail
       go_meet
       case rel=>exact ⟨b,tq,es,s',rfl,HR.out⟩
      ·by_cases h2:xk=2
       ·subst h2
        have HR:=Lib.hid ((HA1.out.later (x:=xx % 5) (by omega)).less (rs':=[(g,uO m)]) (by simp))
        have hbl:=HA1.out.bl
        clear HA1
        go_wp2_with fail
        go_meet
        case rel=>exact ⟨b+xx % 5,m,es,s,congrArg (Value.int .i64) (by omega),HR.out⟩
       ·have hmid:=HA1.out.mm.id
        have hn0:=(HA1.out.next).less (rs':=[(g,uO m)]) (by simp)
        have HR:Hid (CL wb q L (k+1) b d m u9 u10 u11 es (es.map (cCut b d m)) s [(g,uO m)] w4):=by rw [hmid]; exact hn0
        clear hmid hn0 HA1
        go_wp2_with fail
        go_meet
        case rel=>exact ⟨b,m,es,s,rfl,HR.out⟩
    case rest =>
     obtain ⟨b',m',es',s',rfl,hL⟩:=hcut
     obtain ⟨pS,pc,hss,_⟩:=Own.form hL.ev.fb
     obtain ⟨pC,cc,hcs,_⟩:=Own.form hL.ev.fc
     dsimp only at hss hcs
     subst hss hcs
     have H1:Hid (CL wb q L (k+1) b' d m' u9 (.slice pS es'.length pc) (.slice pC es'.length cc) (mixL b' d m' 0 es') (es'.map (cCut b' d m')) s' [(g,uO m')] wc):=hL
     have HG2:Hid (∀ j,j < es'.length→∃ e,es'[j]? = some e):=fun i hi=>⟨_,List.getElem?_eq_getElem hi⟩
     have hl40:=hL.len.2
     have hb160:=hL.bl
     clear hL
     go_wp2_with fail
     go_loopw [121] (fun i wv=>∃ j:Nat,i = .int .i64 j∧j≤es'.length∧CL wb q L (k+1) b' d m' u9 (.slice pS es'.length pc) (.slice pC es'.length cc) (mixL b' d m' j es') (es'.map (cCut b' d m')) s' [(g,uO m')] wv) (fun i _=>es'.length - (intOf i).toNat)
     case atStart=>exact ⟨0,rfl,by omega,H1.out⟩
     case round =>
      obtain ⟨j,rfl,hj,hA⟩:=hrel
      by_cases hjl:j < es'.length
      ·obtain ⟨e,he⟩:=HG2.out j hjl
       have he2:(mixL b' d m' j es')[j]? = some e:=by rw [mixL_at]; exact he
       have hst:e.st≤200:=by
        have h1:=(hA.mm.ok (cCut b' d m' e) (List.mem_map_of_mem (List.mem_of_getElem? he))).st
        rw [(cCut_at b' d m' e).1] at h1
        omega
       rcases Own.form2 hA.ev.fb with ⟨h0,_⟩ | ⟨gS,c1,hv1,_,hq1,_⟩
       ·dsimp only at h0; rw [mixL_len] at h0; omega
       dsimp only at hv1 hq1
       rw [mixL_len] at hv1
       cases hv1
       rcases Own.form2 hA.ev.fc with ⟨h0,_⟩ | ⟨gC,c2,hv2,hown,hq2,hf2⟩
       ·dsimp only at h0; rw [mixL_len] at h0; omega
       dsimp only at hv2 hown hq2
       rw [mixL_len] at hv2
       cases hv2
       have qst:=hq1 j _ (stsV_at he2)
       obtain ⟨m0,m1,m2,m3,_⟩:=row4 (hA.row (g:=g) (o:=uO m') (by simp))
       clear hq1 he2
       by_cases hbe:b'≤e.st+d
       ·have hde:decide ((b':Int)≤(e.st:Int)+d)=true:=decide_eq_true (by omega)
        have he2:(mixL b' d m' j es')[j]? = some e:=by rw [mixL_at]; exact he
        have k0:=hq2 (j*4) _ (by simpa using csV_at he2 0 _ rfl)
        have k1:=hq2 (j*4+1) _ (csV_at he2 1 _ rfl)
        have k2:=hq2 (j*4+2) _ (csV_at he2 2 _ rfl)
        have k3:=hq2 (j*4+3) _ (csV_at he2 3 _ rfl)
        have f0:=hf2 (j*4)
        have f1:=hf2 (j*4+1)
        have f2:=hf2 (j*4+2)
        have f3:=hf2 (j*4+3)
        have HR:=Lib.hid (hA.mark he hbe hown)
        clear hA he he2 hq2 hf2 hown
        go_wp2_with fail
        go_roundw
        case rel=>exact ⟨j+1,by go_num,by omega,HR.out⟩
        case measure=>simp [intOf]; omega
       ·have hde:decide ((b':Int)≤(e.st:Int)+d)=false:=decide_eq_false (by omega)
        have HR:=Lib.hid (hA.skip he hbe)
        clear hA he hq2 hf2 hown
        go_wp2_with fail
        go_roundw
        case rel=>exact ⟨j+1,by go_num,by omega,HR.out⟩
        case measure=>simp [intOf]; omega
      ·obtain rfl:j=es'.length:=by omega
       have hB:=CL.mixN (Nat.le_refl _) hA
       have HCV:=Lib.hid (hB.cov (by omega))
       clear hB hA H1 HG2
       go_wp2_with fail
       refine Calls.mono HCV.out ?_
       rintro e w5 ⟨rfl,hB5⟩
       have HR:=Lib.hid hB5
       clear hB5 HCV
       go_wp2_with fail
       go_roundw
       case rel=>exact ⟨k+1,b',m',_,s',by go_num,by omega,rfl,HR.out⟩
       case measure=>simp [intOf]; omega
   ·have hkn:k≤40:=by omega
    obtain ⟨pE,pe,hve,_⟩:=Own.form HA.out.ev.fa
    obtain ⟨pC,cc,hvc,_⟩:=Own.form HA.out.ev.fc
    dsimp only at hve hvc
    subst hve hvc
    have H1:=Lib.hid (CD.begin HA.out)
    have hl40:es.length≤40:=Nat.le_trans HA.out.len.2 hkn
    have HG2:Hid (∀ j,j < es.length→∃ e,es[j]? = some e):=fun i hi=>⟨_,List.getElem?_eq_getElem hi⟩
    clear HA HB HG HC HOK
    go_wp2_with fail
    go_loopw [145] (fun i wv=>∃ (j:Nat) (s':St),i = .int .i64 j∧j≤es.length∧CD wb q L k j b (.slice pE es.length pe) u10 (.slice pC es.length cc) es s' wv) (fun i _=>es.length - (intOf i).toNat)
    case atStart=>exact ⟨0,s,rfl,by omega,H1.out⟩
    case round =>
     obtain ⟨j,s2,rfl,hj,hD⟩:=hrel
     clear H1
     by_cases hjl:j < es.length
     ·obtain ⟨e,he⟩:=HG2.out j hjl
      have hdn:=hD.done (by omega) (by omega) he
      rw [show ((j+1:Nat):Int)=(j:Int)+1 by omega] at hdn
      have HDN:=Lib.hid hdn
      clear hdn
      rcases Own.form2 hD.ev.fa with ⟨h0,_⟩ | ⟨gE,c1,hv1,_,hq1,_⟩
      ·dsimp only at h0; omega
      dsimp only at hv1 hq1
      cases hv1
      rcases Own.form2 hD.ev.fc with ⟨h0,_⟩ | ⟨gC,c2,hv2,_,hq2,_⟩
      ·dsimp only at h0; omega
      dsimp only at hv2 hq2
      cases hv2
      have qid:=hq1 j _ (idsV_at hjl)
      have k0:=hq2 (j*4) _ (by simpa using csV_at he 0 _ rfl)
      have k1:=hq2 (j*4+1) _ (csV_at he 1 _ rfl)
      have k2:=hq2 (j*4+2) _ (csV_at he 2 _ rfl)
      have k3:=hq2 (j*4+3) _ (csV_at he 3 _ rfl)
      clear hq1 hq2 hD he
      go_wp2_with fail
      refine Calls.mono HDN.out ?_
      rintro e2 w5 ⟨u,rfl,s3,hD5⟩
      have HR:=Lib.hid (hD5.below (bl_alloc (Below.refl _ w5) (uO u)))
      clear HDN hD5 qid k0 k1 k2 k3
      go_wp2_with fail
      go_roundw
      case rel=>exact ⟨j+1,s3,by go_num,by omega,HR.out⟩
      case measure=>simp [intOf]; omega
     ·obtain rfl:j=es.length:=by omega
      have HAL:=Lib.hid (hD.all (by omega) (by omega))
      clear hD HG2
      go_wp2_with fail
      refine Calls.mono HAL.out ?_
      rintro e2 w5 ⟨pa,pz,rfl,hD5⟩
      have HL5:=Lib.hid (HLV.out _ (HBE.out _ _ _ _ _ _ _ _ _ hD5))
      clear hD5 HAL HLV HBE
      go_wp2_with fail
      refine Calls.mono HL5.out ?_
      rintro e2 w6 ⟨rfl,hb6⟩
      have HB6:=Lib.hid hb6
      clear hb6 HL5
      go_wp2_with fail
      go_ret
      exact ⟨rfl,HB6.out⟩
end Go.Proofs.YtnkilceibkkjlaaGreat
namespace Go.Proofs.YtnkilceibkkjlaaGreat.exitCovers
open Go.ChangeShapes Go.WideShapes Go.ChangeAt Go.RowKit
set_option linter.unusedVariables false
theorem params:Tryz.f7.params = #[5,74]:=rfl
theorem lifted (os:Os) (started:os.Started) (H:Type) (enc:TypeId × Value→H) :
  ReturnsInHanded {} Tryz.checked os 7 .any (Rows.exitCoversSpec.pre6 enc Tryz.prog Tryz.f7 Rows.exitCoversRow.domain false) (Rows.exitCoversSpec.post enc Tryz.prog Tryz.f7 false true false false):=by
 refine returnsInHanded_of_change (C:=Tryz.checked) own started (by kernel_rfl) Tryz.func7
  (ChangeSpec.witness6 (enc:=enc) (C:=Tryz.checked) false ⟨#[],#[.int .u8 0,.slice none 0 0],[]⟩ 8 (by kernel_rfl) (by kernel_rfl) (by kernel_rfl) (by kernel_rfl)) ?_
 intro W base args ds gs before hval0 hW hcnd _
 have hval:∀ (j:Nat) t v,Tryz.f7.params[j]? = some t→args[j]? = some v→Value.okWide Tryz.prog W .any base t v:=hval0
 have hW':=hW
 obtain ⟨p,q,hA0,hV,rfl,hfz,hnd⟩:=hW
 have hA:DataW.TrodAll enc Tryz.prog W 0 (fun _=>true) true Tryz.f7.params.toList args.toList ds p:=hA0
 rw [params] at hA hval
 obtain ⟨v0,vs0,d0,ds0,p0,q0,hargs,rfl,rfl,h0,r0⟩:=trodAll_cons hA
 obtain ⟨v1,vs1,d1,ds1,p1,q1,rfl,rfl,rfl,h1,r1⟩:=trodAll_cons r0
 obtain ⟨rfl,rfl,rfl⟩:=trodAll_nil r1
 obtain rfl:args = #[v0,v1]:=by cases args; simp_all
 obtain ⟨rfl,rfl⟩:=trodVars_none hV
 obtain ⟨a1,rfl,rfl,rfl,w1⟩:=open_int Tryz.underlying5 (hval 0 5 v0 rfl rfl) h0
 obtain ⟨n1,rfl,hn1⟩:=wf_u8o w1
 obtain ⟨l0,a0,c0,rfl,hl0⟩:=open_steps24 (hval 1 74 v1 rfl rfl) h1
 clear hA0 hval0
 refine (xcov_walk W n1 hn1 a0 c0 l0 hl0).mono fun e W' ⟨he,hg⟩ => ?_
 subst he
 exact ⟨_,rfl,post_true laid (tb:=4) (by kernel_rfl) rfl (fine_all (by kernel_rfl)) rfl hW' rfl hg⟩
theorem over:Rows.exitCoversRow.holds Tryz.pinned (OpenSpec.ofChange Rows.exitCoversSpec) :=
 OpenClaim.holds_of_wide 7 Tryz.f7 rfl rfl rfl rfl rfl rfl rfl ⟨rfl,rfl,rfl,rfl,rfl⟩ rfl rfl rfl rfl rfl (by kernel_rfl) Tryz.func7 (by kernel_rfl)
  (of_decide_eq_true (by kernel_rfl)) (by unfold Func.isWrapper; first | (rw [if_pos (by decide +kernel)]; kernel_rfl) | (rw [if_neg (by decide +kernel)]; exact ⟨rfl,rfl⟩))
  (fun os started H enc _=>lifted os started H enc)
theorem proved:Rows.ExitCoversSaid :=
 over
#print axioms proved
end Go.Proofs.YtnkilceibkkjlaaGreat.exitCovers
