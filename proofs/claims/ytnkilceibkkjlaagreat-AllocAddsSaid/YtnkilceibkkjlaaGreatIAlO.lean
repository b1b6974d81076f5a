/- What is proved here: AllocAdds' plain law: Modify, Mature and Cut keep it. No program's function is named. Conditions: sizes. AllocAdds' plain law: Mature and Cut keep it; the sum of all is what is encumbered. No program's function is named. Conditions: sizes. AllocAdds' plain law: the sum of all is what is encumbered. No program's function is named. Conditions: sizes. -/
import Derived.Test.YtnkilceibkkjlaaGreatIAlF
set_option maxRecDepth 100000
set_option maxHeartbeats 16000000
namespace Go.Proofs.YtnkilceibkkjlaaGreat
open Go.RowKit
structure AR (n f:Nat) (s:St) (m:W4):Prop where
 k:AK s
 n:AN n s
 v:AV s m
 f:s.Fit f
theorem AR.start:AR 0 0 emptySt oneW:=by
 have hc:∀ k,cur emptySt (xI k)=(0,0,0,0):=fun k=>by
  show toAmt ((getE [] (aKey 29 (xI k))).getD emptyB)=_
  exact toAmt_no
 have hp:∀ k,pend emptySt (xI k)=(0,(0,0,0,0),0):=fun k=>by
  show pendOf (rowOf ((getE [] (aKey 30 (xI k))).getD emptyB)) _=_
  show pendOf (rowOf emptyB) _=_
  rw [rowOf_empty]; rfl
 have hT:∀ k,Th emptySt k=0:=fun k=>by rw [th_of (hc k) (hp k)]; rfl
 have hk:emptySt.amt KA=(0,0,0,0):=toAmt_no
 refine ⟨AK.empty,AN.empty,⟨⟨by decide,by decide,by decide,by decide⟩,by decide,fun k _=>by rw [hp k]; exact Nat.zero_le _,(fun k _ h=>by rw [hp k] at h; cases h),?_,?_⟩,St.Fit.empty⟩
 ·rw [hT,hT,hT,hk]; rfl
 ·rw [hk]; exact Nat.zero_le _
theorem grow_law {s:St} {n:Nat} {m tt y:W4} {k bk dl:Nat} (hA:AK s) (hN:AN n s) (hV:AV s m) (hn:n < 100000) (hk:k < 3) (hto:tt.Ok) (hyo:y.Ok) (hbk:bk≤1099511627776) (hdl:dl≤1099511627776) (hp0:(pend s (xI k)).1=0) (hy:uN y+uN (cur s (xI k))=uN tt) (hE:grE s (xI k) m y bk dl=0) :
  AN (n+1) (grSt s (xI k) tt m y bk dl)∧AV (grSt s (xI k) tt m y bk dl) m:=by
 have hs:=hA.srt
 have hle:=hV.le
 have hone:=hV.one
 have hwd:WD=1000000000000000000:=rfl
 have hbad:grBad s (xI k) m y=false:=by
  cases hb:grBad s (xI k) m y with
  | false=>rfl
  | true=>unfold grE at hE; rw [if_pos hb] at hE; cases hE
 have hb2:=hbad
 unfold grBad at hb2
 rw [Bool.or_eq_false_iff] at hb2
 obtain ⟨hb3,hb4⟩:=hb2
 have hsB:sumB (s.amt KA) y=true:=by
  cases hq:sumB (s.amt KA) y with
  | true=>rfl
  | false=>rw [show sumB (s.amt (aAll (xI k))) y=false from hq] at hb3; cases hb3
 have hlt:uN (s.amt KA)+uN y < 115792089237316195423570985008687907853269984665640564039457584007913129639936:=by
  unfold sumB toB at hsB
  exact of_decide_eq_true hsB
 have hsm:uN (grA s (xI k) y)=uN (s.amt KA)+uN y:=sum_own hlt
 have hmx:uN (grA s (xI k) y)≤uN m:=uCmp_le.1 (Int.not_lt.1 (of_decide_eq_false hb4))
 have hso:(grA s (xI k) y).Ok:=toW_ok _
 have h1s:Sorted (grS1 s (xI k) y).ents:=put_srt hs _ _
 have hS1:Same [32] s (grS1 s (xI k) y):=ka_same hs _
 have hka1:(grS1 s (xI k) y).amt KA=grA s (xI k) y:=ka_set hs hso
 have hT0:Th s k=uN (cur s (xI k)):=by unfold Th; rw [hp0]; rfl
 obtain ⟨j,hj,hpk⟩:=gr_pk k s tt m y bk dl
 have hoth:=fun i hi hik=>hpk.other hk hs (j:=i) hi hik
 have e0:grSt s (xI k) tt m y bk dl=if dl=0 then (grS1 s (xI k) y).setAmt (aKey 29 (xI k)) tt else waitSt (grS1 s (xI k) y) (xI k) 1 y (bk+dl):=by unfold grSt; rw [if_neg (by rw [hbad]; decide)]
 rw [e0] at hoth ⊢
 by_cases h0:dl=0
 ·rw [if_pos h0] at hoth ⊢
  have hS2:Same [29] (grS1 s (xI k) y) ((grS1 s (xI k) y).setAmt (aKey 29 (xI k)) tt):=x_same h1s (by decide) k tt
  have hc:=cur_set h1s k hto
  have hp:pend ((grS1 s (xI k) y).setAmt (aKey 29 (xI k)) tt) (xI k)=pend s (xI k):=(pend_same hS2 (by decide) (by decide) k).trans (pend_same hS1 (by decide) (by decide) k)
  have hka:((grS1 s (xI k) y).setAmt (aKey 29 (xI k)) tt).amt KA=grA s (xI k) y:=(ka_of hS2 (by decide)).trans hka1
  have hT:Th ((grS1 s (xI k) y).setAmt (aKey 29 (xI k)) tt) k=uN tt:=by unfold Th; rw [hc,hp,hp0]; rfl
  refine ⟨((hN.same hS1 (by decide) (by decide)).same hS2 (by decide) (by decide)).mono (Nat.le_succ _),hV.upd hk hoth ?_ ?_ ?_ hV.mo hV.one ?_⟩
  ·rw [hka,hsm,hT0,hT]; omega
  ·rw [hp,hp0]; decide
  ·rw [hp,hp0]; intro h; cases h
  ·rw [hka]; exact hmx
 ·rw [if_neg h0] at hoth ⊢
  have h2s:=(wait2_pk (k:=k) (PK.refl (grS1 s (xI k) y)) 1 y (bk+dl)).und h1s
  have he:=wait_eq3 h1s k k 1 y (bk+dl)
  have hp:pend (waitSt (grS1 s (xI k) y) (xI k) 1 y (bk+dl)) (xI k)=(1,y,bk+dl):=he.pend.trans (pend_wait2 h1s k (by decide) (by omega) hyo)
  have hc:cur (waitSt (grS1 s (xI k) y) (xI k) 1 y (bk+dl)) (xI k)=cur s (xI k):=he.cur.trans ((cur_same (wait2_same h1s k 1 y (bk+dl)) (by decide) k).trans (cur_same hS1 (by decide) k))
  have hka:(waitSt (grS1 s (xI k) y) (xI k) 1 y (bk+dl)).amt KA=grA s (xI k) y:=(wait_ka h1s k 1 y (bk+dl)).trans hka1
  have hT:Th (waitSt (grS1 s (xI k) y) (xI k) 1 y (bk+dl)) k=uN (cur s (xI k))+uN y:=by rw [th_of hc hp,if_pos rfl]
  refine ⟨wait_an h1s (hN.same hS1 (by decide) (by decide)) (by omega) k 1 y (bk+dl),hV.upd hk hoth ?_ ?_ ?_ hV.mo hV.one ?_⟩
  ·rw [hka,hsm,hT0,hT]; omega
  ·rw [hp]; exact (by decide:(1:Nat)≤2)
  ·rw [hp]; intro h; cases h
  ·rw [hka]; exact hmx
theorem shrink_law {s:St} {n:Nat} {m tt y:W4} {k bk tl:Nat} {sl:Bool} (hA:AK s) (hN:AN n s) (hV:AV s m) (hn:n < 100000) (hk:k < 3) (hto:tt.Ok) (hyo:y.Ok) (hbk:bk≤1099511627776) (htl:tl≤1099511627776) (hp0:(pend s (xI k)).1=0) (hy:uN tt+uN y=uN (cur s (xI k))) (hE:shE s (xI k) y bk tl sl=0) :
  AN (n+2) (shSt s (xI k) tt y bk tl sl)∧AV (shSt s (xI k) tt y bk tl sl) m:=by
 have hs:=hA.srt
 have hle:=hV.le
 have hT0:Th s k=uN (cur s (xI k)):=by unfold Th; rw [hp0]; rfl
 have hTk:=hV.th hk
 obtain ⟨j,hj,hpk⟩:=sh_pk k s tt y bk tl sl
 have hoth:=fun i hi hik=>hpk.other hk hs (j:=i) hi hik
 by_cases hw:shW sl tl=true
 ·have hpe:shPE s (xI k)=0:=by
   unfold shE at hE
   rw [if_pos hw] at hE
   apply Classical.byContradiction
   intro h
   rw [if_neg h] at hE
   exact h hE
  have e0:shSt s (xI k) tt y bk tl sl=waitSt (shP s (xI k)) (xI k) 2 y (bk+tl):=by unfold shSt; rw [if_pos hw,if_pos hpe]
  rw [e0] at hoth ⊢
  obtain ⟨i,hi,hps⟩:=shP_pk k s
  have h1s:=(hps.und hs).2
  have hS1:Same [33] s (shP s (xI k)):=push_same hs _
  have hN1:AN (n+1) (shP s (xI k)):=by
   refine ⟨push_ends hs hN.eb (by omega) _,?_⟩
   have e1:(shP s (xI k)).int K27=s.int K27:=hS1.int (t:=27) (l:=[]) (by decide) (by decide) (fun _ h=>by cases h)
   rw [e1]; exact Nat.le_succ_of_le hN.c27
  have he:=wait_eq3 h1s k k 2 y (bk+tl)
  have hp:pend (waitSt (shP s (xI k)) (xI k) 2 y (bk+tl)) (xI k)=(2,y,bk+tl):=he.pend.trans (pend_wait2 h1s k (by decide) (by omega) hyo)
  have hc:cur (waitSt (shP s (xI k)) (xI k) 2 y (bk+tl)) (xI k)=cur s (xI k):=he.cur.trans ((cur_same (wait2_same h1s k 2 y (bk+tl)) (by decide) k).trans (cur_same hS1 (by decide) k))
  have hka:(waitSt (shP s (xI k)) (xI k) 2 y (bk+tl)).amt KA=s.amt KA:=(wait_ka h1s k 2 y (bk+tl)).trans (ka_of hS1 (by decide))
  have hT:Th (waitSt (shP s (xI k)) (xI k) 2 y (bk+tl)) k=uN (cur s (xI k)):=by rw [th_of hc hp,if_neg (by decide)]; rfl
  refine ⟨wait_an h1s hN1 (by omega) k 2 y (bk+tl),hV.upd hk hoth ?_ ?_ ?_ hV.mo hV.one ?_⟩
  ·rw [hka,hT0,hT]
  ·rw [hp]; exact (by decide:(2:Nat)≤2)
  ·rw [hp,hc]; intro _; show uN y≤_; omega
  ·rw [hka]; exact hle
 ·have hse:shSE s (xI k) y=0:=by unfold shE at hE; rw [if_neg hw] at hE; exact hE
  have e1:shS1 s (xI k) y=s.setAmt KA (subW (s.amt KA) y):=by unfold shS1; rw [if_pos hse]; rfl
  have e0:shSt s (xI k) tt y bk tl sl=(s.setAmt KA (subW (s.amt KA) y)).setAmt (aKey 29 (xI k)) tt:=by unfold shSt; rw [if_neg hw,if_pos hse,e1]
  rw [e0] at hoth ⊢
  have hyk:uN y≤uN (s.amt KA):=by omega
  have hsu:uN (subW (s.amt KA) y)=uN (s.amt KA) - uN y:=sub_own (amt_ok _ _) hyk
  have h1s:Sorted (s.setAmt KA (subW (s.amt KA) y)).ents:=put_srt hs _ _
  have hS1:=ka_same hs (subW (s.amt KA) y)
  have hS2:=x_same h1s (t:=29) (by decide) k tt
  have hc:=cur_set h1s k hto
  have hp:pend ((s.setAmt KA (subW (s.amt KA) y)).setAmt (aKey 29 (xI k)) tt) (xI k)=pend s (xI k):=(pend_same hS2 (by decide) (by decide) k).trans (pend_same hS1 (by decide) (by decide) k)
  have hka:((s.setAmt KA (subW (s.amt KA) y)).setAmt (aKey 29 (xI k)) tt).amt KA=subW (s.amt KA) y:=(ka_of hS2 (by decide)).trans (ka_set hs (subW_ok _ _))
  have hT:Th ((s.setAmt KA (subW (s.amt KA) y)).setAmt (aKey 29 (xI k)) tt) k=uN tt:=by unfold Th; rw [hc,hp,hp0]; rfl
  refine ⟨((hN.same hS1 (by decide) (by decide)).same hS2 (by decide) (by decide)).mono (by omega),hV.upd hk hoth ?_ ?_ ?_ hV.mo hV.one ?_⟩
  ·rw [hka,hsu,hT0,hT]; omega
  ·rw [hp,hp0]; decide
  ·rw [hp,hp0]; intro h; cases h
  ·rw [hka,hsu]; omega
theorem modify_law {s:St} {n f:Nat} {m:W4} (H:AR n f s m) {k:Nat} (hn:n < 100000) (hk:k < 3) {tt:W4} (hto:tt.Ok) (bk dl tl:Int) (sl:Bool):AR (n+2) (f+16) (mdSt s (xI k) tt m bk dl tl sl) m:=by
 have hs:=H.k.srt
 have hsame:AR (n+2) (f+16) s m:=⟨H.k,H.n.mono (by omega),H.v,H.f.mono (by omega)⟩
 obtain ⟨j,hj,hpk⟩:=md_pk k s tt m bk dl tl sl
 unfold mdSt
 by_cases h0:mdE0 s (xI k) tt bk dl tl=0
 ·rw [if_pos h0]
  by_cases h1:mdTE s (xI k) tt m bk dl tl sl=0
  ·rw [if_pos h1]
   refine ⟨hpk.ak hk H.k,?_,?_,(hpk.fit H.f).mono (by omega)⟩
   all_goals
    unfold mdE0 at h0
    have hg:(aGd (xI k) && blkOk [bk,dl,tl])=true:=by
     cases hb:(aGd (xI k) && blkOk [bk,dl,tl]) with
     | true=>rfl
     | false=>rw [if_pos (by rw [hb]; rfl)] at h0; cases h0
    rw [if_neg (by rw [hg]; decide)] at h0
    have hgt:uCmp tt oneW≤0:=by
     apply Classical.byContradiction
     intro h
     rw [if_pos (by rw [decide_eq_false h]; rfl)] at h0
     cases h0
    rw [if_neg (by rw [decide_eq_true hgt]; decide)] at h0
    have hp0:(pend s (xI k)).1=0:=by
     apply Classical.byContradiction
     intro h
     rw [if_pos h] at h0
     cases h0
    obtain ⟨⟨b1,b2⟩,⟨b3,b4⟩,b5,b6⟩:=blkOk_at (Bool.and_eq_true_iff.1 hg).2
    have hco:=cur_ok s (xI k)
    unfold mdTS
    unfold mdTE at h1
    by_cases hu:mdUp s (xI k) tt=true
    ·rw [if_pos hu] at h1 ⊢
     have hle:uN (cur s (xI k))≤uN tt:=by unfold mdUp subB at hu; exact of_decide_eq_true hu
     have hy:mdY s (xI k) tt=subW tt (cur s (xI k)):=by unfold mdY; rw [if_pos hu]
     have hyn:uN (mdY s (xI k) tt)+uN (cur s (xI k))=uN tt:=by rw [hy,sub_own hto hle]; omega
     have hL:=grow_law H.k H.n H.v hn hk hto (mdY_ok s (xI k) tt) (by omega) (by omega) hp0 hyn h1
     first
      | exact hL.1.mono (by omega)
      | exact hL.2
    ·rw [if_neg hu] at h1 ⊢
     have hle:uN tt≤uN (cur s (xI k)):=by unfold mdUp subB at hu; simp only [decide_eq_true_eq] at hu; omega
     have hy:mdY s (xI k) tt=subW (cur s (xI k)) tt:=by unfold mdY; rw [if_neg hu]
     have hyn:uN tt+uN (mdY s (xI k) tt)=uN (cur s (xI k)):=by rw [hy,sub_own hco hle]; omega
     have hL:=shrink_law H.k H.n H.v hn hk hto (mdY_ok s (xI k) tt) (by omega) (by omega) hp0 hyn h1
     first
      | exact hL.1
      | exact hL.2
  ·rw [if_neg h1,(hpk.und hs).1.2]
   exact hsame
 ·rw [if_neg h0]
  exact hsame
theorem mt_pk (k:Nat) (s:St):∃ j,j≤6∧PK k j s (mtSt s (xI k)):=by
 have h1:∃ j,j≤3∧PK k j s (mtS1 s (xI k)):=by
  unfold mtS1
  split
  ·exact ⟨0,by omega,PK.refl s⟩
  ·obtain ⟨j,hj,h⟩:=pop_pk ((PK.refl s).amtA (k:=k) (lessV (s.amt (aAll (xI k))) (pend s (xI k)).2.1))
   exact ⟨j,by omega,h⟩
 obtain ⟨j,hj,h⟩:=h1
 unfold mtSt
 split
 ·exact ⟨0,by omega,PK.refl s⟩
 ·exact ⟨j+3,by omega,((h.amtX (by decide) (by decide) _).delX (by decide) (by decide)).delX (by decide) (by decide)⟩
theorem pend_del {s:St} (hs:Sorted s.ents) (k:Nat):pend ((s.del (aKey 30 (xI k))).del (aKey 31 (xI k))) (xI k)=(0,(0,0,0,0),0):=by
 have h1:(s.del (aKey 30 (xI k))).val (aKey 30 (xI k))=emptyB:=by
  rw [del_put,val_put s hs (aKey 30 (xI k)) _ _ (keyL_ne0 30 (xI_nn k)),if_pos rfl]
 have h2:((s.del (aKey 30 (xI k))).del (aKey 31 (xI k))).val (aKey 30 (xI k))=emptyB:=by
  have hs1:Sorted (s.del (aKey 30 (xI k))).ents:=by rw [del_put]; exact put_srt hs _ _
  exact ((del_same hs1 (t:=31) (by decide) k).val (t:=30) (by decide) (by decide) (xI_nn k)).trans h1
 rw [pend_of,h2,rowOf_empty]; rfl
theorem mtS1_an {s:St} {n:Nat} (hs:Sorted s.ents) (hN:AN n s) (hn:n < 100000) (k:Nat):AN n (mtS1 s (xI k))∧((pend s (xI k)).1≠1→(mtS1 s (xI k)).amt KA=lessV (s.amt KA) (pend s (xI k)).2.1)∧Sorted (mtS1 s (xI k)).ents:=by
 have eA:mtA s (xI k)=s.setAmt KA (lessV (s.amt KA) (pend s (xI k)).2.1):=by unfold mtA; rfl
 have hNA:=hN.same (ka_same hs (lessV (s.amt KA) (pend s (xI k)).2.1)) (by decide) (by decide)
 have hsA:Sorted (s.setAmt KA (lessV (s.amt KA) (pend s (xI k)).2.1)).ents:=by unfold St.setAmt; exact put_srt hs _ _
 have hkA:=ka_set hs (lessV_ok (s.amt KA) (pend s (xI k)).2.1)
 have eS:mtS1 s (xI k)=if (pend s (xI k)).1=1 then s else popSt (mtA s (xI k)) 33 [7,1]:=by unfold mtS1; rfl
 rw [eA] at eS
 generalize s.setAmt KA (lessV (s.amt KA) (pend s (xI k)).2.1)=sA at *
 clear eA
 by_cases h1:(pend s (xI k)).1=1
 ·rw [if_pos h1] at eS
  rw [eS]
  exact ⟨hN,fun h=>absurd h1 h,hs⟩
 ·rw [if_neg h1] at eS
  have hS4:=pop_same hsA
  have e1:=hS4.int (t:=27) (l:=[]) (by decide) (by decide) (fun _ h=>by cases h)
  obtain ⟨i,_,hp⟩:=pop_pk (k:=k) (PK.refl sA)
  rw [eS]
  exact ⟨⟨pop_ends hsA hNA.eb (by omega),Nat.le_trans (Nat.le_of_eq e1) hNA.c27⟩,fun _=>(ka_of hS4 (by decide)).trans hkA,(hp.und hsA).2⟩
theorem mature_law {s:St} {n f:Nat} {m:W4} (H:AR n f s m) {k:Nat} (hn:n < 100000) (hk:k < 3):AR n (f+12) (mtSt s (xI k)) m:=by
  have hs:=H.k.srt
  obtain ⟨j,hj,hpk⟩:=mt_pk k s
  have hw2:=H.v.way k hk
  have hTk:=H.v.th hk
  have hle:=H.v.le
  have hone:=H.v.one
  have hwd:WD=1000000000000000000:=rfl
  have hoth:=fun i hi hik=>hpk.other hk hs (j:=i) hi hik
  refine ⟨hpk.ak hk H.k,?_,?_,(hpk.fit H.f).mono (by omega)⟩
  all_goals
    by_cases h0:(pend s (xI k)).1=0
    · have e:mtSt s (xI k)=s:=by unfold mtSt; rw [if_pos h0]
      rw [e]
      first
        | exact H.n
        | exact H.v
    · have e0:mtSt s (xI k)=(((mtS1 s (xI k)).setAmt (aKey 29 (xI k)) (mtN s (xI k))).del (aKey 30 (xI k))).del (aKey 31 (xI k)):=by unfold mtSt; rw [if_neg h0]
      have hno:(mtN s (xI k)).Ok:=by
        unfold mtN
        split
        · exact toW_ok _
        · exact lessV_ok _ _
      have hpo:=pend_ok s (xI k)
      obtain ⟨hN1,hk1',h1s⟩:=mtS1_an hs H.n hn k
      have h2s:Sorted ((mtS1 s (xI k)).setAmt (aKey 29 (xI k)) (mtN s (xI k))).ents:=put_srt h1s _ _
      have h3s:Sorted (((mtS1 s (xI k)).setAmt (aKey 29 (xI k)) (mtN s (xI k))).del (aKey 30 (xI k))).ents:=by rw [del_put]; exact put_srt h2s _ _
      have hS2:=x_same h1s (t:=29) (by decide) k (mtN s (xI k))
      have hS3:Same [29,30,31] (mtS1 s (xI k)) (mtSt s (xI k)):=by
        rw [e0]
        exact ((hS2.mono (by simp)).trans ((del_same h2s (t:=30) (by decide) k).mono (by simp))).trans ((del_same h3s (t:=31) (by decide) k).mono (by simp))
      first
        | exact hN1.same hS3 (by decide) (by decide)
        | (have hp:pend (mtSt s (xI k)) (xI k)=(0,(0,0,0,0),0):=by rw [e0]; exact pend_del h2s k
           have hc:cur (mtSt s (xI k)) (xI k)=mtN s (xI k):=by
             have hd:Same [30,31] ((mtS1 s (xI k)).setAmt (aKey 29 (xI k)) (mtN s (xI k))) (mtSt s (xI k)):=by
               rw [e0]
               exact ((del_same h2s (t:=30) (by decide) k).mono (by simp)).trans ((del_same h3s (t:=31) (by decide) k).mono (by simp))
             exact (cur_same hd (by decide) k).trans (cur_set h1s k hno)
           have hka:(mtSt s (xI k)).amt KA=(mtS1 s (xI k)).amt KA:=ka_of hS3 (by decide)
           have hT:Th (mtSt s (xI k)) k=uN (mtN s (xI k)):=by rw [th_of hc hp,if_neg (by decide)]; exact Nat.add_zero _
           by_cases h1:(pend s (xI k)).1=1
           · have e1:mtS1 s (xI k)=s:=by unfold mtS1; rw [if_pos h1]
             have e2:mtN s (xI k)=sumW (cur s (xI k)) (pend s (xI k)).2.1:=by unfold mtN; rw [if_pos h1]
             have hT0:Th s k=uN (cur s (xI k))+uN (pend s (xI k)).2.1:=by unfold Th; rw [if_pos h1]
             have hsm:uN (mtN s (xI k))=uN (cur s (xI k))+uN (pend s (xI k)).2.1:=by rw [e2]; exact sum_own (by omega)
             refine H.v.upd hk hoth ?_ ?_ ?_ H.v.mo H.v.one ?_
             · rw [hka,e1,hT,hsm,hT0]
             · rw [hp]; exact Nat.zero_le _
             · rw [hp]; intro h; cases h
             · rw [hka,e1]; exact hle
           · have h2:(pend s (xI k)).1=2:=by omega
             have hl:=H.v.less k hk h2
             have e2:mtN s (xI k)=lessV (cur s (xI k)) (pend s (xI k)).2.1:=by unfold mtN; rw [if_neg h1]
             have hT0:Th s k=uN (cur s (xI k)):=by unfold Th; rw [if_neg h1]; exact Nat.add_zero _
             have hsm:uN (mtN s (xI k))=uN (cur s (xI k)) - uN (pend s (xI k)).2.1:=by rw [e2]; exact less_own (cur_ok _ _) hpo
             have hk1:=hk1' h1
             have hkn:uN ((mtS1 s (xI k)).amt KA)=uN (s.amt KA) - uN (pend s (xI k)).2.1:=by rw [hk1]; exact less_own (amt_ok _ _) hpo
             refine H.v.upd hk hoth ?_ ?_ ?_ H.v.mo H.v.one ?_
             · rw [hka,hkn,hT,hsm,hT0]; omega
             · rw [hp]; exact Nat.zero_le _
             · rw [hp]; intro h; cases h
             · rw [hka,hkn]; omega)
theorem ct_pk (k:Nat) (s:St) (f:W4):∃ j,j≤3∧PK k j s (ctSt s (xI k) f):=by
 unfold ctSt
 split
 ·have h2:PK k 2 s (ctS2 s (xI k) f):=((PK.refl s).amtA _).amtX (by decide) (by decide) _
  unfold ctS3
  split
  ·exact ⟨3,by omega,h2.amtX (by decide) (by decide) _⟩
  ·exact ⟨2,by omega,h2⟩
 ·exact ⟨0,by omega,PK.refl s⟩
def ctM (s:St) (x:I4) (f m:W4):W4:=if ctE s x f=0 then subW m (ctW s x f) else m
theorem pendOf_two {l:List Nat} {y y':W4} (h:(pendOf l y).1=2):(pendOf l y').1=2∧(pendOf l y').2.1=y':=by
 match l,h with
 | [],h=>cases h
 | [_],h=>cases h
 | [a,b],h=>exact ⟨h,rfl⟩
 | _ :: _ :: _ :: _,h=>cases h
theorem aCut_law {s:St} {n f:Nat} {m:W4} (H:AR n f s m) {k:Nat} (hk:k < 3) (z:W4) :
  AR n (f+6) (ctSt s (xI k) z) (ctM s (xI k) z m)∧uN (ctW s (xI k) z)≤uN (cur s (xI k))∧∀ j,j < 3→j≠k→cur (ctSt s (xI k) z) (xI j)=cur s (xI j):=by
 have hs:=H.k.srt
 obtain ⟨j,hj,hpk⟩:=ct_pk k s z
 have hoth:=fun i hi hik=>hpk.other hk hs (j:=i) hi hik
 have hle:=H.v.le
 have hone:=H.v.one
 have hTk:=H.v.th hk
 by_cases hE:ctE s (xI k) z=0
 ·have hgood:ctC z=false:=by
   cases hb:ctC z with
   | false=>rfl
   | true=>unfold ctE at hE; rw [if_pos hb] at hE; cases hE
  have hz1:uN z≤WD:=by
   have hb:=hgood
   unfold ctC at hb
   rw [Bool.or_eq_false_iff] at hb
   have h2:decide (uCmp z oneW≤0)=true:=by simpa using hb.2
   exact uCmp_le.1 (of_decide_eq_true h2)
  have hco:=cur_ok s (xI k)
  have hpo:=pend_ok s (xI k)
  have hpu:uN (puW (cur s (xI k)) z)=upC (uN (cur s (xI k))) (uN z):=pu_own hco hz1
  have hpl:=upC_le (a:=uN (cur s (xI k))) hz1
  have hTc:uN (cur s (xI k))≤Th s k:=by unfold Th; omega
  have eW:ctW s (xI k) z=puW (cur s (xI k)) z:=by unfold ctW; rw [if_pos hE]
  have eS:ctSt s (xI k) z=ctS3 s (xI k) z:=by unfold ctSt; rw [if_pos hE]
  have eM:ctM s (xI k) z m=subW m (puW (cur s (xI k)) z):=by unfold ctM; rw [if_pos hE,eW]
  have hS1:Same [32] s (ctS1 s (xI k) z):=by unfold ctS1; exact ka_same hs _
  have h1s:Sorted (ctS1 s (xI k) z).ents:=by unfold ctS1 St.setAmt; exact put_srt hs _ _
  have hS2:Same [29] (ctS1 s (xI k) z) (ctS2 s (xI k) z):=by unfold ctS2; exact x_same h1s (t:=29) (by decide) k _
  have h2s:Sorted (ctS2 s (xI k) z).ents:=by unfold ctS2 St.setAmt; exact put_srt h1s _ _
  have hp2:pend (ctS2 s (xI k) z) (xI k)=pend s (xI k):=(pend_same hS2 (by decide) (by decide) k).trans (pend_same hS1 (by decide) (by decide) k)
  have hS3:Same [31] (ctS2 s (xI k) z) (ctS3 s (xI k) z):=by
   unfold ctS3
   split
   ·exact x_same h2s (t:=31) (by decide) k _
   ·exact Same.refl _ _
  have hc3:cur (ctS3 s (xI k) z) (xI k)=lessV (cur s (xI k)) (puW (cur s (xI k)) z):=(cur_same hS3 (by decide) k).trans (by unfold ctS2; exact cur_set h1s k (lessV_ok _ _))
  have hcn:uN (cur (ctS3 s (xI k) z) (xI k))=uN (cur s (xI k)) - upC (uN (cur s (xI k))) (uN z):=by rw [hc3,less_own hco (puW_ok _ _),hpu]
  have hk3:(ctS3 s (xI k) z).amt KA=subW (s.amt KA) (puW (cur s (xI k)) z):=(ka_of hS3 (by decide)).trans ((ka_of hS2 (by decide)).trans (by unfold ctS1; exact ka_set hs (subW_ok _ _)))
  have hkn:uN ((ctS3 s (xI k) z).amt KA)=uN (s.amt KA) - upC (uN (cur s (xI k))) (uN z):=by rw [hk3,sub_own (amt_ok _ _) (by omega),hpu]
  have hmn:uN (subW m (puW (cur s (xI k)) z))=uN m - upC (uN (cur s (xI k))) (uN z):=by rw [sub_own H.v.mo (by omega),hpu]
  rw [eS] at hoth hpk ⊢
  rw [eM,eW]
  refine ⟨⟨hpk.ak hk H.k,(((H.n.same hS1 (by decide) (by decide)).same hS2 (by decide) (by decide)).same hS3 (by decide) (by decide)),?_,(hpk.fit H.f).mono (by omega)⟩,by omega,fun i hi hik=>(hoth i hi hik).cur⟩
  by_cases h2:(pend s (xI k)).1=2
  ·have hl:=H.v.less k hk h2
   have e3:ctS3 s (xI k) z=(ctS2 s (xI k) z).setAmt (aKey 31 (xI k)) (lessV (pend s (xI k)).2.1 (puW (pend s (xI k)).2.1 z)):=by unfold ctS3; rw [hp2,if_pos h2]
   have hp3:(pend (ctS3 s (xI k) z) (xI k)).1=2∧(pend (ctS3 s (xI k) z) (xI k)).2.1=lessV (pend s (xI k)).2.1 (puW (pend s (xI k)).2.1 z):=by
    have hr:(ctS3 s (xI k) z).val (aKey 30 (xI k))=s.val (aKey 30 (xI k)):=(hS3.val (t:=30) (by decide) (by decide) (xI_nn k)).trans ((hS2.val (t:=30) (by decide) (by decide) (xI_nn k)).trans (hS1.val (t:=30) (by decide) (by decide) (xI_nn k)))
    have ha:(ctS3 s (xI k) z).amt (aKey 31 (xI k))=lessV (pend s (xI k)).2.1 (puW (pend s (xI k)).2.1 z):=by
     rw [e3,amt_put h2s (k:=aKey 31 (xI k)) (keyL_ne0 31 (xI_nn k)) _ (lessV_ok _ _),if_pos rfl]
    rw [pend_of,hr,ha]
    exact pendOf_two (by rw [← pend_of]; exact h2)
   have hpn:uN (pend (ctS3 s (xI k) z) (xI k)).2.1=uN (pend s (xI k)).2.1 - upC (uN (pend s (xI k)).2.1) (uN z):=by rw [hp3.2,less_own hpo (puW_ok _ _),pu_own hpo hz1]
   have hT0:Th s k=uN (cur s (xI k)):=by unfold Th; rw [if_neg (by rw [h2]; decide)]; exact Nat.add_zero _
   have hT:Th (ctS3 s (xI k) z) k=uN (cur (ctS3 s (xI k) z) (xI k)):=by unfold Th; rw [if_neg (by rw [hp3.1]; decide)]; exact Nat.add_zero _
   refine H.v.upd hk hoth ?_ ?_ ?_ (subW_ok _ _) ?_ ?_
   ·rw [hkn,hT0,hT,hcn]; omega
   ·rw [hp3.1]; exact Nat.le_refl _
   ·intro _
    rw [hpn,hcn]
    exact upC_cut hl hz1
   ·rw [hmn]; omega
   ·rw [hkn,hmn]; omega
  ·have e3:ctS3 s (xI k) z=ctS2 s (xI k) z:=by unfold ctS3; rw [hp2,if_neg h2]
   have hp3:pend (ctS3 s (xI k) z) (xI k)=pend s (xI k):=by rw [e3]; exact hp2
   have hT:Th (ctS3 s (xI k) z) k+uN (cur s (xI k))=uN (cur (ctS3 s (xI k) z) (xI k))+Th s k:=by unfold Th; rw [hp3]; omega
   refine H.v.upd hk hoth ?_ ?_ ?_ (subW_ok _ _) ?_ ?_
   ·rw [hkn]; omega
   ·rw [hp3]; exact H.v.way k hk
   ·rw [hp3]; intro h; exact absurd h h2
   ·rw [hmn]; omega
   ·rw [hkn,hmn]; omega
 ·have eW:ctW s (xI k) z=(0,0,0,0):=by unfold ctW; rw [if_neg hE]
  have eS:ctSt s (xI k) z=s:=by unfold ctSt; rw [if_neg hE]
  have eM:ctM s (xI k) z m=m:=by unfold ctM; rw [if_neg hE]
  rw [eW,eS,eM]
  exact ⟨⟨H.k,H.n,H.v,H.f.mono (by omega)⟩,Nat.zero_le _,fun _ _ _=>rfl⟩
theorem parse29:∀ k,k < 3→parseK (aKey 29 (xI k))=some (29,[7,1,9,k])
 | 0,_=>by kernel_rfl
 | 1,_=>by kernel_rfl
 | 2,_=>by kernel_rfl
theorem parse30:∀ k,k < 3→parseK (aKey 30 (xI k))=some (30,[7,1,9,k])
 | 0,_=>by kernel_rfl
 | 1,_=>by kernel_rfl
 | 2,_=>by kernel_rfl
theorem aIdOf_x {t k:Nat} (hk:k < 3) {e:Ent} (he:parseK e.1=some (t,[7,1,9,k])):aIdOf e=some ⟨xI k,xI_ok hk⟩:=by
 unfold aIdOf
 rw [he]
 exact dif_pos (xI_ok hk)
theorem ids_of {t:Nat} (h1:1≤t) (h2:t≤255) (hp:∀ k,k < 3→parseK (aKey t (xI k))=some (t,[7,1,9,k])):∀ us:List Ent,Sorted us→(∀ e∈us,∃ k,k < 3∧e.1=aKey t (xI k)) →
  ∃ ks:List Nat,(∀ k∈ks,k < 3)∧ks.Nodup∧(us.filterMap aIdOf).map Subtype.val=ks.map xI∧∀ k,k < 3→(k∈ks↔∃ e∈us,e.1=aKey t (xI k))
 | [],_,_=>⟨[],(fun _ h=>by cases h),List.nodup_nil,rfl,fun k _=>⟨fun h=>(by cases h),fun ⟨e,h,_⟩=>(by cases h)⟩⟩
 | e :: us,hs,hk=>by
  obtain ⟨hs1,hs2⟩:=List.pairwise_cons.1 hs
  obtain ⟨ks,a1,a2,a3,a4⟩:=ids_of h1 h2 hp us hs2 fun x hx=>hk x (by simp [hx])
  obtain ⟨k,hk3,he⟩:=hk e (by simp)
  have hn:k∉ks:=fun hm=>by
   obtain ⟨x,hx,hxe⟩:=(a4 k hk3).1 hm
   exact (hs1 x hx).ne (he.trans hxe.symm)
  have hid:=aIdOf_x hk3 (e:=e) (by rw [he]; exact hp k hk3)
  refine ⟨k :: ks,fun j hj => ?_,List.nodup_cons.2 ⟨hn,a2⟩,?_,fun j hj => ?_⟩
  ·rcases List.mem_cons.1 hj with rfl | hj
   ·exact hk3
   ·exact a1 j hj
  ·rw [List.filterMap_cons_some hid,List.map_cons,a3,List.map_cons]
  ·constructor
   ·intro hm
    rcases List.mem_cons.1 hm with rfl | hm
    ·exact ⟨e,by simp,he⟩
    ·obtain ⟨x,hx,hxe⟩:=(a4 j hj).1 hm
     exact ⟨x,by simp [hx],hxe⟩
   ·rintro ⟨x,hx,hxe⟩
    rcases List.mem_cons.1 hx with rfl | hx
    ·by_cases e2:j=k
     ·rw [e2]; exact List.mem_cons_self
     ·exact absurd (hxe.symm.trans he) (aKey_ne h1 h2 hj hk3 e2)
    ·exact List.mem_cons_of_mem _ ((a4 j hj).2 ⟨x,hx,hxe⟩)
theorem sum3 (c:Nat→Nat):∀ ks:List Nat,(∀ k∈ks,k < 3)→ks.Nodup→(ks.map c).sum=(if 0∈ks then c 0 else 0)+(if 1∈ks then c 1 else 0)+(if 2∈ks then c 2 else 0)
 | [],_,_=>rfl
 | k :: ks,h,hn=>by
  obtain ⟨h1,h2⟩:=List.nodup_cons.1 hn
  have ih:=sum3 c ks (fun j hj=>h j (by simp [hj])) h2
  rw [List.map_cons,List.sum_cons,ih]
  match k,h k (by simp),h1 with
  | 0,_,h1=>simp [h1]; omega
  | 1,_,h1=>simp [h1]; omega
  | 2,_,h1=>simp [h1]; omega
theorem sum3_all {c:Nat→Nat} {ks:List Nat} (h:∀ k∈ks,k < 3) (hn:ks.Nodup) (h0:∀ k,k < 3→k∉ks→c k=0):(ks.map c).sum=c 0+c 1+c 2:=by
 rw [sum3 c ks h hn]
 have e:∀ k,k < 3→(if k∈ks then c k else 0)=c k:=fun k hk=>by
  split
  ·rfl
  ·rename_i hm; exact (h0 k hk hm).symm
 rw [e 0 (by decide),e 1 (by decide),e 2 (by decide)]
theorem noKey {s:St} {k:ByteArray} {p:ByteArray} (hp:isPre p k=true) (h:¬ ∃ e∈underE p s.ents,e.1=k):s.val k=emptyB:=by
 have hg:getE s.ents k=none:=getE_none.2 fun hm=>by
  obtain ⟨e,he,hk⟩:=List.mem_map.1 hm
  refine h ⟨e,?_,hk⟩
  unfold underE
  rw [List.mem_filter]
  exact ⟨he,by rw [hk]; exact hp⟩
 unfold St.val
 rw [hg]; rfl
theorem pre29:∀ k,k < 3→isPre (keyL 29 [7,1]) (aKey 29 (xI k))=true
 | 0,_=>by kernel_rfl
 | 1,_=>by kernel_rfl
 | 2,_=>by kernel_rfl
theorem pre30:∀ k,k < 3→isPre (keyL 30 [7,1]) (aKey 30 (xI k))=true
 | 0,_=>by kernel_rfl
 | 1,_=>by kernel_rfl
 | 2,_=>by kernel_rfl
def natC (s:St) (x:I4):Nat:=uN (cur s x)
def natP (s:St) (x:I4):Nat:=if (pend s x).1=1 then uN (pend s x).2.1 else 0
theorem sumC_nat (s:St):∀ (l:List IdR) (a:W4),uN a+((l.map Subtype.val).map (natC s)).sum < 115792089237316195423570985008687907853269984665640564039457584007913129639936→uN (l.foldl (fun a x=>sumW a (cur s x.1)) a)=uN a+((l.map Subtype.val).map (natC s)).sum
 | [],a,_=>rfl
 | x :: l,a,h=>by
  rw [List.map_cons,List.map_cons,List.sum_cons] at h ⊢
  have h1:uN (sumW a (cur s x.1))=uN a+uN (cur s x.1):=sum_own (by unfold natC at h; omega)
  rw [List.foldl_cons,sumC_nat s l _ (by rw [h1]; unfold natC at h ⊢; omega),h1]
  unfold natC; omega
theorem sumP1_nat (s:St) (a:W4) (x:IdR) (h:uN a+natP s x.1 < 115792089237316195423570985008687907853269984665640564039457584007913129639936):uN (sumP1 s a x)=uN a+natP s x.1:=by
 unfold sumP1 natP at *
 by_cases h1:(pend s x.1).1=1
 ·rw [if_pos h1] at h ⊢
  rw [if_pos h1]
  exact sum_own h
 ·rw [if_neg h1,if_neg h1]; exact (Nat.add_zero _).symm
theorem sumP_nat (s:St):∀ (l:List IdR) (a:W4),uN a+((l.map Subtype.val).map (natP s)).sum < 115792089237316195423570985008687907853269984665640564039457584007913129639936→uN (l.foldl (sumP1 s) a)=uN a+((l.map Subtype.val).map (natP s)).sum
 | [],a,_=>rfl
 | x :: l,a,h=>by
  rw [List.map_cons,List.map_cons,List.sum_cons] at h ⊢
  have h1:=sumP1_nat s a x (by omega)
  rw [List.foldl_cons,sumP_nat s l _ (by rw [h1]; omega),h1]
  omega
theorem sumA_law {s:St} {m:W4} (hA:AK s) (hV:AV s m):sumA s 7 1=s.amt KA:=by
 have hu29:∀ e∈underE (keyL 29 [7,1]) s.ents,∃ k,k < 3∧e.1=aKey 29 (xI k):=fun e he=>by
  unfold underE at he
  exact hA.k29 e (List.mem_filter.1 he).1 (List.mem_filter.1 he).2
 have hu30:∀ e∈underE (keyL 30 [7,1]) s.ents,∃ k,k < 3∧e.1=aKey 30 (xI k):=fun e he=>by
  unfold underE at he
  exact hA.k30 e (List.mem_filter.1 he).1 (List.mem_filter.1 he).2
 obtain ⟨ks,a1,a2,a3,a4⟩:=ids_of (by decide) (by decide) parse29 _ (underE_sorted hA.srt (keyL 29 [7,1])) hu29
 obtain ⟨ps,b1,b2,b3,b4⟩:=ids_of (by decide) (by decide) parse30 _ (underE_sorted hA.srt (keyL 30 [7,1])) hu30
 have hC:((((idE 29 7 1 s).map Subtype.val).map (natC s)).sum)=natC s (xI 0)+natC s (xI 1)+natC s (xI 2):=by
  have e:(idE 29 7 1 s).map Subtype.val=ks.map xI:=a3
  rw [e,List.map_map]
  refine sum3_all (c:=natC s ∘ xI) a1 a2 fun k hk hm => ?_
  show uN (cur s (xI k))=0
  unfold cur
  rw [noKey (pre29 k hk) (fun h=>hm ((a4 k hk).2 h)),toAmt_no]; rfl
 have hP:((((idE 30 7 1 s).map Subtype.val).map (natP s)).sum)=natP s (xI 0)+natP s (xI 1)+natP s (xI 2):=by
  have e:(idE 30 7 1 s).map Subtype.val=ps.map xI:=b3
  rw [e,List.map_map]
  refine sum3_all (c:=natP s ∘ xI) b1 b2 fun k hk hm => ?_
  show natP s (xI k)=0
  unfold natP pend
  rw [noKey (pre30 k hk) (fun h=>hm ((b4 k hk).2 h)),rowOf_empty]; rfl
 have hsum:=hV.sum
 have hle:=hV.le
 have hone:=hV.one
 have hwd:WD=1000000000000000000:=rfl
 have t0:Th s 0=natC s (xI 0)+natP s (xI 0):=rfl
 have t1:Th s 1=natC s (xI 1)+natP s (xI 1):=rfl
 have t2:Th s 2=natC s (xI 2)+natP s (xI 2):=rfl
 have z0:uN (0,0,0,0)=0:=rfl
 have e1:uN (sumC s (idE 29 7 1 s))=natC s (xI 0)+natC s (xI 1)+natC s (xI 2):=by
  have:=sumC_nat s (idE 29 7 1 s) (0,0,0,0) (by rw [hC,z0]; omega)
  rw [hC,z0] at this
  unfold sumC
  rw [this]; omega
 have e2:uN (sumP s (sumC s (idE 29 7 1 s)) (idE 30 7 1 s))=uN (s.amt KA):=by
  have:=sumP_nat s (idE 30 7 1 s) (sumC s (idE 29 7 1 s)) (by rw [hP,e1]; omega)
  unfold sumP
  rw [this,hP,e1]; omega
 unfold sumA
 rw [if_neg (by decide)]
 exact uN_inj (sumP_ok s (sumC_ok s _) _) (amt_ok _ _) e2
end Go.Proofs.YtnkilceibkkjlaaGreat
