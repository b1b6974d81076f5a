/- What is proved here: a drawn region whose operations' values are known ahead, but for one new row that is filled, and one call that turns a state. Conditions: none. -/
import Derived.Test.YtnkilceibkkjlaaGreatFHistP
set_option maxRecDepth 100000
set_option maxHeartbeats 16000000
namespace Go.Proofs.YtnkilceibkkjlaaGreat
open Go.RowKit
def rxEq (vs:Nat→Value) (cs:List Value) (ia:Nat):List Nat→Prop
 | []=>True
 | j :: l=>(if j=ia then True else vs j=cs.getD j undef)∧rxEq vs cs ia l
theorem rxEq_of {vs:Nat→Value} {cs:List Value} {ia:Nat}:∀ {l:List Nat},(∀ j∈l,j≠ia→vs j=cs.getD j undef)→rxEq vs cs ia l
 | [],_=>trivial
 | j :: l,h=>⟨by
   by_cases hj:j=ia
   ·rw [if_pos hj]; trivial
   ·rw [if_neg hj]; exact h j (by simp) hj,rxEq_of fun i hi=>h i (by simp [hi])⟩
abbrev ptrV (g:Nat):Value:=.pointer (some ⟨g,0,none⟩)
def rxStep (P:Program) (ops:Array Oper) (pr:List (List Nat)) (cs:List Value) (kc ia is:Nat) (R:Bool→List (Nat × Obj)→World→Prop) (o0 o1:Obj) (fr:(Nat→Value)→Act) (k:Nat) (o:Oper):Prop :=
 if k=ia then ∀ vs b w,R b [] w→rgDo P ops o (fr vs) w fun v w'=>∃ g,v=ptrV g∧R b [(g,o0)] w'
 else if k=is then ∀ vs b g w,rxEq vs cs ia (pr.getD k [])→vs ia=ptrV g→R b [(g,o0)] w→rgDo P ops o (fr vs) w fun v w'=>v=cs.getD k undef∧R b [(g,o1)] w'
 else if k=kc then ∀ vs rs w,rxEq vs cs ia (pr.getD k [])→R false rs w→rgDo P ops o (fr vs) w fun v w'=>v=cs.getD k undef∧R true rs w'
 else ∀ vs b rs w,rxEq vs cs ia (pr.getD k [])→R b rs w→rgDo P ops o (fr vs) w fun v w'=>v=cs.getD k undef∧R b rs w'
theorem rx_plain {P:Program} {ops:Array Oper} {pr:List (List Nat)} {cs:List Value} {kc ia is:Nat} {R:Bool→List (Nat × Obj)→World→Prop} {o0 o1:Obj} {fr:(Nat→Value)→Act} {k:Nat} {o:Oper} (h:((k != ia) && (k != is) && (k != kc))=true)
  (hs:∀ vs b rs w,rxEq vs cs ia (pr.getD k [])→R b rs w→rgDo P ops o (fr vs) w fun v w'=>v=cs.getD k undef∧R b rs w'):rxStep P ops pr cs kc ia is R o0 o1 fr k o:=by
 simp only [Bool.and_eq_true,bne_iff_ne,ne_eq] at h
 unfold rxStep
 rw [if_neg h.1.1,if_neg h.1.2,if_neg h.2]
 exact hs
theorem rx_turn {P:Program} {ops:Array Oper} {pr:List (List Nat)} {cs:List Value} {kc ia is:Nat} {R:Bool→List (Nat × Obj)→World→Prop} {o0 o1:Obj} {fr:(Nat→Value)→Act} {k:Nat} {o:Oper} (h:((k != ia) && (k != is) && (k == kc))=true)
  (hs:∀ vs rs w,rxEq vs cs ia (pr.getD k [])→R false rs w→rgDo P ops o (fr vs) w fun v w'=>v=cs.getD k undef∧R true rs w'):rxStep P ops pr cs kc ia is R o0 o1 fr k o:=by
 simp only [Bool.and_eq_true,bne_iff_ne,ne_eq,beq_iff_eq] at h
 unfold rxStep
 rw [if_neg h.1.1,if_neg h.1.2,if_pos h.2]
 exact hs
theorem rx_alloc {P:Program} {ops:Array Oper} {pr:List (List Nat)} {cs:List Value} {kc ia is:Nat} {R:Bool→List (Nat × Obj)→World→Prop} {o0 o1:Obj} {fr:(Nat→Value)→Act} {k:Nat} {o:Oper} (h:k=ia)
  (hs:∀ vs b w,R b [] w→rgDo P ops o (fr vs) w fun v w'=>∃ g,v=ptrV g∧R b [(g,o0)] w'):rxStep P ops pr cs kc ia is R o0 o1 fr k o:=by
 unfold rxStep
 rw [if_pos h]
 exact hs
theorem rx_fill {P:Program} {ops:Array Oper} {pr:List (List Nat)} {cs:List Value} {kc ia is:Nat} {R:Bool→List (Nat × Obj)→World→Prop} {o0 o1:Obj} {fr:(Nat→Value)→Act} {k:Nat} {o:Oper} (h:((k != ia) && (k == is))=true)
  (hs:∀ vs b g w,rxEq vs cs ia (pr.getD k [])→vs ia=ptrV g→R b [(g,o0)] w→rgDo P ops o (fr vs) w fun v w'=>v=cs.getD k undef∧R b [(g,o1)] w'):rxStep P ops pr cs kc ia is R o0 o1 fr k o:=by
 simp only [Bool.and_eq_true,bne_iff_ne,ne_eq,beq_iff_eq] at h
 unfold rxStep
 rw [if_neg h.1,if_pos h.2]
 exact hs
def rxSteps (P:Program) (ops:Array Oper) (pr:List (List Nat)) (cs:List Value) (kc ia is:Nat) (R:Bool→List (Nat × Obj)→World→Prop) (o0 o1:Obj) (fr:(Nat→Value)→Act):Nat→List Oper→Prop
 | _,[]=>True
 | k,o :: l=>rxStep P ops pr cs kc ia is R o0 o1 fr k o∧rxSteps P ops pr cs kc ia is R o0 o1 fr (k+1) l
theorem rxSteps_at {P:Program} {ops:Array Oper} {pr:List (List Nat)} {cs:List Value} {kc ia is:Nat} {R:Bool→List (Nat × Obj)→World→Prop} {o0 o1:Obj} {fr:(Nat→Value)→Act}:∀ {l:List Oper} {k:Nat},rxSteps P ops pr cs kc ia is R o0 o1 fr k l→∀ (i:Nat) (o:Oper),l[i]? = some o→rxStep P ops pr cs kc ia is R o0 o1 fr (k+i) o
 | [],_,_,i,o,h=>by simp at h
 | x :: l,k,h,0,o,ho=>by
  simp only [List.getElem?_cons_zero,Option.some.injEq] at ho
  subst ho; exact h.1
 | x :: l,k,h,i+1,o,ho=>by
  have:=rxSteps_at h.2 i o (by simpa using ho)
  rwa [show k+1+i=k+(i+1) by omega] at this
def rxInv (cs:List Value) (kc ia is:Nat) (R:Bool→List (Nat × Obj)→World→Prop) (o0 o1:Obj) (L:Nat→Bool) (vs:Nat→Value) (w:World):Prop :=
 (∀ j,L j=true→j≠ia→vs j=cs.getD j undef)∧((L ia=true∧∃ g,vs ia=ptrV g∧R (L kc) [(g,if L is=true then o1 else o0)] w)∨(L ia=false∧L is=false∧R (L kc) [] w))
theorem wp_region_turn {P:Program} {id:Nat} {Q:Exit→Act→World→Prop} {a:Act} {w:World} {l:List Oper} (pr:List (List Nat)) (cs:List Value) (kc ia is:Nat) (R:Bool→List (Nat × Obj)→World→Prop) (o0 o1:Obj) (fr:(Nat→Value)→Act)
  (hm:P.follows .mixedOrders=true) (hB:rgB l.toArray pr a.tmps.size=true) (hi:(decide (kc < l.length) && decide (ia < l.length) && decide (is < l.length) && (kc != ia) && (kc != is) && (is != ia) && (pr.getD is []).contains ia)=true) (hfr:∀ vs,rgAct l a vs=fr vs)
  (h0:R false [] w.drew)
  (hs:rxSteps P l.toArray pr cs kc ia is R o0 o1 fr 0 l)
  (hend:∀ vs g w,rxEq vs cs ia (List.range l.length)→vs ia=ptrV g→R true [(g,o1)] w→Q .normal (fr vs) w):(Code.region id l.toArray true).wp P Q a w:=by
 simp only [Bool.and_eq_true,decide_eq_true_eq,bne_iff_ne,ne_eq,List.contains_iff_mem] at hi
 obtain ⟨⟨⟨⟨⟨⟨i1,i2⟩,i3⟩,i4⟩,i5⟩,i6⟩,i7⟩:=hi
 refine wp_region_any hm ?_
 have hok:=rgB_ok hB
 have hsz:l.toArray.size=l.length:=by simp
 refine wpAny_rely hok (rxInv cs kc ia is R o0 o1) ?_ ?_ l.toArray.size (Array.replicate l.toArray.size false) (fun _=>undef) a w.drew ?_ ?_ ?_
 ·intro i o ho L vs w hI hpre hLi _
  obtain ⟨hv,hR⟩:=hI
  have hst:=rxSteps_at hs i o (by simpa using ho)
  rw [Nat.zero_add] at hst
  have hE:rxEq vs cs ia (pr.getD i []):=rxEq_of fun j hj hja=>hv j (hpre j hj) hja
  rw [show rgAct l.toArray.toList a vs=rgAct l a vs from rfl,hfr vs]
  have hval:∀ v,(i≠ia→v=cs.getD i undef)→∀ j,(if j=i then true else L j)=true→j≠ia→rgSet vs i v j=cs.getD j undef:=fun v h j hj hja=>by
   unfold rgSet
   by_cases hji:j=i
   ·rw [if_pos hji,hji]
    exact h (hji ▸ hja)
   ·rw [if_neg hji] at hj ⊢
    exact hv j hj hja
  unfold rxStep at hst
  by_cases c1:i=ia
  ·rw [if_pos c1] at hst
   have hR2:L is=false∧R (L kc) [] w:=by
    rcases hR with ⟨h1,_⟩ | ⟨_,h2⟩
    ·rw [← c1,hLi] at h1; cases h1
    ·exact h2
   obtain ⟨h2,h3⟩:=hR2
   refine rgDo_mono (fun v w' he => ?_) (hst vs _ w h3)
   obtain ⟨g,hg,hw⟩:=he
   refine ⟨hval v (fun h=>absurd c1 h),.inl ⟨by show (if ia=i then true else L ia)=true; rw [if_pos c1.symm],g,?_,?_⟩⟩
   ·unfold rgSet; rw [if_pos c1.symm]; exact hg
   ·have k1:¬ kc=i:=fun e=>i4 (e.trans c1)
    have k2:¬ is=i:=fun e=>i6 (e.trans c1)
    show R (if kc=i then true else L kc) [(g,if (if is=i then true else L is)=true then o1 else o0)] w'
    rw [if_neg k1,if_neg k2,h2,if_neg (by decide)]
    exact hw
  ·rw [if_neg c1] at hst
   have hia:∀ v,rgSet vs i v ia=vs ia:=fun v=>by unfold rgSet; rw [if_neg (Ne.symm c1)]
   by_cases c2:i=is
   ·rw [if_pos c2] at hst
    have hLa:L ia=true:=hpre ia (by rw [c2]; exact i7)
    have hR2:∃ g,vs ia=ptrV g∧R (L kc) [(g,if L is=true then o1 else o0)] w:=by
     rcases hR with ⟨_,h1⟩ | ⟨h1,_⟩
     ·exact h1
     ·rw [hLa] at h1; cases h1
    obtain ⟨g,hg,h3⟩:=hR2
    have hLs:L is=false:=by rw [← c2]; exact hLi
    rw [hLs,if_neg (by decide)] at h3
    refine rgDo_mono (fun v w' he => ?_) (hst vs _ g w hE hg h3)
    refine ⟨hval v (fun _=>he.1),.inl ⟨by show (if ia=i then true else L ia)=true; rw [if_neg (Ne.symm c1)]; exact hLa,g,(hia v).trans hg,?_⟩⟩
    show R (if kc=i then true else L kc) [(g,if (if is=i then true else L is)=true then o1 else o0)] w'
    have k1:¬ kc=i:=fun e=>i5 (e.trans c2)
    rw [if_neg k1,if_pos c2.symm,if_pos rfl]
    exact he.2
   ·rw [if_neg c2] at hst
    by_cases c3:i=kc
    ·rw [if_pos c3] at hst
     have hLk:L kc=false:=by rw [← c3]; exact hLi
     rw [hLk] at hR
     rcases hR with ⟨h1,g,hg,h3⟩ | ⟨h1,h2,h3⟩
     ·refine rgDo_mono (fun v w' he => ?_) (hst vs _ w hE h3)
      refine ⟨hval v (fun _=>he.1),.inl ⟨by show (if ia=i then true else L ia)=true; rw [if_neg (Ne.symm c1)]; exact h1,g,(hia v).trans hg,?_⟩⟩
      show R (if kc=i then true else L kc) [(g,if (if is=i then true else L is)=true then o1 else o0)] w'
      rw [if_pos c3.symm,if_neg (Ne.symm c2)]
      exact he.2
     ·refine rgDo_mono (fun v w' he => ?_) (hst vs _ w hE h3)
      refine ⟨hval v (fun _=>he.1),.inr ⟨by show (if ia=i then true else L ia)=false; rw [if_neg (Ne.symm c1)]; exact h1,by show (if is=i then true else L is)=false; rw [if_neg (Ne.symm c2)]; exact h2,?_⟩⟩
      show R (if kc=i then true else L kc) [] w'
      rw [if_pos c3.symm]
      exact he.2
    ·rw [if_neg c3] at hst
     rcases hR with ⟨h1,g,hg,h3⟩ | ⟨h1,h2,h3⟩
     ·refine rgDo_mono (fun v w' he => ?_) (hst vs _ _ w hE h3)
      refine ⟨hval v (fun _=>he.1),.inl ⟨by show (if ia=i then true else L ia)=true; rw [if_neg (Ne.symm c1)]; exact h1,g,(hia v).trans hg,?_⟩⟩
      show R (if kc=i then true else L kc) [(g,if (if is=i then true else L is)=true then o1 else o0)] w'
      rw [if_neg (Ne.symm c3),if_neg (Ne.symm c2)]
      exact he.2
     ·refine rgDo_mono (fun v w' he => ?_) (hst vs _ _ w hE h3)
      refine ⟨hval v (fun _=>he.1),.inr ⟨by show (if ia=i then true else L ia)=false; rw [if_neg (Ne.symm c1)]; exact h1,by show (if is=i then true else L is)=false; rw [if_neg (Ne.symm c2)]; exact h2,?_⟩⟩
      show R (if kc=i then true else L kc) [] w'
      rw [if_neg (Ne.symm c3)]
      exact he.2
 ·intro L vs w hI hall
  obtain ⟨hv,hR⟩:=hI
  rw [show rgAct l.toArray.toList a vs=rgAct l a vs from rfl,hfr vs]
  rcases hR with ⟨_,g,hg,h3⟩ | ⟨h1,_⟩
  ·rw [hall is (by rw [hsz]; exact i3),if_pos rfl,hall kc (by rw [hsz]; exact i1)] at h3
   exact hend vs g w (rxEq_of fun j hj hja=>hv j (hall j (by rw [hsz]; exact List.mem_range.1 hj)) hja) hg h3
  ·rw [hall ia (by rw [hsz]; exact i2)] at h1; cases h1
 ·refine ⟨rfl,rfl,fun t ht => ?_,by simp,fun j oj _ hl => ?_⟩
  ·refine (rgPut_ne _ _ _ _ _ fun j o hj hd => ?_).symm
   have:=ht j o (by simpa using hj) hd
   rw [getD_replicate_false] at this; cases this
  ·rw [getD_replicate_false] at hl; cases hl
 ·refine Nat.le_trans (List.length_filter_le _ _) (by simp)
 ·refine ⟨fun j hj => ?_,.inr ⟨getD_replicate_false ..,getD_replicate_false ..,?_⟩⟩
  ·have:(Array.replicate l.toArray.size false).getD j false=true:=hj
   rw [getD_replicate_false] at this; cases this
  ·show R ((Array.replicate l.toArray.size false).getD kc false) [] w.drew
   rw [getD_replicate_false]
   exact h0
end Go.Proofs.YtnkilceibkkjlaaGreat
