/- What is proved here: alloc.each's own function over any store: for every loop body that keeps each row of pairs. Its conditions: sizes. -/
import Derived.Test.YtnkilceibkkjlaaGreatIHeldIn
import Derived.Test.YtnkilceibkkjlaaGreatIFqD
set_option maxRecDepth 100000
set_option maxHeartbeats 16000000
namespace Go.Proofs.YtnkilceibkkjlaaGreat
open Go.RowKit Go.Shelf
attribute [local go_sem] Oper.semAt_some
def KpP (n₀:Nat) (A B:World):Prop:=Below n₀ A B∧∀ (k:Nat) (cs:Array Value) f,A.heap[k]? = some (Obj.cells cs 156 f)→B.heap[k]? = A.heap[k]?
theorem KpP.refl (n₀:Nat) (A:World):KpP n₀ A A:=⟨Below.refl _ _,fun _ _ _ _=>rfl⟩
theorem KpP.trans {n₀:Nat} {A B C:World} (h:KpP n₀ A B) (k:KpP n₀ B C):KpP n₀ A C :=
 ⟨h.1.trans k.1,fun j cs f hj=>(k.2 j cs f (by rw [h.2 j cs f hj]; exact hj)).trans (h.2 j cs f hj)⟩
theorem KpP.turn {n₀:Nat} {w:World} (hn:n₀≤w.heap.size) (W:World) (l:Nat) (o o':Obj) (hl:w.heap.size≤l) (h:W.heap[l]? = some o) (hc:o.isCells=false) (hw:o.isWalk=false):KpP n₀ W (W.putObj l o') :=
 ⟨belowK_b hn W l o o' hl h hc hw,fun k cs f hk=>by
  refine World.putObj_heap_other fun e => ?_
  subst e
  rw [h] at hk
  cases hk
  cases hc⟩
theorem KpP.of_below {n₀:Nat} {A B:World} (h:Below A.heap.size A B) (hn:n₀≤A.heap.size):KpP n₀ A B :=
 ⟨h.mono hn,fun k _ _ hk=>h.block k (Array.getElem?_eq_some_iff.1 hk).1⟩
theorem KpP.own {n₀:Nat} {A B:World} (h:KpP n₀ A B) {size:Nat} {v:Value} {n:Nat} {xs:List Value} (ho:Own A 156 size v n xs):Own B 156 size v n xs:=by
 refine ⟨ho.1,?_⟩
 rcases ho.2 with h0 | ⟨g,cap,cur,hv,hg,hr⟩
 ·exact .inl h0
 ·exact .inr ⟨g,cap,cur,hv,by rw [h.2 g _ _ hg]; exact hg,hr⟩
theorem own_four {w:World} {v:Value} {x y z u:Int} {e:Nat} (h:Own w e 1 v 4 [.int .i64 x,.int .i64 y,.int .i64 z,.int .i64 u]):∃ g c,v = .slice (some ⟨g,0,none⟩) 4 c∧∀ w',Below w.heap.size w w'→IdC g (x,y,z,u) w':=by
 rcases h.2 with ⟨_,h0⟩ | ⟨g,cap,cur,rfl,hg,_,_,_,hx⟩
 ·cases h0
 ·refine ⟨g,cap,rfl,fun w' hb => ?_⟩
  have hlt:g < w.heap.size:=(Array.getElem?_eq_some_iff.1 hg).1
  have hl:cur.toList.take 4 = [Value.int .i64 x,Value.int .i64 y,Value.int .i64 z,Value.int .i64 u]:=hx
  have e0:=congrArg (fun l=>l[0]?) hl
  have e1:=congrArg (fun l=>l[1]?) hl
  have e2:=congrArg (fun l=>l[2]?) hl
  have e3:=congrArg (fun l=>l[3]?) hl
  simp only [List.getElem?_take] at e0 e1 e2 e3
  refine ⟨?_,?_,?_,?_⟩
  ·rw [hb.cell (p:=⟨g,0,none⟩) hlt,cell_of_row _ _ _ _ _ _ hg]; simpa using e0
  ·rw [hb.cell (p:=⟨g,1,none⟩) hlt,cell_of_row _ _ _ _ _ _ hg]; simpa using e1
  ·rw [hb.cell (p:=⟨g,2,none⟩) hlt,cell_of_row _ _ _ _ _ _ hg]; simpa using e2
  ·rw [hb.cell (p:=⟨g,3,none⟩) hlt,cell_of_row _ _ _ _ _ _ hg]; simpa using e3
abbrev IdR:={x:I4 // x.Ok}
instance (x:I4):Decidable x.Ok:=by unfold I4.Ok; infer_instance
theorem i4_ok {a b c d:Int} (h0:a < 9223372036854775808) (h1:b < 9223372036854775808) (h2:c < 9223372036854775808) (h3:d < 9223372036854775808):I4.Ok (a,b,c,d):=fun n hn=>by
 simp only [I4.l,List.mem_cons,List.not_mem_nil,or_false] at hn
 rcases hn with rfl | rfl | rfl | rfl <;> assumption
def aIdOf (x:Ent):Option IdR:=match parseK x.1 with
 | some (_,[a,b,c,d])=>if h:I4.Ok ((a:Int),(b:Int),(c:Int),(d:Int)) then some ⟨_,h⟩ else none
 | _=>none
def idE (t:Nat) (a b:Int) (s:St):List IdR:=(underE (keyL t [a,b]) s.ents).filterMap aIdOf
def IdAt (n₀:Nat) (us:List Ent) (J:List IdR→World→Prop) (wc:World) (i:Nat) (wr:World):Prop:=J ((us.take i).filterMap aIdOf) wr∧KpP n₀ wc wr
theorem IdAt.skip {n₀:Nat} {us:List Ent} {J:List IdR→World→Prop} {wc:World} {i:Nat} {wr w':World} {B:Nat} (hJ:AbidesFrom B J) (h:IdAt n₀ us J wc i wr) {x:Ent} (hx:us[i]? = some x) (hn:aIdOf x=none) (hb:Below wr.heap.size wr w') (hs:n₀≤wr.heap.size):IdAt n₀ us J wc (i+1) w':=by
 refine ⟨?_,h.2.trans (KpP.of_below hb hs)⟩
 rw [filterMap_step _ _ _ _ hx,hn]
 simp only [Option.toList_none,List.append_nil]
 exact hJ _ _ _ none h.1 (grown_below hb) (fun r e=>by cases e)
def IdB (n₀:Nat) (us:List Ent) (J Jx:List IdR→World→Prop) (wc:World) (l i:Nat) (x:I4) (e:Ending) (w3:World):Prop :=
 ∃ t' g c,e = .returned (.tuple #[.int .i64 t',.slice (some ⟨g,0,none⟩) 4 c,.bool true])∧IdC g x w3 ∧
  YieldAt Fence.wide 3 Tryz.prog l #[idV x] w3.drew fun e W'=>∃ r:Bool,e = .returned (.bool r)∧(r=true→IdAt n₀ us J wc (i+1) W')∧(r=false→∃ pre,Jx pre W')
theorem aEach1_in (l Bs Bt Ba Bb n₀:Nat) (q:Option Addr) (t:Nat) (ht1:1≤t) (ht2:t≤255) (a b:Int) (ha:a < 9223372036854775808) (hbb:b < 9223372036854775808) (s:St) (J Jx:List IdR→World→Prop) (W:World) (hJ:AbidesFrom W.heap.size J)
  (hlen:s.ents.length < 1000000000000) (hkey:∀ x∈s.ents,x.1.size < 1000000000000)
  (hY:∀ pre x W1,J pre W1→pre.length < 1000000000000→YieldAt Fence.wide 3 Tryz.prog l #[idV x.1] W1 fun e W' =>
   (e = .returned (.bool true)∧J (pre ++ [x]) W'∧KpP n₀ W1 W')∨(e = .returned (.bool false)∧Jx (pre ++ [x]) W'))
  (hS:ReadAt n₀ W q s) (hn:n₀≤W.heap.size) (hBs:Boxed W Bs 39 (.pointer q)) (hBt:Boxed W Bt 3 (.int .i64 t)) (hBa:Boxed W Ba 3 (.int .i64 a)) (hBb:Boxed W Bb 3 (.int .i64 b)) (h0:J [] W) :
  CallsIn Fence.wide 4 Tryz.prog 158 (#[.func (.yield l) #[] #[]] ++ #[.pointer (some ⟨Bs,0,none⟩),.pointer (some ⟨Bt,0,none⟩),.pointer (some ⟨Ba,0,none⟩),.pointer (some ⟨Bb,0,none⟩)]) W fun e W'=>(∃ v,e = .returned v) ∧
   ((∃ ys,ys=idE t a b s∧J ys W')∨(∃ pre,True∧Jx pre W')):=by
 have hcB:∀ w1,Below W.heap.size W w1→w1.cell? ⟨Bs,0,none⟩=some (.pointer q):=fun w1 h1=>(h1.cell (p:=⟨Bs,0,none⟩) hBs.lt).trans hBs.cell
 have HT:Hid (∀ w1,Below W.heap.size W w1→Calls Tryz.prog 90 #[.int .i64 t,.slice (some ⟨w1.heap.size,0,none⟩) 2 2] (w1.alloc (.cells #[.int .i64 a,.int .i64 b] 3)).drew fun e w2=>e = .returned (.string (keyL t [a,b]))∧Below W.heap.size W w2∧w2.cell? ⟨Bs,0,none⟩=some (.pointer q)):=fun w1 h1=>by
  refine (key_any t ht1 ht2 _ [a,b] (w1.alloc (.cells #[.int .i64 a,.int .i64 b] 3)).drew ?_ (by simp) (fun m hm=>by
   simp only [List.mem_cons,List.not_mem_nil,or_false] at hm
   rcases hm with rfl | rfl <;> assumption)).mono fun e w2 ⟨he,hb⟩=>⟨he,?_⟩
  ·exact two_ints' _ _ _ _ (heap_alloc_new w1 (.cells #[.int .i64 a,.int .i64 b] 3))
  ·have hb':=bl_then (bl_drew (bl_alloc h1 (.cells #[.int .i64 a,.int .i64 b] 3))) hb
   exact ⟨hb',hcB _ hb'⟩
 have HU:Hid (∀ w1,Below W.heap.size W w1→Calls Tryz.prog 101 #[.pointer q,.string (keyL t [a,b])] w1 fun e w2=>∃ a' c,e = .returned (.slice a' (underE (keyL t [a,b]) s.ents).length c)∧Own w2 156 2 (.slice a' (underE (keyL t [a,b]) s.ents).length c) (underE (keyL t [a,b]) s.ents).length (pairV (underE (keyL t [a,b]) s.ents))∧Below W.heap.size W w2):=fun w1 h1 =>
  ((hS.below (h1.mono hn)).under (keyL t [a,b])).mono fun e w2 ⟨v,he,hO⟩=>by
   obtain ⟨a',c,rfl,_⟩:=hO.1.pairs
   exact ⟨a',c,he,hO.1,h1.trans (hO.2.2.mono h1.size)⟩
 have hc1:=hBs.cell
 have hc2:=hBt.cell
 have hc3:=hBa.cell
 have hc4:=hBb.cell
 have hbW:=Below.refl W.heap.size W
 have hc5:(W.alloc (.cells #[.int .i64 a,.int .i64 b] 3)).cell? ⟨Bs,0,none⟩=some (.pointer q):=hcB _ (bl_alloc hbW _)
 have hc6:(W.alloc (.cells #[.int .i64 a,.int .i64 b] 3)).cell? ⟨Bt,0,none⟩=some (.int .i64 t):=((bl_alloc hbW (.cells #[.int .i64 a,.int .i64 b] 3)).cell (p:=⟨Bt,0,none⟩) hBt.lt).trans hBt.cell
 refine callsIn_of_wp Tryz.func158 rfl trivial ?_ rfl
 simp only [Tryz.ntmps158,List.size_toArray,List.length_cons,List.length_nil,Nat.reduceAdd,Nat.reduceSub,Array.replicate_succ,Array.replicate_zero,List.push_toArray,List.append_toArray,List.nil_append,List.cons_append]
 have hmo:Tryz.prog.follows .mixedOrders=true:=by kernel_rfl
 have HL:Hid ((underE (keyL t [a,b]) s.ents).length < 1000000000000):=Nat.lt_of_le_of_lt (underE_len _ _) hlen
 have HK:Hid (∀ (i:Nat) (x:Ent),(underE (keyL t [a,b]) s.ents)[i]? = some x→x.1.size < 1000000000000):=fun i x hx=>hkey x (by have h:=List.mem_of_getElem? hx; unfold underE at h; exact (List.mem_filter.1 h).1)
 have HE:Hid (idE t a b s=(underE (keyL t [a,b]) s.ents).filterMap aIdOf):=rfl
 generalize idE t a b s=ES at *
 generalize underE (keyL t [a,b]) s.ents=us at *
 generalize keyL t [a,b]=kt at *
 gi_wp2
 gi_cut [17,18,19] from 20 (fun s12 s13 s14 wc=>∃ a' c,s12 = .slice a' us.length c∧s13 = .int .i64 us.length∧s14 = .int .i64 0∧Own wc 156 2 (.slice a' us.length c) us.length (pairV us)∧Below W.heap.size W wc)
 case first =>
  gi_region_with_o (first
   | (refine ⟨trivial,?_⟩; gi_at_call 90; refine (callsIn_wide.2 (HT.out _ hbW)).mono ?_; rintro e w1 ⟨rfl,hb1,hcw1⟩)
   | (refine ⟨trivial,?_⟩; gi_at_call 101; refine (callsIn_wide.2 (HU.out _ hb1)).mono ?_; rintro e w2 ⟨a',c,rfl,hO,hb2⟩))
  all_goals
   gi_wp2
   gi_meet
   case rel=>exact ⟨a',c,rfl,rfl,rfl,hO,hb2⟩
 case rest =>
  obtain ⟨a',c,rfl,rfl,rfl,hO,hb2⟩:=hcut
  have hJc:J [] wc:=hJ _ _ _ none h0 (grown_below hb2) (fun r e=>by cases e)
  have HO:=Lib.hid hO
  have hsz:=hb2.size
  clear hO HU HT hcB hBa hBb hBt hBs hS hc1 hc2 hc3 hc4 hc5 hc6 h0 hbW ha hbb
  have hA0:Hid (IdAt n₀ us J wc 0 wc):=⟨by simpa using hJc,KpP.refl _ _⟩
  gi_wp2
  gi_loopw [19] (fun iv wr=>∃ i:Nat,iv = .int .i64 i∧i≤us.length∧IdAt n₀ us J wc i wr) (fun iv _=>us.length - (intOf iv).toNat)
  case atStart=>exact ⟨0,rfl,by omega,hA0.out⟩
  case round =>
   obtain ⟨i,rfl,hi,hAt⟩:=hrel
   have HAt:=Lib.hid hAt
   clear hAt hA0
   have hnr:n₀≤wr.heap.size:=Nat.le_trans (Nat.le_trans hn hsz) HAt.out.2.1.size
   by_cases hlt:i < us.length
   ·obtain ⟨x,hx⟩:∃ x,us[i]? = some x:=⟨_,List.getElem?_eq_getElem hlt⟩
    obtain ⟨a2,c',e,hp⟩:=(HAt.out.2.own HO.out).pairs
    cases e
    obtain ⟨g,rfl,hp1,hp2⟩:=hp.at0 i x hx
    clear hp
    have hxk:=HK.out i x hx
    have hL:=HL.out
    have hba:Below wr.heap.size wr (wr.alloc (.cells #[.string x.1,.string x.2] 156)):=(Below.refl _ wr).alloc (Nat.le_refl _) _
    have HPA:=parse_any x.1 hxk (wr.alloc (.cells #[.string x.1,.string x.2] 156))
    cases hpk:parseK x.1 with
    | none =>
     have HP:Hid (Calls Tryz.prog 159 #[.string x.1] (wr.alloc (.cells #[.string x.1,.string x.2] 156)) fun e w3=>e = .returned (.tuple #[.int .i64 0,.slice none 0 0,.bool false])∧∀ nq,IdAt n₀ us J wc (i+1) (w3.drewN nq)):=by
      refine HPA.mono fun e w3 ⟨hb,hr⟩ => ?_
      rw [hpk] at hr
      exact ⟨hr,fun nq=>HAt.out.skip hJ hx (by unfold aIdOf; rw [hpk]) (below_drewN (hba.trans (hb.mono (by simp))) nq) hnr⟩
     clear HPA HAt
     gi_wp2_with (refine ⟨trivial,?_⟩; gi_at_call 159; refine (callsIn_wide.2 HP.out).mono ?_; rintro e w3 ⟨rfl,hA3⟩)
     refine wpIn_region_quiet_lit rfl (by assumption) (by kernel_rfl) ?_
     repeat (gi_big_quiet_step (fail))
     refine BigFrame.wpQuietIn_skip (fun _ _ _ _=>trivial) (by kernel_rfl) ?_
     simp only [Act.put,List.setIfInBounds_toArray,List.set_cons_zero,List.set_cons_succ]
     repeat (gi_big_quiet_step (fail))
     refine wpQuietIn_nil ?_
     intro _ hw'
     obtain ⟨nq,rfl⟩:=hw'
     gi_wp2
     refine ⟨⟨i+1,by go_num,by omega,hA3 nq⟩,by simp [intOf]; omega⟩
    | some y =>
     obtain ⟨t',ns⟩:=y
     by_cases h1:ns.length=4
     ·obtain ⟨x0,x1,x2,x3,rfl⟩:∃ x0 x1 x2 x3,ns = [x0,x1,x2,x3]:=by
       match ns,h1 with
       | [x0,x1,x2,x3],_=>exact ⟨x0,x1,x2,x3,rfl⟩
      have hbd:=(key_parse hpk).2
      have hx0:(x0:Int) < 9223372036854775808:=by have:=hbd x0 (by simp); omega
      have hx1:(x1:Int) < 9223372036854775808:=by have:=hbd x1 (by simp); omega
      have hx2:(x2:Int) < 9223372036854775808:=by have:=hbd x2 (by simp); omega
      have hx3:(x3:Int) < 9223372036854775808:=by have:=hbd x3 (by simp); omega
      have hone:aIdOf x=some ⟨((x0:Int),(x1:Int),(x2:Int),(x3:Int)),i4_ok hx0 hx1 hx2 hx3⟩:=by
       unfold aIdOf
       rw [hpk]
       exact dif_pos (i4_ok hx0 hx1 hx2 hx3)
      have hpl:((us.take i).filterMap aIdOf).length < 1000000000000:=by
       have h2:=filterMap_len aIdOf (us.take i)
       have h3:(us.take i).length≤us.length:=by rw [List.length_take]; omega
       omega
      have HP:Hid (Calls Tryz.prog 159 #[.string x.1] (wr.alloc (.cells #[.string x.1,.string x.2] 156)) (IdB n₀ us J Jx wc l i ((x0:Int),(x1:Int),(x2:Int),(x3:Int)))):=by
       refine HPA.mono fun e w3 ⟨hb,hr⟩ => ?_
       rw [hpk] at hr
       obtain ⟨v,he,ho,_⟩:=hr
       obtain ⟨g2,c2,rfl,hcell⟩:=own_four (x:=x0) (y:=x1) (z:=x2) (u:=x3) ho
       have hb3:Below wr.heap.size wr w3:=hba.trans (hb.mono (by simp))
       refine ⟨t',g2,c2,he,hcell _ (Below.refl _ _),?_⟩
       have hb4:Below wr.heap.size wr w3.drew:=below_drewN hb3 1
       refine (hY _ ⟨((x0:Int),(x1:Int),(x2:Int),(x3:Int)),i4_ok hx0 hx1 hx2 hx3⟩ w3.drew (hJ _ _ _ none HAt.out.1 (grown_below hb4) (fun r e=>by cases e)) hpl).mono fun e W' h => ?_
       rcases h with ⟨rfl,hJ',hK'⟩ | ⟨rfl,hJx'⟩
       ·refine ⟨true,rfl,fun _=>⟨?_,(HAt.out.2.trans (KpP.of_below hb4 hnr)).trans hK'⟩,fun h=>(by cases h)⟩
        rw [filterMap_step _ _ _ _ hx,hone]
        exact hJ'
       ·exact ⟨false,rfl,fun h=>(by cases h),fun _=>⟨_,hJx'⟩⟩
      clear HPA HAt hpl hone hY hbd hx0 hx1 hx2 hx3
      unfold IdB at HP
      gi_wp2_with (refine ⟨trivial,?_⟩; gi_at_call 159; refine (callsIn_wide.2 HP.out).mono ?_; rintro e w3 ⟨tt,g2,c2,rfl,⟨k0,k1,k2,k3⟩,hI⟩)
      obtain ⟨fn,tmps,assign,body,hy,hR⟩:=hI
      clear HP
      have hp1':((4:Nat):Int)=4:=rfl
      refine anyS_region (fun i=>decide (i < 21)) (fun w'=>IdC g2 ((x0:Int),(x1:Int),(x2:Int),(x3:Int)) w') (by assumption) ?_
      have hS0:IdC g2 ((x0:Int),(x1:Int),(x2:Int),(x3:Int)) w3.drew:=⟨k0,k1,k2,k3⟩
      refine anyS_take (i:=0) (v:=?v0) rfl rfl (by kernel_rfl) (by kernel_rfl) (by kernel_rfl) (by kernel_rfl) (fun _ _ _ h=>h) (by rfl) (fun _=>rfl) ?hy0 hS0 ?_
      case hy0=>(intro w hw; obtain ⟨h0,h1,h2,h3⟩:=hw; go_simp <;> with_reducible rfl)
      simp only [Act.put,List.getElem_toArray,List.getElem_cons_zero,List.setIfInBounds_toArray,List.set_cons_zero,List.set_cons_succ]
      refine anyS_take (i:=1) (v:=?v1) rfl rfl (by kernel_rfl) (by kernel_rfl) (by kernel_rfl) (by kernel_rfl) (fun _ _ _ h=>h) (by rfl) (fun _=>rfl) ?hy1 hS0 ?_
      case hy1=>(intro w hw; obtain ⟨h0,h1,h2,h3⟩:=hw; go_simp <;> with_reducible rfl)
      simp only [Act.put,List.getElem_toArray,List.getElem_cons_zero,List.getElem_cons_succ,List.setIfInBounds_toArray,List.set_cons_zero,List.set_cons_succ]
      refine anyS_take (i:=2) (v:=?v2) rfl rfl (by kernel_rfl) (by kernel_rfl) (by kernel_rfl) (by kernel_rfl) (fun _ _ _ h=>h) (by rfl) (fun _=>rfl) ?hy2 hS0 ?_
      case hy2=>(intro w hw; obtain ⟨h0,h1,h2,h3⟩:=hw; go_simp <;> with_reducible rfl)
      simp only [Act.put,List.getElem_toArray,List.getElem_cons_zero,List.getElem_cons_succ,List.setIfInBounds_toArray,List.set_cons_zero,List.set_cons_succ]
      refine anyS_take (i:=3) (v:=?v3) rfl rfl (by kernel_rfl) (by kernel_rfl) (by kernel_rfl) (by kernel_rfl) (fun _ _ _ h=>h) (by rfl) (fun _=>rfl) ?hy3 hS0 ?_
      case hy3=>(intro w hw; obtain ⟨h0,h1,h2,h3⟩:=hw; go_simp <;> with_reducible rfl)
      simp only [Act.put,List.getElem_toArray,List.getElem_cons_zero,List.getElem_cons_succ,List.setIfInBounds_toArray,List.set_cons_zero,List.set_cons_succ]
      refine anyS_take (i:=4) (v:=?v4) rfl rfl (by kernel_rfl) (by kernel_rfl) (by kernel_rfl) (by kernel_rfl) (fun _ _ _ h=>h) (by rfl) (fun _=>rfl) ?hy4 hS0 ?_
      case hy4=>(intro w hw; obtain ⟨h0,h1,h2,h3⟩:=hw; go_simp <;> with_reducible rfl)
      simp only [Act.put,List.getElem_toArray,List.getElem_cons_zero,List.getElem_cons_succ,List.setIfInBounds_toArray,List.set_cons_zero,List.set_cons_succ]
      refine anyS_take (i:=5) (v:=?v5) rfl rfl (by kernel_rfl) (by kernel_rfl) (by kernel_rfl) (by kernel_rfl) (fun _ _ _ h=>h) (by rfl) (fun _=>rfl) ?hy5 hS0 ?_
      case hy5=>(intro w hw; obtain ⟨h0,h1,h2,h3⟩:=hw; go_simp <;> with_reducible rfl)
      simp only [Act.put,List.getElem_toArray,List.getElem_cons_zero,List.getElem_cons_succ,List.setIfInBounds_toArray,List.set_cons_zero,List.set_cons_succ]
      refine anyS_take (i:=6) (v:=?v6) rfl rfl (by kernel_rfl) (by kernel_rfl) (by kernel_rfl) (by kernel_rfl) (fun _ _ _ h=>h) (by rfl) (fun _=>rfl) ?hy6 hS0 ?_
      case hy6=>(intro w hw; obtain ⟨h0,h1,h2,h3⟩:=hw; go_simp <;> with_reducible rfl)
      simp only [Act.put,List.getElem_toArray,List.getElem_cons_zero,List.getElem_cons_succ,List.setIfInBounds_toArray,List.set_cons_zero,List.set_cons_succ]
      refine anyS_take (i:=7) (v:=?v7) rfl rfl (by kernel_rfl) (by kernel_rfl) (by kernel_rfl) (by kernel_rfl) (fun _ _ _ h=>h) (by rfl) (fun _=>rfl) ?hy7 hS0 ?_
      case hy7=>(intro w hw; obtain ⟨h0,h1,h2,h3⟩:=hw; go_simp <;> with_reducible rfl)
      simp only [Act.put,List.getElem_toArray,List.getElem_cons_zero,List.getElem_cons_succ,List.setIfInBounds_toArray,List.set_cons_zero,List.set_cons_succ]
      refine anyS_take (i:=8) (v:=?v8) rfl rfl (by kernel_rfl) (by kernel_rfl) (by kernel_rfl) (by kernel_rfl) (fun _ _ _ h=>h) (by rfl) (fun _=>rfl) ?hy8 hS0 ?_
      case hy8=>(intro w hw; obtain ⟨h0,h1,h2,h3⟩:=hw; go_simp <;> with_reducible rfl)
      simp only [Act.put,List.getElem_toArray,List.getElem_cons_zero,List.getElem_cons_succ,List.setIfInBounds_toArray,List.set_cons_zero,List.set_cons_succ]
      refine anyS_take (i:=9) (v:=?v9) rfl rfl (by kernel_rfl) (by kernel_rfl) (by kernel_rfl) (by kernel_rfl) (fun _ _ _ h=>h) (by rfl) (fun _=>rfl) ?hy9 hS0 ?_
      case hy9=>(intro w hw; obtain ⟨h0,h1,h2,h3⟩:=hw; go_simp <;> with_reducible rfl)
      simp only [Act.put,List.getElem_toArray,List.getElem_cons_zero,List.getElem_cons_succ,List.setIfInBounds_toArray,List.set_cons_zero,List.set_cons_succ]
      refine anyS_take (i:=10) (v:=?v10) rfl rfl (by kernel_rfl) (by kernel_rfl) (by kernel_rfl) (by kernel_rfl) (fun _ _ _ h=>h) (by rfl) (fun _=>rfl) ?hy10 hS0 ?_
      case hy10=>(intro w hw; obtain ⟨h0,h1,h2,h3⟩:=hw; go_simp <;> with_reducible rfl)
      simp only [Act.put,List.getElem_toArray,List.getElem_cons_zero,List.getElem_cons_succ,List.setIfInBounds_toArray,List.set_cons_zero,List.set_cons_succ]
      refine anyS_take (i:=11) (v:=?v11) rfl rfl (by kernel_rfl) (by kernel_rfl) (by kernel_rfl) (by kernel_rfl) (fun _ _ _ h=>h) (by rfl) (fun _=>rfl) ?hy11 hS0 ?_
      case hy11=>(intro w hw; obtain ⟨h0,h1,h2,h3⟩:=hw; go_simp <;> with_reducible rfl)
      simp only [Act.put,List.getElem_toArray,List.getElem_cons_zero,List.getElem_cons_succ,List.setIfInBounds_toArray,List.set_cons_zero,List.set_cons_succ]
      refine anyS_take (i:=12) (v:=?v12) rfl rfl (by kernel_rfl) (by kernel_rfl) (by kernel_rfl) (by kernel_rfl) (fun _ _ _ h=>h) (by rfl) (fun _=>rfl) ?hy12 hS0 ?_
      case hy12=>(intro w hw; obtain ⟨h0,h1,h2,h3⟩:=hw; go_simp <;> with_reducible rfl)
      simp only [Act.put,List.getElem_toArray,List.getElem_cons_zero,List.getElem_cons_succ,List.setIfInBounds_toArray,List.set_cons_zero,List.set_cons_succ]
      refine anyS_take (i:=13) (v:=?v13) rfl rfl (by kernel_rfl) (by kernel_rfl) (by kernel_rfl) (by kernel_rfl) (fun _ _ _ h=>h) (by rfl) (fun _=>rfl) ?hy13 hS0 ?_
      case hy13=>(intro w hw; obtain ⟨h0,h1,h2,h3⟩:=hw; go_simp <;> with_reducible rfl)
      simp only [Act.put,List.getElem_toArray,List.getElem_cons_zero,List.getElem_cons_succ,List.setIfInBounds_toArray,List.set_cons_zero,List.set_cons_succ]
      refine anyS_take (i:=14) (v:=?v14) rfl rfl (by kernel_rfl) (by kernel_rfl) (by kernel_rfl) (by kernel_rfl) (fun _ _ _ h=>h) (by rfl) (fun _=>rfl) ?hy14 hS0 ?_
      case hy14=>(intro w hw; obtain ⟨h0,h1,h2,h3⟩:=hw; go_simp <;> with_reducible rfl)
      simp only [Act.put,List.getElem_toArray,List.getElem_cons_zero,List.getElem_cons_succ,List.setIfInBounds_toArray,List.set_cons_zero,List.set_cons_succ]
      refine anyS_take (i:=15) (v:=?v15) rfl rfl (by kernel_rfl) (by kernel_rfl) (by kernel_rfl) (by kernel_rfl) (fun _ _ _ h=>h) (by rfl) (fun _=>rfl) ?hy15 hS0 ?_
      case hy15=>(intro w hw; obtain ⟨h0,h1,h2,h3⟩:=hw; go_simp <;> with_reducible rfl)
      simp only [Act.put,List.getElem_toArray,List.getElem_cons_zero,List.getElem_cons_succ,List.setIfInBounds_toArray,List.set_cons_zero,List.set_cons_succ]
      refine anyS_take (i:=16) (v:=?v16) rfl rfl (by kernel_rfl) (by kernel_rfl) (by kernel_rfl) (by kernel_rfl) (fun _ _ _ h=>h) (by rfl) (fun _=>rfl) ?hy16 hS0 ?_
      case hy16=>(intro w hw; obtain ⟨h0,h1,h2,h3⟩:=hw; go_simp <;> with_reducible rfl)
      simp only [Act.put,List.getElem_toArray,List.getElem_cons_zero,List.getElem_cons_succ,List.setIfInBounds_toArray,List.set_cons_zero,List.set_cons_succ]
      refine anyS_take (i:=17) (v:=?v17) rfl rfl (by kernel_rfl) (by kernel_rfl) (by kernel_rfl) (by kernel_rfl) (fun _ _ _ h=>h) (by rfl) (fun _=>rfl) ?hy17 hS0 ?_
      case hy17=>(intro w hw; obtain ⟨h0,h1,h2,h3⟩:=hw; go_simp <;> with_reducible rfl)
      simp only [Act.put,List.getElem_toArray,List.getElem_cons_zero,List.getElem_cons_succ,List.setIfInBounds_toArray,List.set_cons_zero,List.set_cons_succ]
      refine anyS_take (i:=18) (v:=?v18) rfl rfl (by kernel_rfl) (by kernel_rfl) (by kernel_rfl) (by kernel_rfl) (fun _ _ _ h=>h) (by rfl) (fun _=>rfl) ?hy18 hS0 ?_
      case hy18=>(intro w hw; obtain ⟨h0,h1,h2,h3⟩:=hw; go_simp <;> with_reducible rfl)
      simp only [Act.put,List.getElem_toArray,List.getElem_cons_zero,List.getElem_cons_succ,List.setIfInBounds_toArray,List.set_cons_zero,List.set_cons_succ]
      refine anyS_take (i:=19) (v:=?v19) rfl rfl (by kernel_rfl) (by kernel_rfl) (by kernel_rfl) (by kernel_rfl) (fun _ _ _ h=>h) (by rfl) (fun _=>rfl) ?hy19 hS0 ?_
      case hy19=>(intro w hw; obtain ⟨h0,h1,h2,h3⟩:=hw; go_simp <;> with_reducible rfl)
      simp only [Act.put,List.getElem_toArray,List.getElem_cons_zero,List.getElem_cons_succ,List.setIfInBounds_toArray,List.set_cons_zero,List.set_cons_succ]
      refine anyS_take (i:=20) (v:=?v20) rfl rfl (by kernel_rfl) (by kernel_rfl) (by kernel_rfl) (by kernel_rfl) (fun _ _ _ h=>h) (by rfl) (fun _=>rfl) ?hy20 hS0 ?_
      case hy20=>(intro w hw; obtain ⟨h0,h1,h2,h3⟩:=hw; go_simp <;> with_reducible rfl)
      simp only [Act.put,List.getElem_toArray,List.getElem_cons_zero,List.getElem_cons_succ,List.setIfInBounds_toArray,List.set_cons_zero,List.set_cons_succ]
      refine anyS_one (i:=21) rfl (by kernel_rfl) (by rfl) fun K hK => ?_
      go_simp
      gi_wp2_with (refine hR.mono ?_; rintro e W3 ⟨r,rfl,hT,hF⟩)
      refine hK _ _ (fun h=>by cases h) ?_
      clear hK K
      refine anyS_one (i:=22) rfl (by kernel_rfl) (by rfl) fun K hK => ?_
      go_simp
      refine hK _ _ (fun h=>by cases h) ?_
      clear hK K
      refine anyS_one (i:=23) rfl (by kernel_rfl) (by rfl) fun K hK => ?_
      go_simp
      refine hK _ _ (fun h=>by cases h) ?_
      clear hK K
      refine anyS_done (by kernel_rfl) ?_ _
      all_goals
       cases r with
       | true =>
        have hA3:=hT rfl
        clear hT hF
        gi_wp2
        refine ⟨⟨i+1,by go_num,by omega,hA3⟩,by simp [intOf]; omega⟩
       | false =>
        obtain ⟨pre,hA3⟩:=hF rfl
        clear hT hF
        gi_wp2
        refine bodyPost_ret (results_none rfl _ _ _) rfl ?_
        exact ⟨⟨_,rfl⟩,.inr ⟨_,trivial,hA3⟩⟩
     ·have hno:aIdOf x=none:=by
       unfold aIdOf
       rw [hpk]
       match ns,h1 with
       | [],_=>rfl
       | [_],_=>rfl
       | [_,_],_=>rfl
       | [_,_,_],_=>rfl
       | [_,_,_,_],h=>exact absurd rfl h
       | _ :: _ :: _ :: _ :: _ :: _,_=>rfl
      have hd1:((ns.length:Int) == 4)=false:=by rw [beq_eq_false_iff_ne]; omega
      have HP:Hid (Calls Tryz.prog 159 #[.string x.1] (wr.alloc (.cells #[.string x.1,.string x.2] 156)) fun e w3=>(∃ a c,e = .returned (.tuple #[.int .i64 t',.slice a ns.length c,.bool true]))∧∀ nq,IdAt n₀ us J wc (i+1) (w3.drewN nq)):=by
       refine HPA.mono fun e w3 ⟨hb,hr⟩ => ?_
       rw [hpk] at hr
       obtain ⟨v,he,ho,_⟩:=hr
       obtain ⟨a,c,rfl,_⟩:=ho.form
       exact ⟨⟨a,c,he⟩,fun nq=>HAt.out.skip hJ hx hno (below_drewN (hba.trans (hb.mono (by simp))) nq) hnr⟩
      clear HPA HAt hno h1
      gi_wp2_with (refine ⟨trivial,?_⟩; gi_at_call 159; refine (callsIn_wide.2 HP.out).mono ?_; rintro e w3 ⟨⟨av,cv,rfl⟩,hA3⟩)
      refine wpIn_region_quiet_lit rfl (by assumption) (by kernel_rfl) ?_
      repeat (gi_big_quiet_step (fail))
      refine BigFrame.wpQuietIn_skip (fun _ _ _ _=>trivial) (by kernel_rfl) ?_
      simp only [Act.put,List.setIfInBounds_toArray,List.set_cons_zero,List.set_cons_succ]
      repeat (gi_big_quiet_step (fail))
      refine wpQuietIn_nil ?_
      intro _ hw'
      obtain ⟨nq,rfl⟩:=hw'
      gi_wp2
      refine ⟨⟨i+1,by go_num,by omega,hA3 nq⟩,by simp [intOf]; omega⟩
   ·obtain rfl:i=us.length:=by omega
    have hend:=HAt.out.1
    rw [List.take_length,← HE.out] at hend
    clear hi
    gi_wp2
    go_end0
    exact ⟨⟨_,rfl⟩,.inl ⟨_,rfl,hend⟩⟩
theorem aEach_stops (n₀:Nat) (q:Option Addr) (t:Nat) (ht1:1≤t) (ht2:t≤255) (a b:Int) (ha:a < 9223372036854775808) (hb:b < 9223372036854775808) (s:St) (w:World) (hlen:s.ents.length < 1000000000000) (hkey:∀ x∈s.ents,x.1.size < 1000000000000) (hS:ReadAt n₀ w q s) (hn:n₀≤w.heap.size) :
  SeqStopsK Fence.wide 4 Tryz.prog 158 #[.pointer (some ⟨w.heap.size,0,none⟩),.pointer (some ⟨w.heap.size+1,0,none⟩),.pointer (some ⟨w.heap.size+1+1,0,none⟩),.pointer (some ⟨w.heap.size+1+1+1,0,none⟩)] (fun x:IdR=>#[idV x.1]) (KpP n₀) (fun ys=>ys=idE t a b s) (fun _=>True) 1000000000000
   ((((w.alloc (.cells #[.pointer q] 39)).alloc (.cells #[.int .i64 t] 3)).alloc (.cells #[.int .i64 a] 3)).alloc (.cells #[.int .i64 b] 3)):=by
 have bS:=Boxed.new w 39 (.pointer q)
 have bT:=Boxed.new (w.alloc (.cells #[.pointer q] 39)) 3 (.int .i64 t)
 have bA:=Boxed.new ((w.alloc (.cells #[.pointer q] 39)).alloc (.cells #[.int .i64 t] 3)) 3 (.int .i64 a)
 have bB:=Boxed.new (((w.alloc (.cells #[.pointer q] 39)).alloc (.cells #[.int .i64 t] 3)).alloc (.cells #[.int .i64 a] 3)) 3 (.int .i64 b)
 simp only [World.size_alloc] at bT bA bB
 have hbl:=bl_alloc (bl_alloc (bl_alloc (bl_alloc (Below.refl _ w) (.cells #[.pointer q] 39)) (.cells #[.int .i64 t] 3)) (.cells #[.int .i64 a] 3)) (.cells #[.int .i64 b] 3)
 have bS4:=((bS.alloc (.cells #[.int .i64 t] 3)).alloc (.cells #[.int .i64 a] 3)).alloc (.cells #[.int .i64 b] 3)
 have bT4:=(bT.alloc (.cells #[.int .i64 a] 3)).alloc (.cells #[.int .i64 b] 3)
 have bA4:=bA.alloc (.cells #[.int .i64 b] 3)
 have hS4:=hS.below (hbl.mono hn)
 have hn4:=Nat.le_trans hn hbl.size
 intro l J Jx W hbw hJ _ hY h0
 exact aEach1_in l _ _ _ _ n₀ q t ht1 ht2 a b ha hb s J Jx W hJ hlen hkey hY (hS4.below (hbw.mono hn4)) (Nat.le_trans hn4 hbw.size) ((hbw.block _ bS4.lt).trans bS4) ((hbw.block _ bT4.lt).trans bT4) ((hbw.block _ bA4.lt).trans bA4) ((hbw.block _ bB.lt).trans bB) h0
end Go.Proofs.YtnkilceibkkjlaaGreat
