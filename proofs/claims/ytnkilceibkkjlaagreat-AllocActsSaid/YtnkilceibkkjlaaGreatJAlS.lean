/- What is proved here: alloc.Sum over any store. Its condit -/
import Derived.Test.YtnkilceibkkjlaaGreatJAlE
set_option maxRecDepth 100000
set_option maxHeartbeats 16000000
namespace Go.Proofs.YtnkilceibkkjlaaGreat
open Go.RowKit Go.Shelf
attribute [local go_sem] Oper.semAt_some
def sumC(s:St)(l:List IdR):W4:=l.foldl (fun a x=>sumW a (cur s x.1)) (0,0,0,0)
def z9u(s:St)(a:W4)(x:IdR):W4:=if (pend s x.1).1=1 then sumW a (pend s x.1).2.1 else a
def sumP(s:St)(a:W4)(l:List IdR):W4:=l.foldl (z9u s) a
def sumA(s:St)(a b:Int):W4:=if a<1\/b<1 then(0,0,0,0)else sumP s (sumC s (idE 29 a b s)) (idE 30 a b s)
theorem zh8(s:St)(l:List IdR)(x:IdR):sumC s (l ++ [x])=sumW (sumC s l) (cur s x.1):=by unfold sumC;rw[List.foldl_append];rfl
theorem sumP_snoc(s:St)(a:W4)(l:List IdR)(x:IdR):sumP s a (l ++ [x])=z9u s (sumP s a l) x:=by unfold sumP;rw[List.foldl_append];rfl
theorem zfy(s:St)(l:List IdR):(sumC s l).Ok:=by
 unfold sumC
 suffices h:∀ (l:List IdR) (a:W4),a.Ok->(l.foldl (fun a x=>sumW a (cur s x.1)) a).Ok from h l _ zh4
 intro l
 induction l with
 | nil=>exact fun a h=>h
 | cons y l ih=>exact fun a h=>ih _ (zi7 _)
theorem zse(s:St){a:W4}(h:a.Ok)(x:IdR):(z9u s a x).Ok:=by
 unfold z9u;split
 ·exact zi7 _
 ·exact h
theorem zp8(s:St){a:W4}(h:a.Ok)(l:List IdR):(sumP s a l).Ok:=by
 unfold sumP
 induction l generalizing a with
 | nil=>exact h
 | cons y l ih=>exact ih (zse s h y)
theorem zdl{β:Type}{B k t:Nat}{f:β->Array Value}:OwnFrom B (fun (s:β) (W:World)=>W.heap[k]?=some (.cells (f s) t (0,0))):=fun s W W' row hs hg hr=>by
 refine(hg.block k (z01 hs) fun e => ?_).trans hs
 obtain⟨_,o,ho,hc⟩:=hr k e.symm
 rw[hs]at ho
 cases ho
 cases hc
def SuAt(w:World)(q:Option Addr)(acc:W4)(W:World):Prop:=Below w.heap.size w W/\W.heap[w.heap.size]?=some (.cells #[.pointer q] 39 (0,0))/\W.heap[w.heap.size+1]?=some zO/\W.heap[w.heap.size+1+1]?=some (uO acc)
theorem SuAt.below{w:World}{q:Option Addr}{acc:W4}{W W':World}(h:SuAt w q acc W)(hb:Below W.heap.size W W'):SuAt w q acc W':=
 ⟨z09 h.1 hb,(hb.block _ (z01 h.2.1)).trans h.2.1,(hb.block _ (z01 h.2.2.1)).trans h.2.2.1,(hb.block _ (z01 h.2.2.2)).trans h.2.2.2⟩
theorem SuAt.start(w:World)(q:Option Addr):SuAt w q (0,0,0,0) (((w.alloc (.cells #[.pointer q] 39)).alloc zO).alloc zO):=by
 have hb:=z00 (z00 (z00 (Below.refl _ w) (.cells #[.pointer q] 39)) zO) zO;refine⟨hb,?_,?_,?_⟩
 ·rw[heap_alloc_old _ _ (by first | (simp;done)|(simp;omega)),heap_alloc_old _ _ (by simp)];exact heap_alloc_new w _
 ·rw[heap_alloc_old _ _ (by simp)];have:=heap_alloc_new (w.alloc (.cells #[.pointer q] 39)) zO;rw[World.size_alloc]at this;exact this
 ·have:=heap_alloc_new ((w.alloc (.cells #[.pointer q] 39)).alloc zO) zO;rw[World.size_alloc,World.size_alloc]at this;exact this
theorem SuAt.from{w:World}{q:Option Addr}{B:Nat}(hB:w.heap.size<=B)(f:List IdR->W4):OwnFrom B (fun (l:List IdR) W=>SuAt w q (f l) W):=fun l W W' row hs hg hr =>
 ⟨ownFrom_below (Nat.le_refl _) hB l W W' row hs.1 hg hr,zdl (β:=List IdR) (f:=fun _=>_) l W W' row hs.2.1 hg hr,zdl (β:=List IdR) (f:=fun _=>_) l W W' row hs.2.2.1 hg hr,zdl (β:=List IdR) (f:=fun l=>uL (f l)) l W W' row hs.2.2.2 hg hr⟩
theorem SuAt.put{w:World}{q:Option Addr}{acc:W4}{W:World}(h:SuAt w q acc W)(y:W4):SuAt w q y ((((W.setCell ⟨w.heap.size+1+1,0,none⟩ (.int .u64 y.1)).setCell ⟨w.heap.size+1+1,1,none⟩ (.int .u64 y.2.1)).setCell ⟨w.heap.size+1+1,2,none⟩ (.int .u64 y.2.2.1)).setCell ⟨w.heap.size+1+1,3,none⟩ (.int .u64 y.2.2.2)):=by
 have hoth:∀ k,k≠w.heap.size+1+1->((((W.setCell ⟨w.heap.size+1+1,0,none⟩ (.int .u64 y.1)).setCell ⟨w.heap.size+1+1,1,none⟩ (.int .u64 y.2.1)).setCell ⟨w.heap.size+1+1,2,none⟩ (.int .u64 y.2.2.1)).setCell ⟨w.heap.size+1+1,3,none⟩ (.int .u64 y.2.2.2)).heap[k]?=W.heap[k]?:=fun k hk=>by
  rw[Below.heap_setCell _ _ _ _ hk,Below.heap_setCell _ _ _ _ hk,Below.heap_setCell _ _ _ _ hk,Below.heap_setCell _ _ _ _ hk]
 exact⟨z0b h.1 (by omega) _ _ _ _,(hoth _ (by omega)).trans h.2.1,(hoth _ (by omega)).trans h.2.2.1,put4 h.2.2.2 y⟩
theorem KpP.put4{n₀ k:Nat}{W:World}{y:W4}(hr:W.heap[k]?=some (uO y))(hn:n₀<=k)(c0 c1 c2 c3:Value):KpP n₀ W ((((W.setCell ⟨k,0,none⟩ c0).setCell ⟨k,1,none⟩ c1).setCell ⟨k,2,none⟩ c2).setCell ⟨k,3,none⟩ c3):=by
 refine⟨z0b (Below.refl _ W) hn _ _ _ _,fun j cs f hj => ?_⟩;have hk:j≠k:=fun e=>by
  subst e;rw[hr]at hj;simp at hj
 rw[Below.heap_setCell _ _ _ _ hk,Below.heap_setCell _ _ _ _ hk,Below.heap_setCell _ _ _ _ hk,Below.heap_setCell _ _ _ _ hk]
theorem zeg{B k:Nat}{W:World}{cs:Array Value}{t:TypeId}{f:Nat × Nat}(hr:W.heap[k]?=some (.cells cs t f))(c0 c1 c2 c3:Value):KeepsFrom B W ((((W.setCell ⟨k,0,none⟩ c0).setCell ⟨k,1,none⟩ c1).setCell ⟨k,2,none⟩ c2).setCell ⟨k,3,none⟩ c3):=by
 refine⟨by simp,fun j o _ hj hc => ?_⟩;have hk:j≠k:=fun e=>by
  subst e;rw[hr]at hj;cases hj;cases hc
 rw[Below.heap_setCell _ _ _ _ hk,Below.heap_setCell _ _ _ _ hk,Below.heap_setCell _ _ _ _ hk,Below.heap_setCell _ _ _ _ hk];exact hj
theorem z5l{B:Nat}{W W':World}(h:Below W.heap.size W W'):KeepsFrom B W W':=⟨h.size,fun k _ _ hk _=>(h.block k (z01 hk)).trans hk⟩
theorem zj0{B D:Nat}(hD:D<B):OwnFrom B (fun (_:List IdR) W=>W.heap[D]?=some (.deferred (some []))):=fun _ X Y row hs hg hrow=>by
 refine(hg.block D (z01 hs) fun e => ?_).trans hs
 have:=(hrow D e.symm).1
 omega
theorem zes{B:Nat}(x:I4)(c:Nat->Prop):OwnFrom B (fun (_:Unit) W=>∃ k,c k/\W.heap[k]?=some (aO x)):=fun _ X Y row ⟨k,hc,hs⟩ hg hrow=>by
 refine⟨k,hc,?_⟩
 rw[hg.block k (z01 hs) (fun e => ?_)]
 ·exact hs
 ·obtain⟨_,o,ho,hf⟩:=hrow k e.symm
  rw[hs]at ho;cases ho;cases hf
theorem sum_any(w:World)(q:Option Addr)(s:St)(a b:Int)(ha:a<9223372036854775808)(hb:b<9223372036854775808)(h:z1a w.heap.size w q s)(hlen:s.ents.length<1000000000000)(hkey:∀ x∈s.ents,x.1.size<1000000000000) :
  Calls Tryz.prog 26 #[.pointer q,.int .i64 a,.int .i64 b] w fun e w'=>e= .returned (uV (sumA s a b))/\Below w.heap.size w w':=by
 refine(callsIn_wide (n:=5)).1 ?_;refine callsIn_of_wp_marks Tryz.func26 rfl trivial ?_ rfl;simp only[Tryz.ntmps26,List.size_toArray,List.length_cons,List.length_nil,Nat.reduceAdd,Nat.reduceSub,Array.replicate_succ,Array.replicate_zero,List.push_toArray,List.append_toArray,List.nil_append,List.cons_append]
 by_cases h1:a<1\/b<1
 ·have HS0:=zh (SuAt.start w q);have HR:Hid (sumA s a b=(0,0,0,0)):=by unfold sumA;rw[if_pos h1];exact zh rfl
  clear h
  by_cases h2:a<1
  ·have hd1:decide (a<1)=true:=decide_eq_true h2
   gi_wp2
   exact⟨_,results_cell_row rfl _ _ (w.heap.size+1) 24 (uL (0,0,0,0)) (0,0) _ rfl HS0.out.2.2.1 Tryz.underlying24 rfl (by kernel_rfl),by rw[HR.out],HS0.out.1⟩
  ·have hd1:decide (a<1)=false:=decide_eq_false h2;have hd2:decide (b<1)=true:=decide_eq_true (by omega)
   gi_wp2
   exact⟨_,results_cell_row rfl _ _ (w.heap.size+1) 24 (uL (0,0,0,0)) (0,0) _ rfl HS0.out.2.2.1 Tryz.underlying24 rfl (by kernel_rfl),by rw[HR.out],HS0.out.1⟩
 ·have HR:Hid (sumA s a b=sumP s (sumC s (idE 29 a b s)) (idE 30 a b s)):=by unfold sumA;rw[if_neg h1];exact zh rfl
  have hd1:decide (a<1)=false:=decide_eq_false (by omega);have hd2:decide (b<1)=false:=decide_eq_false (by omega);have h0:=SuAt.start w q;have HRD:=zh h;generalize sumA s a b=RR at *
  clear h1 h
  gi_wp2_with fail
  generalize ((w.alloc (.cells #[.pointer q] 39)).alloc (.cells #[.int .u64 0,.int .u64 0,.int .u64 0,.int .u64 0] 24)).alloc (.cells #[.int .u64 0,.int .u64 0,.int .u64 0,.int .u64 0] 24)=w0 at *
  have HS0:=zh h0;have hb0:w0.cell? ⟨w.heap.size,0,none⟩=some (.pointer q):=by rw[cell_of_row _ _ _ _ _ _ h0.2.1];rfl
  have hsz0:=h0.1.size;clear h0
  gi_wp2_with (refine⟨trivial,?_⟩;gi_at_call 89;refine(callsIn_wide.2 (zi9 q 29 a b _)).mono ?_;rintro e w' ⟨rfl,rfl⟩)
  refine wpIn_rangeFunc_ownH rfl (by decide) (gf:=158) (lb:=#[.pointer (some ⟨w0.heap.size,0,none⟩),.pointer (some ⟨w0.heap.size+1,0,none⟩),.pointer (some ⟨w0.heap.size+1+1,0,none⟩),.pointer (some ⟨w0.heap.size+1+1+1,0,none⟩)]) rfl trivial (enters_of Tryz.func158 (by kernel_rfl) rfl)
   (zd9 w.heap.size q 29 (by decide) (by decide) a b ha hb s w0 hlen hkey (HRD.out.below HS0.out.1) hsz0) KpP.trans (KpP.turn (by simp;omega)) zb (fun _=>rfl)
   (fun pre W=>SuAt w q (sumC s pre) W) (fun _ _ _=>False)
   (SuAt.from (by simp;omega) (sumC s)) (fun _ _ _ _ _ hs _ _=>hs)
   (HS0.out.below (z00 (z00 (z00 (z00 (Below.refl _ w0) _) _) _) _))
   (fun x a' W=>∃ k,a' = { tmps:=#[.pointer q,.int .i64 a,.int .i64 b,.pointer (some ⟨w.heap.size,0,none⟩),undef,undef,.pointer (some ⟨w.heap.size+1,0,none⟩),.pointer (some ⟨w.heap.size+1+1,0,none⟩),.pointer (some ⟨k,0,none⟩),undef,undef,undef,undef,.int .i64 a,.bool false,.bool false,.int .i64 b,.bool false,.bool false,undef,.pointer q,.int .i64 a,.int .i64 b,.func (.func 158) #[] #[.pointer (some ⟨w0.heap.size,0,none⟩),.pointer (some ⟨w0.heap.size+1,0,none⟩),.pointer (some ⟨w0.heap.size+1+1,0,none⟩),.pointer (some ⟨w0.heap.size+1+1+1,0,none⟩)],idV x.1,undef,undef,undef,undef,undef,undef,undef,undef,undef,undef,undef,undef,undef,undef,undef,undef,undef,undef,undef,undef,undef,undef,undef,undef,undef,undef,undef,undef,undef],defers:=[] }/\W.heap[k]?=some (aO x.1)) (fun x a'=>zes x.1 _) ?assign ?body ?done ?stop
  case stop=>rintro D c pre W _ _ h _;exact h.elim
  case assign =>
   intro l pre x W K hI hK
   gi_wp2
   have hal:=(Below.refl W.heap.size W).alloc (Nat.le_refl _) (aO x.1);exact hK _ _ (z5l hal) (KpP.of_below hal (hI.1.size)) (hI.below hal) ⟨_,rfl,heap_alloc_new W _⟩
  case body =>
   rintro l pre x a' W _ _ hv ⟨k,rfl,hk⟩ hlt;have hlk:=z01 hk;have HSU:Hid (∀ W1,Below W.heap.size W W1->SuAt w q (sumC s pre) W1/\IdC k x.1 W1):=fun W1 hb1=>⟨hv.below hb1,z0a ((hb1.block k hlk).trans hk)⟩
   have HC:Hid (∀ W1,Below W.heap.size W W1->Calls Tryz.prog 18 #[.pointer q,idV x.1] W1 fun e w2=>e= .returned (uV (cur s x.1))/\Below W.heap.size W w2):=fun W1 hb1=>(z4n W1 q s x.1 x.2 ((HRD.out.below (hv.below hb1).1).up (hv.below hb1).1.size)).mono fun e w2 ⟨he,hb2⟩=>⟨he,z09 hb1 hb2⟩
   have HA:Hid (∀ W1,Below W.heap.size W W1->Calls Tryz.prog 79 #[uV (sumC s pre),uV (cur s x.1)] W1 fun e w2=>e= .returned (.tuple #[uV (sumW (sumC s pre) (cur s x.1)),.bool (sumB (sumC s pre) (cur s x.1))])/\Below W.heap.size W w2):=fun W1 hb1=>(zft _ _ (zfy s pre) (z4p _) W1).mono fun e w2 ⟨he,hb2⟩=>⟨he,z09 hb1 hb2⟩
   have HN:Hid (sumC s (pre ++ [x])=sumW (sumC s pre) (cur s x.1)):=zh8 _ _ _;have HKP:Hid (∀ W1,Below W.heap.size W W1->KpP w.heap.size W W1):=fun W1 hb1=>KpP.of_below hb1 hv.1.size
   have HEND:Hid (∀ w2,Below W.heap.size W w2->SuAt w q (sumC s pre) w2->(∀ B,KeepsFrom B W ((((w2.setCell ⟨w.heap.size+1+1,0,none⟩ (.int .u64 (sumW (sumC s pre) (cur s x.1)).1)).setCell ⟨w.heap.size+1+1,1,none⟩ (.int .u64 (sumW (sumC s pre) (cur s x.1)).2.1)).setCell ⟨w.heap.size+1+1,2,none⟩ (.int .u64 (sumW (sumC s pre) (cur s x.1)).2.2.1)).setCell ⟨w.heap.size+1+1,3,none⟩ (.int .u64 (sumW (sumC s pre) (cur s x.1)).2.2.2)))/\KpP w.heap.size W ((((w2.setCell ⟨w.heap.size+1+1,0,none⟩ (.int .u64 (sumW (sumC s pre) (cur s x.1)).1)).setCell ⟨w.heap.size+1+1,1,none⟩ (.int .u64 (sumW (sumC s pre) (cur s x.1)).2.1)).setCell ⟨w.heap.size+1+1,2,none⟩ (.int .u64 (sumW (sumC s pre) (cur s x.1)).2.2.1)).setCell ⟨w.heap.size+1+1,3,none⟩ (.int .u64 (sumW (sumC s pre) (cur s x.1)).2.2.2))/\SuAt w q (sumC s (pre ++ [x])) ((((w2.setCell ⟨w.heap.size+1+1,0,none⟩ (.int .u64 (sumW (sumC s pre) (cur s x.1)).1)).setCell ⟨w.heap.size+1+1,1,none⟩ (.int .u64 (sumW (sumC s pre) (cur s x.1)).2.1)).setCell ⟨w.heap.size+1+1,2,none⟩ (.int .u64 (sumW (sumC s pre) (cur s x.1)).2.2.1)).setCell ⟨w.heap.size+1+1,3,none⟩ (.int .u64 (sumW (sumC s pre) (cur s x.1)).2.2.2))):=fun w2 hb2 hv2=>⟨fun B=>(z5l hb2).trans (zeg hv2.2.2.2 _ _ _ _),(HKP.out w2 hb2).trans (KpP.put4 hv2.2.2.2 (by omega) _ _ _ _),by rw[HN.out];exact hv2.put _⟩
   have hbW:=Below.refl W.heap.size W;obtain⟨u0,u1,u2,u3,_⟩:=row4 hv.2.2.2;have p0:W.cell? ⟨w.heap.size,0,none⟩=some (.pointer q):=by rw[cell_of_row _ _ _ _ _ _ hv.2.1];rfl
   obtain⟨i0,i1,i2,i3⟩:=z0a hk;have hmo:Tryz.prog.follows .mixedOrders=true:=by kernel_rfl
   generalize sumB (sumC s pre) (cur s x.1)=sb at *
   generalize sumW (sumC s pre) (cur s x.1)=sm at *
   generalize sumC s pre=sp at *
   generalize cur s x.1=cu at *
   clear hv hk HRD HS0 hlt
   gi_wp2
   gi_region_with_o (first
    | (refine⟨trivial,?_⟩;gi_at_call 18;refine(CallsIn.inRound l (callsIn_wide.2 (HC.out _ (z0i hbW)))).mono ?_;rintro e w1 ⟨rfl,hb1⟩;obtain⟨hv1,j0,j1,j2,j3⟩:=HSU.out w1 hb1;obtain⟨v0,v1,v2,v3,_⟩:=row4 hv1.2.2.2;clear hv1)
    | (refine⟨trivial,?_⟩;gi_at_call 79;refine(CallsIn.inRound l (callsIn_wide.2 (HA.out _ hb1))).mono ?_;rintro e w2 ⟨rfl,hb2⟩;obtain⟨hv2,_⟩:=HSU.out w2 hb2;obtain⟨x0,x1,x2,x3,_⟩:=row4 hv2.2.2.2;have HV2:=zh hv2;clear hv2))
   all_goals
    gi_wp2
    obtain⟨f1,f2,f3⟩:=HEND.out w2 hb2 HV2.out;exact⟨f1 _,f2,f3⟩
  case done =>
   rintro D ys W hD hys hI hK;subst hys;have HSW:=zh hI;have hb1:W.cell? ⟨w.heap.size,0,none⟩=some (.pointer q):=by rw[cell_of_row _ _ _ _ _ _ hI.2.1];rfl
   have hszW:=hI.1.size;have HK1:=zh hK;have hDW:D<W.heap.size:=z01 hK;clear hK hI HS0;have HC0:Hid ((sumC s (idE 29 a b s)).Ok):=zfy _ _;generalize sumC s (idE 29 a b s)=c0 at *
   gi_wp2_with (refine⟨trivial,?_⟩;gi_at_call 89;refine(callsIn_wide.2 (zi9 q 30 a b _)).mono ?_;rintro e w' ⟨rfl,rfl⟩)
   refine wpIn_rangeFunc_ownH rfl (by decide) (gf:=158) (lb:=#[.pointer (some ⟨W.heap.size,0,none⟩),.pointer (some ⟨W.heap.size+1,0,none⟩),.pointer (some ⟨W.heap.size+1+1,0,none⟩),.pointer (some ⟨W.heap.size+1+1+1,0,none⟩)]) rfl trivial (enters_of Tryz.func158 (by kernel_rfl) rfl)
    (zd9 w.heap.size q 30 (by decide) (by decide) a b ha hb s W hlen hkey (HRD.out.below HSW.out.1) hszW) KpP.trans (KpP.turn (by simp;omega)) zb (fun _=>rfl)
    (fun pre W2=>SuAt w q (sumP s c0 pre) W2/\W2.heap[D]?=some (.deferred (some []))) (fun _ _ _=>False)
    (OwnFrom.and (SuAt.from (by simp;omega) (sumP s c0)) (zj0 (by simp;omega))) (fun _ _ _ _ _ hs _ _=>hs)
    ⟨HSW.out.below (z00 (z00 (z00 (z00 (Below.refl _ W) _) _) _) _),((z00 (z00 (z00 (z00 (Below.refl _ W) _) _) _) _).block D hDW).trans HK1.out⟩
    (fun x a' W2=>∃ k,a' = { tmps:=#[.pointer q,.int .i64 a,.int .i64 b,.pointer (some ⟨w.heap.size,0,none⟩),undef,undef,.pointer (some ⟨w.heap.size+1,0,none⟩),.pointer (some ⟨w.heap.size+1+1,0,none⟩),undef,.pointer (some ⟨k,0,none⟩),undef,undef,undef,.int .i64 a,.bool false,.bool false,.int .i64 b,.bool false,.bool false,undef,.pointer q,.int .i64 a,.int .i64 b,.func (.func 158) #[] #[.pointer (some ⟨w0.heap.size,0,none⟩),.pointer (some ⟨w0.heap.size+1,0,none⟩),.pointer (some ⟨w0.heap.size+1+1,0,none⟩),.pointer (some ⟨w0.heap.size+1+1+1,0,none⟩)],undef,undef,undef,undef,undef,undef,undef,undef,undef,.pointer q,.int .i64 a,.int .i64 b,.func (.func 158) #[] #[.pointer (some ⟨W.heap.size,0,none⟩),.pointer (some ⟨W.heap.size+1,0,none⟩),.pointer (some ⟨W.heap.size+1+1,0,none⟩),.pointer (some ⟨W.heap.size+1+1+1,0,none⟩)],idV x.1,undef,undef,undef,undef,undef,undef,undef,undef,undef,undef,undef,undef,undef,undef,undef,undef],defers:=[] }/\W2.heap[k]?=some (aO x.1)) (fun x a'=>zes x.1 _) ?assign2 ?body2 ?done2 ?stop2
   case stop2=>rintro D c pre W _ _ h _;exact h.elim
   case assign2 =>
    intro l pre x W2 K hI hK
    gi_wp2
    have hal:=(Below.refl W2.heap.size W2).alloc (Nat.le_refl _) (aO x.1);exact hK _ _ (z5l hal) (KpP.of_below hal hI.1.1.size) ⟨hI.1.below hal,(hal.block D (z01 hI.2)).trans hI.2⟩ ⟨_,rfl,heap_alloc_new W2 _⟩
   case body2 =>
    rintro l pre x a' W2 _ _ ⟨hv,hDR⟩ ⟨k,rfl,hk⟩ hlt;have HSU:Hid (∀ W1,Below W2.heap.size W2 W1->SuAt w q (sumP s c0 pre) W1):=fun W1 hb1=>hv.below hb1
    have HPN:Hid (Calls Tryz.prog 20 #[.pointer q,idV x.1] W2 fun e w2=>e= .returned (.tuple #[.int .i64 (pend s x.1).1,uV (pend s x.1).2.1,.int .i64 (pend s x.1).2.2])/\Below W2.heap.size W2 w2):=z4k W2 q s x.1 x.2 ((HRD.out.below hv.1).up hv.1.size);have HA:Hid (∀ W1,Below W2.heap.size W2 W1->Calls Tryz.prog 79 #[uV (sumP s c0 pre),uV (pend s x.1).2.1] W1 fun e w2=>e= .returned (.tuple #[uV (sumW (sumP s c0 pre) (pend s x.1).2.1),.bool (sumB (sumP s c0 pre) (pend s x.1).2.1)])/\Below W2.heap.size W2 w2):=fun W1 hb1=>(zft _ _ (zp8 s HC0.out pre) (zam _ _) W1).mono fun e w2 ⟨he,hb2⟩=>⟨he,z09 hb1 hb2⟩
    have HN:Hid (sumP s c0 (pre ++ [x])=z9u s (sumP s c0 pre) x):=sumP_snoc _ _ _ _;have HKP:Hid (∀ W1,Below W2.heap.size W2 W1->KpP w.heap.size W2 W1):=fun W1 hb1=>KpP.of_below hb1 hv.1.size
    have HDB:Hid (∀ W1,Below W2.heap.size W2 W1->W1.heap[D]?=some (.deferred (some []))):=fun W1 hb1=>(hb1.block D (z01 hDR)).trans hDR
    have HEND:Hid (∀ w2,Below W2.heap.size W2 w2->SuAt w q (sumP s c0 pre) w2->(∀ B,KeepsFrom B W2 ((((w2.setCell ⟨w.heap.size+1+1,0,none⟩ (.int .u64 (sumW (sumP s c0 pre) (pend s x.1).2.1).1)).setCell ⟨w.heap.size+1+1,1,none⟩ (.int .u64 (sumW (sumP s c0 pre) (pend s x.1).2.1).2.1)).setCell ⟨w.heap.size+1+1,2,none⟩ (.int .u64 (sumW (sumP s c0 pre) (pend s x.1).2.1).2.2.1)).setCell ⟨w.heap.size+1+1,3,none⟩ (.int .u64 (sumW (sumP s c0 pre) (pend s x.1).2.1).2.2.2)))/\KpP w.heap.size W2 ((((w2.setCell ⟨w.heap.size+1+1,0,none⟩ (.int .u64 (sumW (sumP s c0 pre) (pend s x.1).2.1).1)).setCell ⟨w.heap.size+1+1,1,none⟩ (.int .u64 (sumW (sumP s c0 pre) (pend s x.1).2.1).2.1)).setCell ⟨w.heap.size+1+1,2,none⟩ (.int .u64 (sumW (sumP s c0 pre) (pend s x.1).2.1).2.2.1)).setCell ⟨w.heap.size+1+1,3,none⟩ (.int .u64 (sumW (sumP s c0 pre) (pend s x.1).2.1).2.2.2))/\SuAt w q (sumW (sumP s c0 pre) (pend s x.1).2.1) ((((w2.setCell ⟨w.heap.size+1+1,0,none⟩ (.int .u64 (sumW (sumP s c0 pre) (pend s x.1).2.1).1)).setCell ⟨w.heap.size+1+1,1,none⟩ (.int .u64 (sumW (sumP s c0 pre) (pend s x.1).2.1).2.1)).setCell ⟨w.heap.size+1+1,2,none⟩ (.int .u64 (sumW (sumP s c0 pre) (pend s x.1).2.1).2.2.1)).setCell ⟨w.heap.size+1+1,3,none⟩ (.int .u64 (sumW (sumP s c0 pre) (pend s x.1).2.1).2.2.2))/\(((((w2.setCell ⟨w.heap.size+1+1,0,none⟩ (.int .u64 (sumW (sumP s c0 pre) (pend s x.1).2.1).1)).setCell ⟨w.heap.size+1+1,1,none⟩ (.int .u64 (sumW (sumP s c0 pre) (pend s x.1).2.1).2.1)).setCell ⟨w.heap.size+1+1,2,none⟩ (.int .u64 (sumW (sumP s c0 pre) (pend s x.1).2.1).2.2.1)).setCell ⟨w.heap.size+1+1,3,none⟩ (.int .u64 (sumW (sumP s c0 pre) (pend s x.1).2.1).2.2.2))).heap[D]?=some (.deferred (some []))):=fun w2 hb2 hv2=>by
     refine⟨fun B=>(z5l hb2).trans (zeg hv2.2.2.2 _ _ _ _),(HKP.out w2 hb2).trans (KpP.put4 hv2.2.2.2 (by omega) _ _ _ _),hv2.put _,?_⟩;have hD2:=HDB.out w2 hb2;have hk:D≠w.heap.size+1+1:=fun e=>by
      subst e;rw[hv2.2.2.2]at hD2;cases hD2
     rw[Below.heap_setCell _ _ _ _ hk,Below.heap_setCell _ _ _ _ hk,Below.heap_setCell _ _ _ _ hk,Below.heap_setCell _ _ _ _ hk];exact hD2
    have hbW:=Below.refl W2.heap.size W2;obtain⟨u0,u1,u2,u3,_⟩:=row4 hv.2.2.2;have p0:W2.cell? ⟨w.heap.size,0,none⟩=some (.pointer q):=by rw[cell_of_row _ _ _ _ _ _ hv.2.1];rfl
    obtain⟨i0,i1,i2,i3⟩:=z0a hk;have HW1:Hid ((pend s x.1).1=1->z9u s (sumP s c0 pre) x=sumW (sumP s c0 pre) (pend s x.1).2.1):=fun h=>by unfold z9u;rw[if_pos h]
    have HW0:Hid ((pend s x.1).1≠1->z9u s (sumP s c0 pre) x=sumP s c0 pre):=fun h=>by unfold z9u;rw[if_neg h]
    generalize z9u s (sumP s c0 pre) x=sn at *
    generalize sumB (sumP s c0 pre) (pend s x.1).2.1=sb at *
    generalize sumW (sumP s c0 pre) (pend s x.1).2.1=sm at *
    generalize sumP s c0 pre=sp at *
    generalize (pend s x.1).2.2=bb at *
    generalize (pend s x.1).2.1=pa at *
    generalize (pend s x.1).1=wy at *
    clear hv hk HRD HSW HK1 hDR hlt hb1
    gi_upto_region 10 with(refine⟨trivial,?_⟩;gi_at_call 20;refine(CallsIn.inRound l (callsIn_wide.2 HPN.out)).mono ?_;rintro e w1 ⟨rfl,hb1⟩)
    have hb2:Below W2.heap.size W2 (w1.alloc (uO pa)):=z00 hb1 _;have hr11:=heap_alloc_new w1 (uO pa);generalize w1.alloc (uO pa)=w2 at *
    generalize w1.heap.size=g11 at *
    clear u0 u1 u2 u3 p0 i0 i1 i2 i3 hb1 HPN
    by_cases hw:wy=1
    ·have hc1:((wy:Int)==1)=true:=by simp[hw]
     have hc2:(wy==1)=true:=by simp[hw]
     have HE:Hid (sumP s c0 (pre ++ [x])=sm):=by rw[HN.out];exact zh (HW1.out hw)
     obtain⟨u0,u1,u2,u3,_⟩:=row4 (HSU.out w2 hb2).2.2.2;obtain⟨v0,v1,v2,v3,_⟩:=row4 hr11;clear HW1 HW0 HN hw
     gi_wp2_with (refine⟨trivial,?_⟩;gi_at_call 79;refine(CallsIn.inRound l (callsIn_wide.2 (HA.out _ hb2))).mono ?_;rintro e w3 ⟨rfl,hb3⟩;have hv3:=HSU.out w3 hb3;obtain⟨x0,x1,x2,x3,_⟩:=row4 hv3.2.2.2;have HV3:=zh hv3;clear hv3)
     all_goals
      obtain⟨f1,f2,f3,f4⟩:=HEND.out w3 hb3 HV3.out;exact⟨f1 _,f2,by rw[HE.out];exact f3,f4⟩
    ·have hc1:((wy:Int)==1)=false:=by simpa using (by omega:¬ (wy:Int)=1)
     have hc2:(wy==1)=false:=by simpa using hw
     have HE:Hid (sumP s c0 (pre ++ [x])=sp):=by rw[HN.out];exact zh (HW0.out hw)
     clear HW1 HW0 HN hw
     gi_wp2
     exact⟨z5l hb2,HKP.out w2 hb2,by rw[HE.out];exact HSU.out w2 hb2,HDB.out w2 hb2⟩
   case done2 =>
    rintro D2 ys W2 hD2 hys ⟨hI,hKD⟩ hK2;subst hys;have hre:=HR.out;generalize sumP s c0 (idE 30 a b s)=sF at *
    obtain⟨_,_,_,_,_⟩:=row4 hI.2.2.2;obtain⟨_,_,_,_,_,_,_,_⟩:=row4 (x:=(0,0,0,0)) hI.2.2.1;simp only[World.size_alloc]at hD hD2;have HB3:=zh (z0b hI.1 (Nat.le_succ w.heap.size) (.int .u64 sF.1) (.int .u64 sF.2.1) (.int .u64 sF.2.2.1) (.int .u64 sF.2.2.2));have hoth:∀ j,j≠w.heap.size+1->(((((W2.setCell ⟨w.heap.size+1,0,none⟩ (.int .u64 sF.1)).setCell ⟨w.heap.size+1,1,none⟩ (.int .u64 sF.2.1)).setCell ⟨w.heap.size+1,2,none⟩ (.int .u64 sF.2.2.1)).setCell ⟨w.heap.size+1,3,none⟩ (.int .u64 sF.2.2.2))).heap[j]?=W2.heap[j]?:=fun j hj=>by
     rw[Below.heap_setCell _ _ _ _ hj,Below.heap_setCell _ _ _ _ hj,Below.heap_setCell _ _ _ _ hj,Below.heap_setCell _ _ _ _ hj]
    have HK3:=zh ((hoth D2 (by omega)).trans hK2);have HK4:=zh ((hoth D (by omega)).trans hKD);have HR3:Hid ((((((W2.setCell ⟨w.heap.size+1,0,none⟩ (.int .u64 sF.1)).setCell ⟨w.heap.size+1,1,none⟩ (.int .u64 sF.2.1)).setCell ⟨w.heap.size+1,2,none⟩ (.int .u64 sF.2.2.1)).setCell ⟨w.heap.size+1,3,none⟩ (.int .u64 sF.2.2.2))).heap[w.heap.size+1]?=some (uO sF)):=put4 (show W2.heap[w.heap.size+1]?=some (.cells (uL (0,0,0,0)) 24 (0,0))from hI.2.2.1) sF;clear hoth hK2 hKD hI
    gi_wp2
    generalize ((((W2.setCell ⟨w.heap.size+1,0,none⟩ (.int .u64 sF.1)).setCell ⟨w.heap.size+1,1,none⟩ (.int .u64 sF.2.1)).setCell ⟨w.heap.size+1,2,none⟩ (.int .u64 sF.2.2.1)).setCell ⟨w.heap.size+1,3,none⟩ (.int .u64 sF.2.2.2))=W3 at *
    have hK5:(W3.putObj D2 (.deferred none)).heap[D]?=some (.deferred (some [])):=(World.putObj_heap_other (by omega)).trans HK4.out;refine⟨by simp,.inl ⟨_,_,rfl,run_takeDeferred HK3.out,?_⟩⟩;refine⟨by simp,.inl ⟨_,_,rfl,run_takeDeferred hK5,?_⟩⟩;refine⟨_,results_cell_row rfl _ _ (w.heap.size+1) 24 (uL sF) (0,0) _ rfl ?_ Tryz.underlying24 rfl (by kernel_rfl),by first | rfl | rw[hre],?_⟩
    ·rw[World.putObj_heap_other (by omega),World.putObj_heap_other (by omega)];exact HR3.out
    ·exact(HB3.out.trans (belowK_b (w:=w) (Nat.le_refl _) W3 D2 _ _ (by omega) HK3.out rfl rfl)).trans (belowK_b (w:=w) (Nat.le_refl _) _ D _ _ (by omega) hK5 rfl rfl)
end Go.Proofs.YtnkilceibkkjlaaGreat
