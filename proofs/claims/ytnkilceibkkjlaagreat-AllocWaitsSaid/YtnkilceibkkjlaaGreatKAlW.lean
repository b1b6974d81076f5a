/- What is proved here: due.Add, at any block of any store b -/
import Derived.Test.YtnkilceibkkjlaaGreatKDueD
set_option maxRecDepth 100000
set_option maxHeartbeats 16000000
namespace Go.Proofs.YtnkilceibkkjlaaGreat
open Go.RowKit Go.Shelf
attribute [local go_sem] Oper.semAt_some
def dueF:List (Int × Int)->Int
 | l=>l.foldl (fun n y=>max n (wrap64 (y.2+1))) 0
theorem zoa(l:List (Int × Int))(y:Int × Int):dueF (l ++ [y])=max (dueF l) (wrap64 (y.2+1)):=by
 unfold dueF;rw[List.foldl_append];rfl
theorem zio(l:List (Int × Int)):0<=dueF l/\dueF l<9223372036854775808:=by
 unfold dueF
 suffices h:∀ (l:List (Int × Int)) (n:Int),0<=n/\n<9223372036854775808->0<=l.foldl (fun n y=>max n (wrap64 (y.2+1))) n/\l.foldl (fun n y=>max n (wrap64 (y.2+1))) n<9223372036854775808 from h l 0 (by decide)
 intro l
 induction l with
 | nil=>exact fun n h=>h
 | cons y l ih =>
  intro n h;refine ih _ ?_;show 0<=max n (wrap64 (y.2+1))/\max n (wrap64 (y.2+1))<9223372036854775808
  have h1:wrap64 (y.2+1)<9223372036854775808:=by unfold wrap64;omega
  omega
def dueN(s:St)(bl:Nat):Int:=dueF (dueE (keyL 26 [(bl:Int)]) s)
def z1z(s:St)(bl:Nat)(l:List Int):St:=s.put (keyL 26 [(bl:Int),dueN s bl]) (rowB l)
def z4u(s:St)(bl:Nat)(l:List Int):St:=(z1z s bl l).z2r K27 ((((z1z s bl l).int K27:Nat):Int)+1)
theorem zlw{β:Type}{B b t:Nat}{f:β->Value}:OwnFrom B (fun (s:β) (W:World)=>Boxed W b t (f s)):=fun s W W' row hs hg hr=>by
 refine(hg.block b hs.lt fun e => ?_).trans hs
 obtain⟨_,o,ho,hc⟩:=hr b e.symm
 rw[show W.heap[b]?=some (.cells #[f s] t (0,0))from hs]at ho
 cases ho
 cases hc
theorem KpR.zyp{n₀:Nat}{W:World}{b:Nat}{v v':Value}(hb:Boxed W b 3 v)(hn:n₀<=b):KpR n₀ W (W.setCell ⟨b,0,none⟩ v'):=by
 refine⟨(Below.refl _ W).setCell hn _,fun k cs t f hk h1 h2 => ?_⟩;refine Below.heap_setCell _ _ _ _ fun e => ?_
 subst e;rw[show W.heap[k]?=some (.cells #[v] 3 (0,0))from hb]at hk
 cases hk;exact h1 rfl
theorem zi2{B:Nat}{W:World}{b t:Nat}{v v':Value}(hb:Boxed W b t v):KeepsFrom B W (W.setCell ⟨b,0,none⟩ v'):=by
 refine⟨by simp,fun k o _ hk hc => ?_⟩;rw[Below.heap_setCell _ _ _ _ fun e => ?_]
 ·exact hk
 ·subst e;rw[show W.heap[k]?=some (.cells #[v] t (0,0))from hb]at hk
  cases hk;cases hc
def zil(q:Option Addr)(bl:Nat)(g c:Nat)(l:List Int)(n m:Int)(R:World->Prop)(W:World):Prop:=
 Calls Tryz.prog 235 #[.agg #[.int .i64 bl,.int .i64 n]] W fun e w1=>e= .returned (.string (keyL 26 [(bl:Int),n])) /\
 Calls Tryz.prog 107 #[.pointer q,.string (keyL 26 [(bl:Int),n]),.slice (some ⟨g,0,none⟩) l.length c] w1 fun e w2=>e= .returned (.tuple #[]) /\
 Calls Tryz.prog 90 #[.int .i64 27,.slice none 0 0] w2 fun e w3=>e= .returned (.string K27) /\
 Calls Tryz.prog 33 #[.pointer q] w3 fun e w4=>e= .returned (.int .i64 m) /\
 Calls Tryz.prog 114 #[.pointer q,.string K27,.int .i64 (m+1)] w4 fun e w5=>e= .returned (.tuple #[])/\R w5
theorem zsw{w:World}{h:Hand}{s:St}{f bl g c:Nat}{l:List Int}(hon:h.on=true)(hq:QSt w h s)(hf:s.Fit f)(hm:f<1000000000)(hbl:bl<=1099511627776)(hl0:0<l.length)(hl:l.length<100000)(hp:∀ n∈l,0<=n/\n<9223372036854775808)(hg:zce w g l)(hgn:g∉h.L)(h27:(z1z s bl l).int K27<1000000000000)
  {W:World} (hW:Below w.heap.size w W) {D:Nat} (hD:w.heap.size<=D) (hK:W.heap[D]?=some (.deferred (some []))) :
  zil h.ptr bl g c l (dueN s bl) (((z1z s bl l).int K27:Nat):Int) (fun w5=>w5.heap[D]?=some (.deferred (some []))/\QOn w h (z4u s bl l) (w5.putObj D (.deferred none))) W:=by
 have hN:=zio (dueE (keyL 26 [(bl:Int)]) s);have hz:s.size<1000000000000:=Nat.lt_of_le_of_lt hf.size (by omega);have hf1:(z1z s bl l).Fit (f+2):=hf.put _ (z15 l (by omega));have hz1:(z1z s bl l).size<1000000000000:=Nat.lt_of_le_of_lt hf1.size (by omega)
 have hV0:HV h w s [(D,.deferred (some []))] W:=⟨zo3 _ _,⟨h.L,hq.below hW,⟨Fr.of_below hW _,fun _ h => .inl h⟩,fun g' o hm' hk=>by
  rw[List.mem_singleton]at hm';cases hm'
  have:=hq.lt D hk;omega⟩,fun g' o hm'=>by
  rw[List.mem_singleton]at hm';cases hm';exact⟨hD,hK⟩⟩
 refine(hV0.reads (f:=235) (args:=#[.agg #[.int .i64 bl,.int .i64 (dueN s bl)]]) fun L' h1=>zou bl (dueN s bl) (by omega) hN.2 W).mono fun e w1 ⟨he,hV1⟩=>⟨he,?_⟩
 refine(QV.call (f:=107) (args:=#[.pointer h.ptr,.string (keyL 26 [(bl:Int),dueN s bl]),.slice (some ⟨g,0,none⟩) l.length c]) hV1 fun L' h1=>zbz w1 ⟨h.ptr,h.on,L'⟩ s _ _ l hon h1 hz ((HV.lie hV1 hg hgn).ints c) (by omega) (by intro e;rw[e]at hl0;exact absurd hl0 (by decide)) hp).mono fun e w2 ⟨he,hV2⟩=>⟨he,?_⟩
 refine(HV.reads (f:=90) (args:=#[.int .i64 27,.slice none 0 0]) hV2 fun L' h1=>zk8 27 (by decide) (by decide) w2).mono fun e w3 ⟨he,hV3⟩=>⟨he,?_⟩
 refine(HV.reads (f:=33) (args:=#[.pointer h.ptr]) hV3 fun L' h1=>zr6 w3 h.ptr _ (h1.read hf1 (by omega))).mono fun e w4 ⟨he,hV4⟩=>⟨he,?_⟩
 refine(QV.call (f:=114) (args:=#[.pointer h.ptr,.string K27,.int .i64 ((((z1z s bl l).int K27:Nat):Int)+1)]) hV4 fun L' h1=>znp w4 ⟨h.ptr,h.on,L'⟩ _ _ _ hon (by omega) h1 hz1).mono fun e w5 ⟨he,hV5⟩=>⟨he,hV5.row (by simp),?_⟩
 have hV5':HV h w (z4u s bl l) [(D,.deferred (some []))] w5:=hV5;have hlt:=z02 (hV5'.row (g:=D) (o:=.deferred (some [])) (by simp));exact HV.done (QV.turn hV5' (o':=.deferred none) (List.mem_singleton.2 rfl) (World.putObj_heap_same hlt) (by simp) (fun k hk=>World.putObj_heap_other hk) ⟨rfl,rfl,rfl⟩ [] (by simp))
theorem zof(a b:Int)(c:Nat->Prop):Go.Own (fun (_:Unit) W=>∃ k,c k/\W.heap[k]?=some (plO a b)):=fun _ X Y row ⟨k,hc,hs⟩ hg hrow=>by
 refine⟨k,hc,?_⟩
 rw[hg.block k (Array.getElem?_eq_some_iff.1 hs).1 (fun e => ?_)]
 ·exact hs
 ·obtain⟨o,ho,hf⟩:=hrow k e.symm
  rw[hs]at ho;cases ho;cases hf
theorem zq8(Bs Bp n₀:Nat)(q:Option Addr)(p:ByteArray)(s:St)(w:World)
  (hlen:s.ents.length<1000000000000) (hkey:∀ x∈s.ents,x.1.size<1000000000000) (hval:∀ x∈s.ents,x.2.size<1000000000000) (hS:z1c n₀ w q s) (hn:n₀<=w.heap.size) (hBs:Boxed w Bs 39 (.pointer q)) (hBp:Boxed w Bp 9 (.string p)) :
  SeqStopsK Fence.wide 4 Tryz.prog 254 #[.pointer (some ⟨Bs,0,none⟩),.pointer (some ⟨Bp,0,none⟩)] (fun x:DuR=>#[Value.agg #[.int .i64 x.1.1,.int .i64 x.1.2],x.2]) (KpR n₀) (fun ys=>ys.map Prod.fst=dueE p s) (fun _=>True) 1000000000000 w:=fun l J Jx W hb hJ _ hY h0 =>
 zth l Bs Bp n₀ q p s J Jx W hJ hlen hkey hval hY (hS.below (hb.mono hn)) (Nat.le_trans hn hb.size) ((hb.block Bs hBs.lt).trans hBs) ((hb.block Bp hBp.lt).trans hBp) h0
theorem zrm(w:World)(h:Hand)(s:St)(f bl g c:Nat)(l:List Int)(hon:h.on=true)(hq:QSt w h s)(hf:s.Fit f)(hm:f<1000000000)(hkey:∀ x∈s.ents,x.1.size<1000000000000)(hbl:bl<=1099511627776)(hl0:0<l.length)(hl:l.length<100000)(hp:∀ n∈l,0<=n/\n<9223372036854775808)(hg:zce w g l)(hgn:g∉h.L)(h27:(z1z s bl l).int K27<1000000000000) :
    Calls Tryz.prog 204 #[.pointer h.ptr,.int .i64 bl,.slice (some ⟨g,0,none⟩) l.length c] w fun e w'=>e= .returned (.int .i64 0)/\QOn w h (z4u s bl l) w':=by
  have hlen:s.ents.length<1000000000000:=by have:=hf.size;unfold St.size at this;omega
  have hval:∀ x∈s.ents,x.2.size<1000000000000:=fun x hx=>Nat.lt_of_le_of_lt (hf.vals x hx) (by decide)
  have HM:Hid (Calls Tryz.prog 66 #[.pointer h.ptr] w fun e w'=>e= .returned (.bool true)/\w=w'):=by
    rcases hq with⟨_,b,hp,hS⟩ | ⟨h0,_⟩
    · rw[hp];exact zfe w b true hS.cell0
    · rw[hon]at h0;cases h0
  have HG:=zh (zi5 w g c l hl0 (by omega) hg (fun n hn=>(hp n hn).1));have HK:Hid (∀ w1,Below w.heap.size w w1->Calls Tryz.prog 90 #[.int .i64 26,.slice (some ⟨w1.heap.size,0,none⟩) 1 1] (w1.alloc (.cells #[.int .i64 bl] 3)) fun e w2=>e= .returned (.string (keyL 26 [(bl:Int)]))/\Below w1.heap.size w1 w2):=fun w1 _ =>
    (z5g 26 (by decide) (by decide) _ [(bl:Int)] _ (zri w1 bl) (by simp) (fun m hm=>by rw[List.mem_singleton.1 hm];omega)).mono fun e w2 ⟨he,hb⟩=>⟨he,z0b (z00 (Below.refl _ w1) _) hb⟩
  have HST:Hid (∀ w1,Below w.heap.size w w1->SeqStopsK Fence.wide 4 Tryz.prog 254 #[.pointer (some ⟨w1.heap.size,0,none⟩),.pointer (some ⟨w1.heap.size+1,0,none⟩)] (fun x:DuR=>#[Value.agg #[.int .i64 x.1.1,.int .i64 x.1.2],x.2]) (KpR w.heap.size) (fun ys=>ys.map Prod.fst=dueE (keyL 26 [(bl:Int)]) s) (fun _=>True) 1000000000000
      ((w1.alloc (.cells #[.pointer h.ptr] 39)).alloc (.cells #[.string (keyL 26 [(bl:Int)])] 9))):=fun w1 hb=>by
    have bS:=Boxed.new w1 39 (.pointer h.ptr);have bP:=Boxed.new (w1.alloc (.cells #[.pointer h.ptr] 39)) 9 (.string (keyL 26 [(bl:Int)]));rw[World.size_alloc]at bP;have hb2:Below w.heap.size w ((w1.alloc (.cells #[.pointer h.ptr] 39)).alloc (.cells #[.string (keyL 26 [(bl:Int)])] 9)):=z00 (z00 hb _) _;exact zq8 _ _ w.heap.size h.ptr _ s _ hlen hkey hval ((hq.read hf (by omega)).below hb2) hb2.size (bS.alloc _) bP
  have HE:Hid (∀ W D,Below w.heap.size w W->w.heap.size<=D->W.heap[D]?=some (.deferred (some []))->zil h.ptr bl g c l (dueN s bl) (((z1z s bl l).int K27:Nat):Int) (fun w5=>w5.heap[D]?=some (.deferred (some []))/\QOn w h (z4u s bl l) (w5.putObj D (.deferred none))) W):=fun W D hW hD hK=>zsw hon hq hf hm hbl hl0 hl hp hg hgn h27 hW hD hK
  have HN:Hid (dueN s bl=dueF (dueE (keyL 26 [(bl:Int)]) s)):=rfl;have hd1:decide ((bl:Int)<0)=false:=decide_eq_false (by omega);have hd2:decide ((1099511627776:Int)<(bl:Int))=false:=decide_eq_false (by omega);unfold zil at HE;clear hq hf hp hg hgn hlen hkey hval;generalize z4u s bl l=s2 at *
  generalize (z1z s bl l).int K27=m27 at *
  generalize dueN s bl=nn at *
  generalize dueE (keyL 26 [(bl:Int)]) s=ES at *
  generalize keyL 26 [(bl:Int)]=kp at *
  generalize keyL 26 [(bl:Int),nn]=kk at *
  generalize K27=k27 at *
  generalize l.length=ml at *
  generalize h.ptr=q at *
  refine(callsIn_wide (n:=5)).1 ?_;refine callsIn_of_wp_marks Tryz.func204 rfl trivial ?_ rfl;simp only[Tryz.ntmps204,List.size_toArray,List.length_cons,List.length_nil,Nat.reduceAdd,Nat.reduceSub,Array.replicate_succ,Array.replicate_zero,List.push_toArray,List.append_toArray,List.nil_append,List.cons_append];have hb0:=z00 (Below.refl _ w) (.cells #[.int .i64 0] 3);have HK1:Hid (Calls Tryz.prog 90 #[.int .i64 26,.slice (some ⟨w.heap.size+1,0,none⟩) 1 1] ((w.alloc (.cells #[.int .i64 0] 3)).alloc (.cells #[.int .i64 bl] 3)) fun e w2=>e= .returned (.string kp)/\Below (w.alloc (.cells #[.int .i64 0] 3)).heap.size (w.alloc (.cells #[.int .i64 0] 3)) w2):=by
    have h1:=HK.out _ hb0;rw[show(w.alloc (.cells #[.int .i64 0] 3)).heap.size=w.heap.size+1 from World.size_alloc ..]at h1 ⊢
    exact h1
  have bN:=Boxed.new w 3 (.int .i64 0)
  gi_wp2_with (first
    | (refine⟨trivial,?_⟩;gi_at_call 66;refine(callsIn_wide.2 HM.out).mono ?_;rintro e w' ⟨rfl,rfl⟩)
    | (refine⟨trivial,?_⟩;gi_at_call 205;refine(callsIn_wide.2 HG.out).mono ?_;rintro e w' ⟨rfl,rfl⟩)
    | (refine⟨trivial,?_⟩;gi_at_call 90;refine(callsIn_wide.2 HK1.out).mono ?_;rintro e w0 ⟨rfl,hb1⟩)
    | (refine⟨trivial,?_⟩;gi_at_call 234;refine(callsIn_wide.2 (zr9 q kp w0)).mono ?_;rintro e w' ⟨rfl,rfl⟩))
  have hb2:=z0b hb0 hb1;have bN0:Boxed w0 w.heap.size 3 (.int .i64 0):=(hb1.block _ (by simp)).trans bN;have hs0:=hb2.size;have hBB:Below w.heap.size w ((w0.alloc (.cells #[.pointer q] 39)).alloc (.cells #[.string kp] 9)):=z00 (z00 hb2 _) _;refine wpIn_rangeFunc_ownH rfl (by decide) (gf:=254) (lb:=#[.pointer (some ⟨w0.heap.size,0,none⟩),.pointer (some ⟨w0.heap.size+1,0,none⟩)]) rfl trivial (enters_of Tryz.func254 (by kernel_rfl) rfl)
    (HST.out w0 hb2) KpR.trans (KpR.turn (by simp;omega)) zb (fun _=>rfl)
    (fun pre W=>Boxed W w.heap.size 3 (.int .i64 (dueF (pre.map Prod.fst)))/\Below w.heap.size w W) (fun _ _ _=>False)
    (OwnFrom.and zlw (ownFrom_below (Nat.le_refl _) (by simp;omega))) (fun _ _ _ _ _ hs _ _=>hs)
    ⟨(bN0.alloc _).alloc _,hBB⟩
    (fun x a' W=>∃ k,a' = { tmps:=#[.pointer q,.int .i64 bl,.slice (some ⟨g,0,none⟩) ml c,undef,undef,undef,.int .i64 0,.pointer (some ⟨w.heap.size,0,none⟩),.pointer (some ⟨k,0,none⟩),undef,.bool false,.pointer q,.bool true,.bool false,.bool false,.int .i64 bl,.bool false,.bool false,.int .i64 bl,.bool false,.bool false,.bool false,.slice (some ⟨g,0,none⟩) ml c,.bool true,.bool false,.bool false,.pointer q,.int .i64 bl,.slice (some ⟨w.heap.size+1,0,none⟩) 1 1,.string kp,.func (.func 254) #[] #[.pointer (some ⟨w0.heap.size,0,none⟩),.pointer (some ⟨w0.heap.size+1,0,none⟩)],.agg #[.int .i64 x.1.1,.int .i64 x.1.2],x.2,undef,undef,undef,undef,undef,undef,undef,undef,undef,undef,undef,undef,undef,undef,undef,undef,undef,undef,undef],defers:=[] }/\W.heap[k]?=some (plO x.1.1 x.1.2))
    (fun x a'=>(zof _ _ _).from _) ?assign ?body ?done ?stop
  case stop=>rintro D c pre W _ _ h _;exact h.elim
  case assign =>
    intro l pre x W K hI hK
    gi_wp2
    have hal:=(Below.refl W.heap.size W).alloc (Nat.le_refl _) (plO x.1.1 x.1.2);exact hK _ _ ⟨by simp,fun k o _ hk _=>(Below.heap_alloc W _ k (Array.getElem?_eq_some_iff.1 hk).1).trans hk⟩ (KpR.of_below hal hI.2.size) ⟨hI.1.alloc _,hI.2.trans (hal.mono hI.2.size)⟩ ⟨_,rfl,heap_alloc_new W _⟩
  case body =>
    rintro l pre x a' W _ _ ⟨hv,hB⟩ ⟨k,rfl,hk⟩ hlt;have hc:=hv.cell;have hfz:=hv.frozen;have hk1:W.cell? ⟨k,1,none⟩=some (.int .i64 x.1.2):=by rw[cell_of_row _ _ _ _ _ _ hk];rfl
    have HS:=zh (And.intro trivial (And.intro (KpR.zyp (v':=.int .i64 (dueF ((pre ++ [x]).map Prod.fst))) hv (Nat.le_refl _)) (And.intro (Boxed.set (.int .i64 (dueF ((pre ++ [x]).map Prod.fst))) hv) (hB.setCell (p:=⟨w.heap.size,0,none⟩) (Nat.le_refl _) (.int .i64 (dueF ((pre ++ [x]).map Prod.fst)))))));have HD:Hid (dueF ((pre ++ [x]).map Prod.fst)=max (dueF (pre.map Prod.fst)) (wrap64 (x.1.2+1))):=by rw[List.map_append];exact zoa _ _
    obtain⟨d2,hd2'⟩:∃ d,d=dueF ((pre ++ [x]).map Prod.fst):=⟨_,rfl⟩;rw[<- hd2']at HS HD;have HD2:=zh hd2';clear hd2';generalize dueF (pre.map Prod.fst)=d1 at *
    have HV0:=zh hv;clear hk hv hB HST HE HK HG HM HK1
    gi_wp2
    all_goals
      first
      | (have e1:wrap64 (x.1.2+1)=d2:=by rw[HD.out];omega
         rw[e1])
      | (have e1:d1=d2:=by rw[HD.out];omega
         rw[e1])
      exact⟨zi2 HV0.out,HS.out.2.1,by rw[<- HD2.out];exact HS.out.2.2.1,HS.out.2.2.2⟩
  case done =>
    rintro D ys W hD hys ⟨hv,hB⟩ hK;have hv2:Boxed W w.heap.size 3 (.int .i64 nn):=by rw[HN.out,<- hys];exact hv
    have hNc:=hv2.cell;have hD':w.heap.size<=D:=by simp only[World.size_alloc]at hD;omega
    have HQ:=zh (HE.out W D hB hD' hK);clear hK HE HST HK HM HG bN bN0 hv hv2 hys HN HK1
    gi_wp2_with (first
      | (refine⟨trivial,?_⟩;gi_at_call 235;refine(callsIn_wide.2 HQ.out).mono ?_;rintro e w1 ⟨rfl,hQ1⟩;have HQ1:=zh hQ1;clear hQ1)
      | (refine⟨trivial,?_⟩;gi_at_call 107;refine(callsIn_wide.2 HQ1.out).mono ?_;rintro e w2 ⟨rfl,hQ2⟩;have HQ2:=zh hQ2;clear hQ2)
      | (refine⟨trivial,?_⟩;gi_at_call 90;refine(callsIn_wide.2 HQ2.out).mono ?_;rintro e w3 ⟨rfl,hQ3⟩;have HQ3:=zh hQ3;clear hQ3)
      | (refine⟨trivial,?_⟩;gi_at_call 33;refine(callsIn_wide.2 HQ3.out).mono ?_;rintro e w4 ⟨rfl,hQ4⟩;have HQ4:=zh hQ4;clear hQ4)
      | (refine⟨trivial,?_⟩;gi_at_call 114;refine(callsIn_wide.2 HQ4.out).mono ?_;rintro e w5 ⟨rfl,hK5,hR⟩))
    refine⟨by simp,.inl ⟨_,_,rfl,run_takeDeferred hK5,?_⟩⟩;exact⟨_,results_tmp (t:=6) rfl _ _ _,rfl,hR⟩
theorem zmj(w:World)(h:Hand)(s:St)(bl:Nat)(v:Value)(hon:h.on=true)(hq:QSt w h s)(hbl:1099511627776<bl) :
  Calls Tryz.prog 204 #[.pointer h.ptr,.int .i64 bl,v] w fun e w'=>e= .returned (.int .i64 2)/\w=w':=by
 have HM:Hid (Calls Tryz.prog 66 #[.pointer h.ptr] w fun e w'=>e= .returned (.bool true)/\w=w'):=by
  rcases hq with⟨_,b,hp,hS⟩ | ⟨h0,_⟩
  ·rw[hp];exact zfe w b true hS.cell0
  ·rw[hon]at h0;cases h0
 have hd1:decide ((bl:Int)<0)=false:=decide_eq_false (by omega);have hd2:decide ((1099511627776:Int)<(bl:Int))=true:=decide_eq_true (by omega);clear hq hbl;generalize h.ptr=q at *
 refine(callsIn_wide (n:=5)).1 ?_;refine callsIn_of_wp_marks Tryz.func204 rfl trivial ?_ rfl;simp only[Tryz.ntmps204,List.size_toArray,List.length_cons,List.length_nil,Nat.reduceAdd,Nat.reduceSub,Array.replicate_succ,Array.replicate_zero,List.push_toArray,List.append_toArray,List.nil_append,List.cons_append]
 gi_wp2_with (first
  | (refine⟨trivial,?_⟩;gi_at_call 66;refine(callsIn_wide.2 HM.out).mono ?_;rintro e w' ⟨rfl,rfl⟩))
 refine⟨trivial,?_⟩
 gi_wp2
 exact⟨_,results_tmp (t:=6) rfl _ _ _,rfl,rfl⟩
def z0t(s:St)(x:I4)(way:Nat)(a:W4)(bl:Nat):St:=(s.put (aKey 30 x) (rowB [(way:Int),(bl:Int)])).z09 (aKey 31 x) a
def z3h(bl:Nat):Int:=if bl<=1099511627776 then 0 else 2
def z19(s:St)(x:I4)(way:Nat)(a:W4)(bl:Nat):St:=if bl<=1099511627776 then z4u (z0t s x way a bl) bl x.l else z0t s x way a bl
theorem zqz{w w':World}{b:Nat}{L:List Nat}{s:St}(h:QOn w ⟨some ⟨b,0,none⟩,true,L⟩ s w'):∃ L',SRep w' b s L'/\Step w L w' L':=by
 obtain⟨L',hq,st⟩:=h;rcases hq with⟨_,b',hp,hS⟩ | ⟨h0,_⟩
 ·cases hp;exact⟨L',hS,st⟩
 ·cases h0
theorem zt5(w:World)(b:Nat)(s:St)(L:List Nat)(f way bl:Nat)(x:I4)(a:W4)(hx:∀ n∈x.l,0<=n/\n<9223372036854775808)(h:SRep w b s L)(hf:s.Fit f)(hm:f<100000000)(hw:way<10)(hbl:bl<=2199023255552)
  (hkey:∀ y∈(z0t s x way a bl).ents,y.1.size<1000000000000) (h27:(z1z (z0t s x way a bl) bl x.l).int K27<1000000000000) :
  Calls Tryz.prog 143 #[idV x,.pointer (some ⟨b,0,none⟩),.int .i64 way,uV a,.int .i64 bl] w (z2m w b L (.int .i64 (z3h bl)) (z19 s x way a bl)):=by
 have hxo:x.Ok:=fun n hn=>(hx n hn).2
 have hf1:(s.put (aKey 30 x) (rowB [(way:Int),(bl:Int)])).Fit (f+2):=hf.put _ (z15 _ (by simp));have hf2:=hf1.z09 (aKey 31 x) a;have hz:s.size<1000000000000:=Nat.lt_of_le_of_lt hf.size (by omega);have hz1:(s.put (aKey 30 x) (rowB [(way:Int),(bl:Int)])).size<1000000000000:=Nat.lt_of_le_of_lt hf1.size (by omega);have hb0:=z00 (z00 (Below.refl _ w) (.cells (idL x) 34)) (.cells (uL a) 24);have hS1:=h.below hb0;have hlt:=h.lt;have hrA:((w.alloc (.cells (idL x) 34)).alloc (.cells (uL a) 24)).heap[w.heap.size]?=some (.cells (idL x) 34 (0,0)):=by
  rw[heap_alloc_old _ _ (by simp)];exact heap_alloc_new w (.cells (idL x) 34)
 have hrB:=heap_alloc_new (w.alloc (.cells (idL x) 34)) (.cells (uL a) 24);rw[World.size_alloc]at hrB;have hsz:((w.alloc (.cells (idL x) 34)).alloc (.cells (uL a) 24)).heap.size=w.heap.size+2:=by simp
 have HB:=zh hb0;generalize hw1:(w.alloc (.cells (idL x) 34)).alloc (.cells (uL a) 24)=w1 at *
 have HF:Hid (∀ s' W,On w1 b L s' W->IdC w.heap.size x W/\Cel4 (w.heap.size+1) a W):=fun s' W hO=>by
  have n1:w.heap.size∉L:=fun hm=>absurd (hlt _ hm) (by omega)
  have n2:w.heap.size+1∉L:=fun hm=>absurd (hlt _ hm) (by omega)
  exact⟨z0g ((hO.heap (by omega) n1).trans hrA),z1t ((hO.heap (by omega) n2).trans hrB)⟩
 have H0:=zh (On.start (w:=w1) hS1);have HK:Hid (∀ (t:Nat) s' W,1<=t->t<=255->On w1 b L s' W->Calls Tryz.prog 65 #[idV x,.int .i64 t] W fun e W'=>e= .returned (.string (aKey t x))/\On w1 b L s' W'):=fun t s' W h1 h2 hO=>(z5v t h1 h2 x hxo W).mono fun e W' ⟨he,hb⟩=>⟨he,hO.below hb⟩
 have HK30:Hid (Calls Tryz.prog 65 #[idV x,.int .i64 30] w1 fun e W'=>e= .returned (.string (aKey 30 x))/\On w1 b L s W'):=HK.out 30 s w1 (by decide) (by decide) H0.out;have HK31:Hid (∀ s' W,On w1 b L s' W->Calls Tryz.prog 65 #[idV x,.int .i64 31] W fun e W'=>e= .returned (.string (aKey 31 x))/\On w1 b L s' W'):=fun s' W hO=>HK.out 31 s' W (by decide) (by decide) hO
 have HSR:Hid (∀ W,On w1 b L s W->Calls Tryz.prog 107 #[.pointer (some ⟨b,0,none⟩),.string (aKey 30 x),.slice (some ⟨W.heap.size,0,none⟩) 2 2] (W.alloc (.cells #[.int .i64 way,.int .i64 bl] 3)) fun e W'=>e= .returned (.tuple #[])/\On w1 b L (s.put (aKey 30 x) (rowB [(way:Int),(bl:Int)])) W'):=fun W hO =>
  (hO.alloc _).call fun L' hS=>zex _ b s L' _ _ [(way:Int),(bl:Int)] hS hz (z2u _ _ _ _ (heap_alloc_new W (.cells #[.int .i64 way,.int .i64 bl] 3))) (by simp) (by simp) (fun m hm=>by
   simp only[List.mem_cons,List.not_mem_nil,or_false]at hm
   rcases hm with rfl | rfl<;>omega)
 have HSA:Hid (∀ W,On w1 b L (s.put (aKey 30 x) (rowB [(way:Int),(bl:Int)])) W->Calls Tryz.prog 81 #[.pointer (some ⟨b,0,none⟩),.string (aKey 31 x),uV a] W fun e W'=>e= .returned (.tuple #[])/\On w1 b L ((s.put (aKey 30 x) (rowB [(way:Int),(bl:Int)])).z09 (aKey 31 x) a) W'):=fun W hO =>
  hO.call fun L' hS=>zf2 W b _ L' _ a hS hz1
 have HDA:Hid (∀ W,On w1 b L ((s.put (aKey 30 x) (rowB [(way:Int),(bl:Int)])).z09 (aKey 31 x) a) W->Calls Tryz.prog 204 #[.pointer (some ⟨b,0,none⟩),.int .i64 bl,.slice (some ⟨W.heap.size,0,none⟩) 4 4] (W.alloc (.cells (idL x) 3)) fun e W'=>e= .returned (.int .i64 (z3h bl))/\On w1 b L (z19 s x way a bl) W'):=fun W hO =>
by
  obtain⟨L0,hS0,st0⟩:=hO
  have hba:=z00 (Below.refl W.heap.size W) (.cells (idL x) 3)
  by_cases hbm:bl<=1099511627776
  case neg =>
   have e1:z3h bl=2:=if_neg hbm
   have e2:z19 s x way a bl=z0t s x way a bl:=if_neg hbm
   rw[e1,e2]
   refine(zmj _ ⟨some ⟨b,0,none⟩,true,L0⟩ (z0t s x way a bl) bl _ rfl (.inl ⟨rfl,b,rfl,hS0.below hba⟩) (by omega)).mono fun e w' ⟨he,hw'⟩=>⟨he,?_⟩
   subst hw'
   exact⟨L0,hS0.below hba,st0.trans (z3r hba _)⟩
  have e1:z3h bl=0:=if_pos hbm
  have e2:z19 s x way a bl=z4u (z0t s x way a bl) bl x.l:=if_pos hbm
  rw[e1,e2]
  refine(zrm _ ⟨some ⟨b,0,none⟩,true,L0⟩ _ (f+2+2) bl W.heap.size 4 x.l rfl (.inl ⟨rfl,b,rfl,hS0.below hba⟩) hf2 (by omega) hkey hbm (by simp) (by simp) hx (fun j z hj=>by
   obtain⟨c0,c1,c2,c3⟩:=z0g (heap_alloc_new W (.cells (idL x) 3))
   match j,hj with
   | 0,hj=>cases hj;exact c0
   | 1,hj=>cases hj;exact c1
   | 2,hj=>cases hj;exact c2
   | 3,hj=>cases hj;exact c3) (fun hk=>absurd (hS0.lt _ hk) (Nat.lt_irrefl _)) h27).mono fun e w' ⟨he,hO'⟩=>⟨he,?_⟩
  obtain⟨L2,hS2,st2⟩:=zqz hO'
  exact⟨L2,hS2,(st0.trans (z3r hba _)).trans st2⟩
 have HR:Hid (∀ W,On w1 b L (z19 s x way a bl) W->z2m w b L (.int .i64 (z3h bl)) (z19 s x way a bl) (.returned (.int .i64 (z3h bl))) W):=fun W hO=>hO.back HB.out _
 obtain⟨⟨i0,i1,i2,i3⟩,a0,a1,a2,a3⟩:=HF.out _ _ H0.out
 clear hb0 h hkey h27 HK hS1 hrA hrB hf hf1 hf2 hx hxo hlt H0 HB
 generalize z2m w b L (.int .i64 (z3h bl)) (z19 s x way a bl)=R at *
 generalize z19 s x way a bl=s3 at *
 generalize z3h bl=we at *
 generalize (s.put (aKey 30 x) (rowB [(way:Int),(bl:Int)])).z09 (aKey 31 x) a=s2 at *
 generalize s.put (aKey 30 x) (rowB [(way:Int),(bl:Int)])=s1 at *
 generalize aKey 30 x=k30 at *
 generalize aKey 31 x=k31 at *
 have hW1:(w.alloc (.cells (idL x) 34)).alloc (.cells (uL a) 24)=w1:=hw1
 have HW1:=zh hW1
 clear hw1 hW1
 go_enter Tryz.func143,Tryz.ntmps143
 go_wp2_with fail
 rw[HW1.out]
 refine zm HK30.out ?_
 rintro e w2 ⟨rfl,hO2⟩
 have HSR2:=zh (HSR.out _ hO2)
 clear HK30 HSR hO2
 go_wp2_with fail
 refine zm HSR2.out ?_
 rintro e w3 ⟨rfl,hO3⟩
 have HO3:=zh hO3.drew
 obtain⟨⟨j0,j1,j2,j3⟩,b0,b1,b2,b3⟩:=HF.out _ _ hO3
 clear HSR2 hO3
 go_wp2_with fail
 go_region_held3 (fun w'=>w'.cell? ⟨w.heap.size,0,none⟩=some (.int .i64 x.1)/\w'.cell? ⟨w.heap.size,1,none⟩=some (.int .i64 x.2.1)/\w'.cell? ⟨w.heap.size,2,none⟩=some (.int .i64 x.2.2.1)/\w'.cell? ⟨w.heap.size,3,none⟩=some (.int .i64 x.2.2.2)/\w'.cell? ⟨w.heap.size+1,0,none⟩=some (.int .u64 a.1)/\w'.cell? ⟨w.heap.size+1,1,none⟩=some (.int .u64 a.2.1)/\w'.cell? ⟨w.heap.size+1,2,none⟩=some (.int .u64 a.2.2.1)/\w'.cell? ⟨w.heap.size+1,3,none⟩=some (.int .u64 a.2.2.2)) (first | assumption | go_keep)
  (first
   | (go_at_call 65;refine zm (HK31.out _ _ HO3.out) ?_;rintro e w4 ⟨rfl,hO4⟩;have HO4:=zh hO4;obtain⟨⟨l0,l1,l2,l3⟩,d0,d1,d2,d3⟩:=HF.out _ _ hO4;clear hO4)
   | (go_at_call 81;refine zm (HSA.out _ HO4.out) ?_;rintro e w5 ⟨rfl,hO5⟩;have HO5:=zh hO5;obtain⟨⟨m0,m1,m2,m3⟩,e0,e1,e2,e3⟩:=HF.out _ _ hO5;clear hO5))
 all_goals
  have HD5:=zh (HDA.out _ HO5.out)
  go_wp2_with fail
  refine zm HD5.out ?_
  rintro e w6 ⟨rfl,hO6⟩
  have HR6:=zh (HR.out _ hO6)
  clear hO6 HD5
  go_wp2_with fail
  exact HR6.out
theorem zuf(w:World)(h:Hand)(s:St)(f way bl:Nat)(x:I4)(a:W4)(hon:h.on=true)(hx:∀ n∈x.l,0<=n/\n<9223372036854775808)(hq:QSt w h s)(hf:s.Fit f)(hm:f<100000000)(hw:way<10)(hbl:bl<=2199023255552)
  (hkey:∀ y∈(z0t s x way a bl).ents,y.1.size<1000000000000) (h27:(z1z (z0t s x way a bl) bl x.l).int K27<1000000000000) :
  Calls Tryz.prog 143 #[idV x,.pointer h.ptr,.int .i64 way,uV a,.int .i64 bl] w fun e w'=>e= .returned (.int .i64 (z3h bl))/\QOn w h (z19 s x way a bl) w':=by
 rcases hq with⟨_,b,hp,hS⟩ | ⟨h0,_⟩
 ·rw[hp];exact(zt5 w b s h.L f way bl x a hx hS hf (by omega) hw hbl hkey h27).mono fun e w' ⟨he,L',h1,h2⟩=>⟨he,L',.inl ⟨hon,b,hp,h1⟩,h2⟩
 ·rw[hon]at h0;cases h0
end Go.Proofs.YtnkilceibkkjlaaGreat
