/- What is proved here: covered: as much is left as all that wait pay. Conditions: sizes; the slices as they came in. -/
import Derived.Test.YtnkilceibkkjlaaGreatHExCz
import Derived.Test.YtnkilceibkkjlaaGreatHHistW
set_option maxRecDepth 100000
set_option maxHeartbeats 16000000
namespace Go.Proofs.YtnkilceibkkjlaaGreat
open Go.RowKit
theorem rg_loadAt {P:Program} {ops:Array Oper} {o:Oper} {a:Act} {w:World} {K:Value→World→Prop} {ty:TypeId} {x:Operand} {p:Addr} {cs:Array Value} (d:TypeDesc) (hg:Region.wanted o (yielded ops a.tmps)=true) (ho:o.op = .load ty x) (hx:a.eval x = .pointer (some p)) (hc:∀ j v,cs[j]? = some v→w.cell? (p.add j)=some v) (hu:P.underlying ty=some d) (hd:d.isRow=true) (hi:(P.info? ty).map (·.size)=some cs.size) (hk:K (.agg cs) w):rgDo P ops o a w K:=by
 have hl:(loadCells p cs.size).run P w = .ok cs w:=by
  have:=run_loadCells_list (P:=P) w p cs.toList (fun j v hv=>hc j v (by simpa using hv))
  simpa using this
 refine rg_value hg ?_ hk
 cases hq:P.info? ty with
 | none=>simp [hq] at hi
 | some i =>
  have hs:i.size=cs.size:=by simpa [hq] using hi
  have hagg:(isAgg ty).run P w = .ok true w:=by
   unfold isAgg
   rw [Sem.run_bind,run_underlying hu w]
   cases d <;> simp_all
  have hv:(loadVar ty p).run P w = .ok (.agg cs) w:=by simp [loadVar,Sem.run_bind,hagg,sizeOf,typeInfo,hq,hs,hl]
  unfold execOp
  simp only [ho,hx,Instr.loadAt,Instr.sureAddr,Sem.run_bind,Sem.run_pure,Result.andThen_ok,hv]
theorem rg_loadX {ops:Array Oper} {o:Oper} {a:Act} {w:World} {K:Value→World→Prop} {x:Operand} {g:Nat} {r:Ex} (hg:Region.wanted o (yielded ops a.tmps)=true) (ho:o.op = .load 26 x) (hx:a.eval x = .pointer (some ⟨g,0,none⟩)) (hr:w.heap[g]? = some (exO r)) (hk:K (.agg r.L) w):rgDo Tryz.prog ops o a w K :=
 rg_load _ hg ho hx hr Tryz.underlying26 rfl (by show _=some 12; kernel_rfl) hk
theorem rg_loadUAt {ops:Array Oper} {o:Oper} {a:Act} {w:World} {K:Value→World→Prop} {x:Operand} {p:Addr} {r:W4} (hg:Region.wanted o (yielded ops a.tmps)=true) (ho:o.op = .load 24 x) (hx:a.eval x = .pointer (some p)) (hc:∀ (j:Nat) v,(uL r)[j]? = some v→w.cell? (p.add j)=some v) (hk:K (uV r) w):rgDo Tryz.prog ops o a w K :=
 rg_loadAt _ hg ho hx hc Tryz.underlying24 rfl (by show _=some 4; kernel_rfl) hk
theorem rg_idxU {ops:Array Oper} {o:Oper} {a:Act} {w:World} {K:Value→World→Prop} {x y:Operand} {ad:Addr} {n c k:Nat} (hg:Region.wanted o (yielded ops a.tmps)=true) (ho:o.op = .indexAddr 76 x y) (hx:a.eval x = .slice (some ad) n c) (hy:a.eval y = .int .i64 (k:Int)) (hk:k < n) (hK:K (.pointer (some (ad.add (k*4)))) w):rgDo Tryz.prog ops o a w K:=by
 refine rg_value hg ?_ hK
 clear hg hK
 generalize a.eval=ev at hx hy ⊢
 unfold execOp
 simp only [ho,hx,hy]
 go_simp
def coPay (es:List CE) (i:Nat):W4:=match es[i]? with
 | some e=>paysW (e.ex i) e.c
 | none=>(0,0,0,0)
def coSum (es:List CE):Nat→W4
 | 0=>(0,0,0,0)
 | i+1=>toW (uN (coSum es i)+uN (coPay es i))
theorem coSum_ok (es:List CE):∀ i,(coSum es i).Ok
 | 0=>(⟨by decide,by decide,by decide,by decide⟩:W4.Ok (0,0,0,0))
 | _+1=>toW_ok _
theorem cvPay_append (l m:List CW):cvPay (l ++ m)=cvPay l+cvPay m:=by
 induction l with
 | nil=>simp [cvPay]
 | cons x l ih=>simp only [List.cons_append,cvPay,ih]; omega
theorem coPay_nat {es:List CE} {b i:Nat} {e:CE} (ok:∀ e∈es,e.Ok b) (he:es[i]? = some e):coPay es i=paysW (e.ex i) e.c∧uN (coPay es i)=uN e.wo*uN e.c / uN e.mx:=by
 have h0:=ok e (List.mem_of_getElem? he)
 have e1:coPay es i=paysW (e.ex i) e.c:=by unfold coPay; rw [he]
 refine ⟨e1,?_⟩
 have h1:=h0.le; have h2:=h0.pos
 rw [e1]
 exact pays_nat (x:=e.ex i) h0.wo (show (9:Int)≠0 by decide) (by show uN e.mx≠0; omega) h0.le
theorem coSum_nat {es:List CE} {b L:Nat} (ok:∀ e∈es,e.Ok b) (hL:L < W256) (h:cvPay (es.map CE.cw)≤L):∀ i,i≤es.length→uN (coSum es i)=cvPay ((es.take i).map CE.cw)
 | 0,_=>rfl
 | i+1,hi=>by
  have ih:=coSum_nat ok hL h i (by omega)
  obtain ⟨e,he⟩:∃ e,es[i]? = some e:=⟨_,List.getElem?_eq_getElem (by omega)⟩
  have ht:es.take (i+1)=es.take i ++ [e]:=by rw [List.take_add_one,he]; rfl
  have hp:=(coPay_nat ok he).2
  have hs:cvPay ((es.take (i+1)).map CE.cw)=cvPay ((es.take i).map CE.cw)+uN (coPay es i):=by
   rw [ht,List.map_append,cvPay_append,hp]; rfl
  have hle:cvPay ((es.take (i+1)).map CE.cw)≤L:=by
   have h2:=cvPay_append ((es.take (i+1)).map CE.cw) ((es.drop (i+1)).map CE.cw)
   rw [← List.map_append,List.take_append_drop] at h2
   omega
  show uN (toW (uN (coSum es i)+uN (coPay es i)))=_
  rw [ih,← hs]
  have h3:cvPay ((es.take (i+1)).map CE.cw) < W256:=by omega
  unfold toW
  rw [if_pos h3]
  exact uN_of h3
theorem coSum_le {k b:Nat} {s:St} {es:List CE} (H:CvSt k 0 s es) (ok:∀ e∈es,e.Ok b):uCmp (coSum es es.length) (s.left 1)≤0:=by
 rw [uCmp_le0]
 have hcv:=H.cv
 rw [List.drop_zero] at hcv
 have hp:=CvInv.pays hcv
 rw [coSum_nat ok (uN_lt (amt_ok s _)) hp es.length (Nat.le_refl _),List.take_length]
 exact hp
def CoPh (w:World) (g0 g1:Nat) (x:Ex) (sm sn:W4):Nat→World→Prop
 | 0,W=>BV w [(g1,exO x),(g0,uO sm)] W
 | 1,W=>BV w [(g1,exO x),(g0,uO sm)] W
 | 2,W=>BV w [(g1,exO x),(g0,uO sm)] W
 | _+3,W=>BV w [(g0,uO sn),(g1,exO x)] W
theorem CoPh.xrow {w W:World} {g0 g1:Nat} {x:Ex} {sm sn:W4} {p:Nat} (h:CoPh w g0 g1 x sm sn p W):W.heap[g1]? = some (exO x):=by
 match p,h with
 | 0,h | 1,h | 2,h=>exact QV.row (rs:=[(g1,exO x),(g0,uO sm)]) h (by simp)
 | _+3,h=>exact QV.row (rs:=[(g0,uO sn),(g1,exO x)]) h (by simp)
theorem CoPh.bl {w W:World} {g0 g1:Nat} {x:Ex} {sm sn:W4} {p:Nat} (h:CoPh w g0 g1 x sm sn p W):Below w.heap.size w W:=by
 match p,h with
 | 0,h | 1,h | 2,h=>exact BV.bl (rs:=[(g1,exO x),(g0,uO sm)]) h
 | _+3,h=>exact BV.bl (rs:=[(g0,uO sn),(g1,exO x)]) h
theorem CoPh.below {w W W':World} {g0 g1:Nat} {x:Ex} {sm sn:W4} {p:Nat} (h:CoPh w g0 g1 x sm sn p W) (hb:Below W.heap.size W W'):CoPh w g0 g1 x sm sn p W':=by
 match p,h with
 | 0,h | 1,h | 2,h=>exact QV.below (rs:=[(g1,exO x),(g0,uO sm)]) h hb
 | _+3,h=>exact QV.below (rs:=[(g0,uO sn),(g1,exO x)]) h hb
theorem covered_any (w:World) (h:Hand) (s:St) (f k b:Nat) (es:List CE) (hq:QSt w h s) (hf:s.Fit f) (hm:f < 1000000) (H:CvSt k 0 s es) (ok:∀ e∈es,e.Ok b) (hes:es.length≤1000) (ae ac:Option Addr) (ce cc:Nat)
  (hE:∀ i,i < es.length→∃ ad,ae=some ad∧w.cell? (ad.add i)=some (.int .i64 ((i+1:Nat):Int)))
  (hC:∀ i e,es[i]? = some e→∃ ad,ac=some ad∧∀ j v,(uL e.c)[j]? = some v→w.cell? ((ad.add (i*4)).add j)=some v) :
  Calls Tryz.prog 41 #[.pointer h.ptr,.slice ae es.length ce,.slice ac es.length cc] w fun e w'=>e = .returned (.bool true)∧Below w.heap.size w w':=by
 have HGT:Hid (∀ i e rs W,es[i]? = some e→BV w rs W→Calls Tryz.prog 44 #[.pointer h.ptr,.int .i64 ((i+1:Nat):Int)] W fun e' w'=>e' = .returned (.tuple #[.agg (e.ex i).L,.bool true])∧BV w rs w'):=fun i e rs W he hV=>by
  have hi:=(List.getElem?_eq_some_iff.1 he).1
  obtain ⟨x1,x2⟩:=H.ex i e (Nat.zero_le _) he
  have:=xGet_q W h s f ((i+1:Nat):Int) (i63_lt (by omega)) (hq.below hV.bl) hf (by omega)
  rw [x1,x2] at this
  exact BV.reads hV this
 have HPY:Hid (∀ i e W,es[i]? = some e→Calls Tryz.prog 13 #[.agg (e.ex i).L,uV e.c] W fun e' w'=>e' = .returned (uV (coPay es i))∧Below W.heap.size W w'):=fun i e W he=>by
  have h0:=ok e (List.mem_of_getElem? he)
  rw [(coPay_nat ok he).1]
  exact pays_any (e.ex i) e.c h0.wo h0.mx h0.c W
 have HPO:Hid (∀ i e,es[i]? = some e→(coPay es i).Ok):=fun i e he=>by
  have h0:=ok e (List.mem_of_getElem? he)
  rw [(coPay_nat ok he).1]
  exact paysW_ok h0.wo _
 have HLF:Hid (∀ W,Below w.heap.size w W→Calls Tryz.prog 45 #[.pointer h.ptr,.int .i64 1] W fun e w'=>e = .returned (uV (s.left 1))∧Below W.heap.size W w'):=fun W hb=>xLeft_q W h s f 1 (by decide) (hq.below hb) hf (by omega)
 have HLO:Hid ((s.left 1).Ok):=amt_ok s _
 have HLE:=Lib.hid (coSum_le H ok)
 have HG:Hid (∀ i,i < es.length→∃ e,es[i]? = some e):=fun i hi=>⟨_,List.getElem?_eq_getElem hi⟩
 have HE:Hid (∀ i W,i < es.length→Below w.heap.size w W→∃ ad,ae=some ad∧W.cell? (ad.add i)=some (.int .i64 ((i+1:Nat):Int))):=fun i W hi hb=>by
  obtain ⟨ad,e,h0⟩:=hE i hi
  exact ⟨ad,e,by rw [hb.cell (World.block_lt_of_cell? w _ h0)]; exact h0⟩
 have HC:Hid (∀ i e,es[i]? = some e→∃ ad,ac=some ad∧∀ W,Below w.heap.size w W→∀ j v,(uL e.c)[j]? = some v→W.cell? ((ad.add (i*4)).add j)=some v):=fun i e he=>by
  obtain ⟨ad,e0,h0⟩:=hC i e he
  exact ⟨ad,e0,fun W hb j v hj=>by rw [hb.cell (World.block_lt_of_cell? w _ (h0 j v hj))]; exact h0 j v hj⟩
 have H0:Hid (BV w [(w.heap.size,uO (coSum es 0))] (w.alloc (uO (coSum es 0)))):=(BV.start w).alloc _
 have HSO:Hid (∀ i,(coSum es i).Ok):=coSum_ok es
 have HSN:Hid (∀ i,coSum es (i+1)=toW (uN (coSum es i)+uN (coPay es i))):=fun i=>rfl
 have hz:coSum es 0=(0,0,0,0):=rfl
 clear hE hC H ok hq hf
 generalize es.length=n at *
 generalize hcs:coSum es=cs at *
 generalize hcp:coPay es=cp at *
 generalize s.left 1=lf at *
 generalize h.ptr=q at *
 clear hcs hcp
 rw [hz] at H0
 go_enter Tryz.func41,Tryz.ntmps41
 go_upto_region 2 with fail
 generalize w.alloc (uO (0,0,0,0))=w1 at *
 have HG0:=Lib.hid (lt_of_at (H0.out.row (g:=w.heap.size) (o:=uO (0,0,0,0)) (by simp)))
 rw [← hz] at H0
 generalize hg0:w.heap.size=g0 at H0 HG0
 go_wp2_with fail
 go_loopw [15] (fun i wr=>∃ k:Nat,i = .int .i64 k∧k≤n∧BV w [(g0,uO (cs k))] wr) (fun i _=>n - (intOf i).toNat)
 case atStart=>exact ⟨0,rfl,by omega,H0.out⟩
 case round =>
  obtain ⟨k,rfl,hk,hA⟩:=hrel
  by_cases hlt:k < n
  ·obtain ⟨e,he⟩:=HG.out k hlt
   obtain ⟨ad,rfl,q0⟩:=HE.out k wr hlt hA.bl
   obtain ⟨ac',rfl,HCC⟩:=HC.out k e he
   have HCC:=Lib.hid HCC
   have HA:=Lib.hid hA
   have hge:=HGT.out k e [(g0,uO (cs k))] wr he hA
   rw [show ((k+1:Nat):Int)=(k:Int)+1 by omega] at hge
   have hpe:=fun W=>HPY.out k e W he
   have hpo:=HPO.out k e he
   have hso:=HSO.out k
   have hsn:=HSN.out k
   have HLT:=Lib.hid hlt
   have hxo:(e.ex k).L=(e.ex k).L:=rfl
   clear hA he hxo HGT HPY HPO HSO HSN H0 HG HE HC
   obtain ⟨x,hx⟩:∃ x:Ex,x=e.ex k:=⟨_,rfl⟩
   rw [← hx] at hge hpe
   have HPE:=Lib.hid hpe
   obtain ⟨xs,xo,xt,xb,xW,xM,hx2⟩:∃ xs xo xt xb xW xM,x=⟨xs,xo,xt,xb,xW,xM⟩:=⟨_,_,_,_,_,_,rfl⟩
   rw [hx2] at hge
   dsimp only [Ex.L] at hge
   have HX:=Lib.hid hx2
   have HGE:=Lib.hid hge
   clear hx hx2 hge hpe
   obtain ⟨ew,hew⟩:∃ u:W4,u=e.c:=⟨_,rfl⟩
   rw [← hew] at HPE HCC
   clear hew
   generalize cp k=wv at *
   generalize cs k=sm at *
   obtain ⟨sn,hsn2⟩:∃ u:W4,u=cs (k+1):=⟨_,rfl⟩
   rw [← hsn2] at hsn
   have HSQ:=Lib.hid hsn2
   have HAD:Hid (∀ rs W,BV w rs W→Calls Tryz.prog 21 #[uV sm,uV wv] W fun e w'=>e = .returned (.tuple #[uV sn,.bool (toB (uN sm+uN wv))])∧BV w rs w'):=fun rs W h=>by
    rw [hsn]; exact BV.reads h (radd_u sm wv hso hpo W)
   generalize toB (uN sm+uN wv)=sb at *
   clear hsn hsn2 hso hpo
   go_upto_region 5 with fail
   go_wp2_with fail
   refine Calls.mono HGE.out ?_
   rintro e2 w2 ⟨rfl,hB2⟩
   have HB3:Hid (BV w [(w2.heap.size,exO x),(g0,uO sm)] (w2.alloc (.cells #[.int .i64 xs,.int .i64 xo,.int .i64 xt,.int .i64 xb,.int .u64 xW.1,.int .u64 xW.2.1,.int .u64 xW.2.2.1,.int .u64 xW.2.2.2,.int .u64 xM.1,.int .u64 xM.2.1,.int .u64 xM.2.2.1,.int .u64 xM.2.2.2] 26))):=by
    rw [HX.out]; exact hB2.alloc (exO ⟨xs,xo,xt,xb,xW,xM⟩)
   have HNE:Hid (g0≠w2.heap.size):=Nat.ne_of_lt (lt_of_at (hB2.row (g:=g0) (o:=uO sm) (by simp)))
   clear HGE hB2 HX HA q0
   go_upto_region 8 with fail
   generalize w2.alloc (.cells #[.int .i64 xs,.int .i64 xo,.int .i64 xt,.int .i64 xb,.int .u64 xW.1,.int .u64 xW.2.1,.int .u64 xW.2.2.1,.int .u64 xW.2.2.2,.int .u64 xM.1,.int .u64 xM.2.1,.int .u64 xM.2.2.1,.int .u64 xM.2.2.2] 26)=w3 at *
   generalize w2.heap.size=g1 at *
   have HBD:Hid (CoPh w g0 g1 x sm sn 0 w3.drew):=HB3.out.drew
   refine wp_region_const2 [[],[],[],[],[2,3],[2,3,4],[1,2,3,4,5],[0,1,2,3,4,5,6],[0,1,2,3,4,5,6,7],[0,1,2,3,4,5,6,7,8],[0,1,2,3,4,5,6,7,8],[0,1,2,3,4,5,6,7,8,9]]
    [uV sm,.agg x.L,.slice (some ac') n cc,.int .i64 k,.pointer (some (ac'.add (k*4))),uV ew,uV wv,.tuple #[uV sn,.bool sb],.tuple #[uV sn,.bool sb],uV sn,.bool sb,undef]
    [0,7,11] (CoPh w g0 g1 x sm sn) _ (by kernel_rfl) (by kernel_rfl) (by kernel_rfl)
    (fun vs=>by simp only [rgAct,rgPut,List.setIfInBounds_toArray,List.set_cons_zero,List.set_cons_succ]; exact rfl)
    (by simp only [List.getD_cons_zero,List.getD_cons_succ]; exact rfl) HBD.out ?_ ?_
   ·refine ⟨?_,?_,?_,?_,?_,?_,?_,?_,?_,?_,?_,?_,trivial⟩
    ·intro vs p w1 hA hP hq
     have hp:=hq 0 rfl
     subst hp
     exact rg_loadU rfl rfl rfl (QV.row (rs:=[(g1,exO x),(g0,uO sm)]) (o:=uO sm) hP (by simp)) ⟨rfl,hP⟩
    ·intro vs p w1 hA hP hq
     exact rg_loadX rfl rfl rfl (CoPh.xrow hP) ⟨rfl,hP⟩
    ·intro vs p w1 hA hP hq
     exact rg_move rfl (.inl rfl) rfl ⟨rfl,hP⟩
    ·intro vs p w1 hA hP hq
     exact rg_move rfl (.inl rfl) rfl ⟨rfl,hP⟩
    ·intro vs p w1 hA hP hq
     obtain ⟨e2,e3,_⟩:=hA
     have e2:vs 2 = .slice (some ac') n cc:=e2
     have e3:vs 3 = .int .i64 k:=e3
     exact rg_idxU rfl rfl e2 e3 HLT.out ⟨rfl,hP⟩
    ·intro vs p w1 hA hP hq
     obtain ⟨_,_,e4,_⟩:=hA
     have e4:vs 4 = .pointer (some (ac'.add (k*4))):=e4
     exact rg_loadUAt rfl rfl e4 (HCC.out _ (CoPh.bl hP)) ⟨rfl,hP⟩
    ·intro vs p w1 hA hP hq
     obtain ⟨e1,_,_,_,e5,_⟩:=hA
     have e1:vs 1 = .agg x.L:=e1
     have e5:vs 5=uV ew:=e5
     refine rg_fn rfl rfl rfl (by kernel_rfl) (show [vs 1,vs 5]=_ from by rw [e1,e5]) (Calls.mono ((HPE.out w1).mono fun _ _ h=>And.intro h.1 (CoPh.below hP h.2)) ?_)
     rintro e w2 ⟨rfl,hP2⟩
     exact ⟨_,rfl,rfl,hP2⟩
    ·intro vs p w1 hA hP hq
     obtain ⟨e0,_,_,_,_,_,e6,_⟩:=hA
     have e0:vs 0=uV sm:=e0
     have e6:vs 6=uV wv:=e6
     have hp:=hq 1 rfl
     subst hp
     refine rg_fn rfl rfl rfl (by kernel_rfl) (show [vs 0,vs 6]=_ from by rw [e0,e6]) (Calls.mono (HAD.out _ _ hP) ?_)
     rintro e w2 ⟨rfl,hP2⟩
     exact ⟨_,rfl,rfl,hP2⟩
    ·intro vs p w1 hA hP hq
     obtain ⟨_,_,_,_,_,_,_,e7,_⟩:=hA
     have e7:vs 7 = .tuple #[uV sn,.bool sb]:=e7
     exact rg_move rfl (.inl rfl) e7 ⟨rfl,hP⟩
    ·intro vs p w1 hA hP hq
     obtain ⟨_,_,_,_,_,_,_,_,e8,_⟩:=hA
     have e8:vs 8 = .tuple #[uV sn,.bool sb]:=e8
     exact rg_extract rfl rfl e8 rfl ⟨rfl,hP⟩
    ·intro vs p w1 hA hP hq
     obtain ⟨_,_,_,_,_,_,_,_,e8,_⟩:=hA
     have e8:vs 8 = .tuple #[uV sn,.bool sb]:=e8
     exact rg_extract rfl rfl e8 rfl ⟨rfl,hP⟩
    ·intro vs p w1 hA hP hq
     obtain ⟨_,_,_,_,_,_,_,_,_,e9,_⟩:=hA
     have e9:vs 9=uV sn:=e9
     have hp:=hq 2 rfl
     subst hp
     exact rg_storeU rfl rfl rfl e9 (QV.row (rs:=[(g1,exO x),(g0,uO sm)]) (o:=uO sm) hP (by simp)) ⟨rfl,QV.setRow (rs:=[(g1,exO x),(g0,uO sm)]) (cs:=uL sm) hP (by simp) [(g1,exO x)] (by simpa using (Ne.symm HNE.out))⟩
   ·intro W hW
    have HW:Hid (BV w [(g0,uO sn),(g1,exO x)] W):=hW
    clear hW
    go_wp2_with fail
    go_roundw
    case rel=>exact ⟨k+1,by go_num,by omega,by rw [← HSQ.out]; exact QV.less HW.out (by simp)⟩
    case measure=>simp [intOf]; omega
  ·obtain rfl:k=n:=by omega
   have HBD:Hid (BV w [(g0,uO (cs k))] wr.drew):=QV.drew hA
   have HCM:Hid (∀ W,Calls Tryz.prog 10 #[uV (cs k),uV lf] W fun e w'=>e = .returned (.int .i64 (uCmp (cs k) lf))∧Below W.heap.size W w'):=fun W=>rcmp_u _ _ (HSO.out k) HLO.out W
   have HCL:=Lib.hid (decide_eq_true HLE.out)
   clear hA HGT HPY HPO HSO HSN H0 HG HE HC HLE HLO
   generalize uCmp (cs k) lf=cv at *
   generalize cs k=sm at *
   go_upto_region 10 with fail
   refine wp_region_const2 [[],[],[1],[0,1,2],[0,1,2,3],[0,1,2,3,4]]
    [uV sm,.pointer q,uV lf,.int .i64 cv,.bool true,.bool true]
    [] (fun _ W=>BV w [(g0,uO sm)] W) _ (by kernel_rfl) (by kernel_rfl) (by kernel_rfl)
    (fun vs=>by simp only [rgAct,rgPut,List.setIfInBounds_toArray,List.set_cons_zero,List.set_cons_succ]; exact rfl)
    (by simp only [List.getD_cons_zero,List.getD_cons_succ]; exact rfl) HBD.out ?_ ?_
   ·refine ⟨?_,?_,?_,?_,?_,?_,trivial⟩
    ·intro vs p w1 hA hP hq
     exact rg_loadU rfl rfl rfl (QV.row (rs:=[(g0,uO sm)]) (o:=uO sm) hP (by simp)) ⟨rfl,hP⟩
    ·intro vs p w1 hA hP hq
     exact rg_move rfl (.inl rfl) rfl ⟨rfl,hP⟩
    ·intro vs p w1 hA hP hq
     obtain ⟨e1,_⟩:=hA
     have e1:vs 1 = .pointer q:=e1
     refine rg_fn rfl rfl rfl (by kernel_rfl) (show [vs 1,.int .i64 1]=_ from by rw [e1]) (Calls.mono ((HLF.out w1 (BV.bl hP)).mono fun _ _ h=>And.intro h.1 (QV.below hP h.2)) ?_)
     rintro e w2 ⟨rfl,hP2⟩
     exact ⟨_,rfl,rfl,hP2⟩
    ·intro vs p w1 hA hP hq
     obtain ⟨e0,_,e2,_⟩:=hA
     have e0:vs 0=uV sm:=e0
     have e2:vs 2=uV lf:=e2
     refine rg_fn rfl rfl rfl (by kernel_rfl) (show [vs 0,vs 2]=_ from by rw [e0,e2]) (Calls.mono ((HCM.out w1).mono fun _ _ h=>And.intro h.1 (QV.below hP h.2)) ?_)
     rintro e w2 ⟨rfl,hP2⟩
     exact ⟨_,rfl,rfl,hP2⟩
    ·intro vs p w1 hA hP hq
     obtain ⟨_,_,_,e3,_⟩:=hA
     have e3:vs 3 = .int .i64 cv:=e3
     exact rg_leq0 rfl rfl e3 HCL.out ⟨rfl,hP⟩
    ·intro vs p w1 hA hP hq
     obtain ⟨_,_,_,_,e4,_⟩:=hA
     have e4:vs 4 = .bool true:=e4
     exact rg_move rfl (.inr rfl) e4 ⟨rfl,hP⟩
   ·intro W hW
    have HW:=Lib.hid (BV.bl hW)
    clear hW
    go_wp2_with fail
    go_ret
    exact ⟨rfl,HW.out⟩
end Go.Proofs.YtnkilceibkkjlaaGreat
