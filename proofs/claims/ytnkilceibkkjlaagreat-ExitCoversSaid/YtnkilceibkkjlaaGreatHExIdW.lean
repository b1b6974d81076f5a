/- What is proved here: exits of the program: ids, Open, All. Conditions: sizes, an int below 2^63. -/
import Derived.Test.YtnkilceibkkjlaaGreatHExNo
set_option maxRecDepth 100000
set_option maxHeartbeats 16000000
namespace Go.Proofs.YtnkilceibkkjlaaGreat
open Go.RowKit Go.Maps
theorem xgb_then {w w1 w2:World} {row:Option Nat} (h:w.grownBy w1 row) (h2:w1.grownBy w2 row):w.grownBy w2 row :=
 ⟨h2.os.trans h.os,h2.tape.trans h.tape,h2.output.trans h.output,Nat.le_trans h.size h2.size,fun k hk hne=>(h2.block k (Nat.lt_of_lt_of_le hk h.size) hne).trans (h.block k hk hne)⟩
theorem xmap_ne {H:Type} {w:World} {P:Program} {t:TypeId} {R:Value→Option (DataW H × List MemPlace)} {b n:Nat} {D:DataW H} (h:w.ownsMap P t R b n D) {g i:Nat} {v:Value} (hc:w.cell? ⟨g,i,none⟩=some v):g≠b:=fun e=>by
 subst e
 obtain ⟨es,clock,hb,_⟩:=h
 unfold World.cell? at hc
 simp [hb] at hc
def IdTo (idf:Ent→Option Int) (w2:World) (mb:Nat) (us:List Ent) (k:Nat) (wr:World):Prop:=wr.ownsMap Tryz.prog 3 (plainElem Tryz.prog 4) mb k (setZ ((us.take k).filterMap idf))∧w2.grownBy wr (some mb)
theorem IdTo.stay {idf:Ent→Option Int} {w2:World} {mb:Nat} {us:List Ent} {k:Nat} {wr w':World} (h:IdTo idf w2 mb us k wr) (hb:Below wr.heap.size wr w'):IdTo idf w2 mb us k w' :=
 ⟨h.1.kept (xgb_below hb none) (by simp),xgb_then h.2 (xgb_below hb _)⟩
theorem own_one1 {w:World} {v:Value} {x:Nat} (ho:Own w 3 1 v 1 ([x].map fun (n:Nat)=>Value.int .i64 n)):∃ g c,v = .slice (some ⟨g,0,none⟩) 1 c∧∀ w2,Below w.heap.size w w2→w2.cell? ⟨g,0,none⟩=some (.int .i64 x):=by
 rcases ho.2 with ⟨_,h0⟩ | ⟨g,cap,cur,rfl,hg2,_,_,_,ht⟩
 ·cases h0
 ·refine ⟨g,cap,rfl,fun w2 hb => ?_⟩
  have:=congrArg (fun x=>x[0]?) ht
  rw [hb.cell (p:=⟨g,0,none⟩) (lt_of_at hg2),cell_of_row _ _ _ _ _ _ hg2]
  simpa [List.getElem?_take] using this
theorem parse_n1 {w w':World} {k:ByteArray} {e:Ending} (h:RetParse w (parseK k) e w') {y:Nat} (hn:nums1 k=some y):∃ (t:Int) (g c:Nat),e = .returned (.tuple #[.int .i64 t,.slice (some ⟨g,0,none⟩) 1 c,.bool true])∧∀ w2,Below w'.heap.size w' w2→w2.cell? ⟨g,0,none⟩=some (.int .i64 y):=by
 unfold nums1 at hn
 cases hp:parseK k with
 | none=>rw [hp] at hn; cases hn
 | some p =>
  obtain ⟨t,ns⟩:=p
  rw [hp] at hn h
  match ns,hn with
  | [_],hn =>
   cases hn
   obtain ⟨_,v,he,ho,_⟩:=h
   obtain ⟨g,c,rfl,hc⟩:=own_one1 ho
   exact ⟨t,g,c,he,hc⟩
theorem parse_n1no {w w':World} {k:ByteArray} {e:Ending} (h:RetParse w (parseK k) e w') (hn:nums1 k=none):∃ (t:Int) (a:Option Addr) (m c:Nat) (ok:Bool),e = .returned (.tuple #[.int .i64 t,.slice a m c,.bool ok])∧((m:Int) == 1)=false:=by
 unfold nums1 at hn
 cases hp:parseK k with
 | none =>
  rw [hp] at h
  obtain ⟨_,he⟩:=h
  exact ⟨0,none,0,0,false,he,by decide⟩
 | some y =>
  obtain ⟨t,ns⟩:=y
  rw [hp] at hn h
  obtain ⟨_,v,he,ho,_⟩:=h
  obtain ⟨a,c,rfl,_⟩:=ho.form
  refine ⟨t,a,ns.length,c,true,he,?_⟩
  rw [beq_eq_false_iff_ne]
  intro h1
  match ns,hn,h1 with
  | [],_,h1=>simp at h1
  | [_],hn,_=>simp at hn
  | _ :: _ :: _,_,h1=>simp at h1; omega
def pAll (_:List Nat):Bool:=true
theorem xall1_any (W:World) (v:Value):Calls Tryz.prog 116 #[v] W fun e w'=>e = .returned (.bool true)∧Below W.heap.size W w':=by
 go_enter Tryz.func116,Tryz.ntmps116
 go_wp2_with fail
 go_ret
 exact ⟨rfl,Below.refl _ _⟩
theorem xidsA_q (w:World) (h:Hand) (s:St) (f:Nat) (hq:QSt w h s) (hf:s.Fit f) (hm:f < 10000000000) (hkey:∀ x∈s.ents,x.1.size < 1000000000000) :
  Calls Tryz.prog 115 #[.pointer h.ptr,.func (.func 116) #[] #[]] w fun e W'=>∃ v,e = .returned v∧W'.ownsRow w.heap.size 3 1 v (s.ids pAll).length ((s.ids pAll).map fun x=>Value.int .i64 x)∧Below w.heap.size w W':=by
 have hmm:=@run_makeMap Tryz.prog
 have hlen:s.ents.length < 1000000000000:=by have:=hf.size; unfold St.size at this; omega
 have hz:s.size < 1000000000000:=Nat.lt_of_le_of_lt hf.size (by omega)
 have HR:=Lib.hid (ids_rise hf.srt pAll)
 have HT:Hid (∀ W,Calls Tryz.prog 177 #[.int .i64 15] W fun e w'=>e = .returned (.string (keyL 15 []))∧Below W.heap.size W w'):=xtable_any 15 (by decide) (by decide)
 have HU:Hid (∀ W,Below w.heap.size w W→Calls Tryz.prog 101 #[.pointer h.ptr,.string (keyL 15 [])] W fun e w2=>∃ ad c,e = .returned (.slice ad (underE (keyL 15 []) s.ents).length c)∧PairsAt w2 ad (underE (keyL 15 []) s.ents)∧Below W.heap.size W w2):=fun W hW =>
  (under_q W h s (keyL 15 []) (hq.below hW) hz).mono fun e w2 ⟨v,he,hO⟩=>by
   obtain ⟨ad,c,rfl,hp⟩:=hO.1.pairs
   exact ⟨ad,c,he,hp,hO.2.2⟩
 have HL:Hid ((underE (keyL 15 []) s.ents).length < 1000000000000):=Nat.lt_of_le_of_lt (underE_len _ _) hlen
 have HKS:Hid (∀ (i:Nat) (x:Ent),(underE (keyL 15 []) s.ents)[i]? = some x→x.1.size < 1000000000000):=fun i x hx=>hkey x (by have h:=List.mem_of_getElem? hx; unfold underE at h; exact (List.mem_filter.1 h).1)
 have HRI:Hid (∀ (k:ByteArray) W,Below w.heap.size w W→Calls Tryz.prog 75 #[.pointer h.ptr,.string k] W fun e w1=>∃ a ln c,e = .returned (.slice a ln c)∧Below W.heap.size W w1∧Calls Tryz.prog 116 #[.slice a ln c] w1 fun e w2=>e = .returned (.bool (pAll (rowOf (s.val k))))∧Below w1.heap.size w1 w2):=fun k W hW =>
  (QSt.row (hq.below hW) hf (by omega) k).mono fun e w1 ⟨v,he,ho,_,hb⟩=>by
   obtain ⟨_,a,c,rfl,_⟩:=ho.src
   exact ⟨a,_,c,he,hb,xall1_any w1 _⟩
 have hids:s.ids pAll=(underE (keyL 15 []) s.ents).filterMap (idOf s pAll):=rfl
 rw [hids] at HR ⊢
 have hido:∀ x:Ent,idOf s pAll x=match nums1 x.1 with
   | some nn=>if pAll (rowOf (s.val x.1)) then some (nn:Int) else none
   | none=>none:=fun x=>rfl
 generalize idOf s pAll=idf at *
 generalize underE (keyL 15 []) s.ents=us at *
 clear hq hlen hkey hf hz hids
 generalize keyL 15 []=kt at *
 have hM0:=World.ownsMap_made (H:=Unit) w Tryz.prog 3 (plainElem Tryz.prog 4)
 have hb0:=bl_alloc (Below.refl _ w) (.map #[] 0)
 have HM0:=Lib.hid (And.intro hM0 hb0)
 have HT1:=Lib.hid (HT.out (w.alloc (.map #[] 0)))
 clear hM0 hb0 HT
 go_enter Tryz.func115,Tryz.ntmps115
 go_wp2_with fail
 refine Calls.mono HT1.out ?_
 rintro e w1 ⟨rfl,hb1⟩
 have hM1:=HM0.out.1.kept (xgb_below hb1 none) (by simp)
 have hb01:=bl_then HM0.out.2 hb1
 have HU1:=Lib.hid (HU.out _ hb01)
 have H1:=Lib.hid (And.intro hM1 hb01)
 clear hb1 hM1 hb01 HU HT1 HM0
 go_wp2_with fail
 refine Calls.mono HU1.out ?_
 rintro e w2 ⟨ad,c,rfl,hp,hb2⟩
 have hM2:=H1.out.1.kept (xgb_below hb2 none) (by simp)
 have hb02:=bl_then H1.out.2 hb2
 have H0:Hid (IdTo idf w2 w.heap.size us 0 w2):=⟨hM2,World.grownBy.refl _ _⟩
 have HG:Hid (∀ k,k < us.length→∃ x,us[k]? = some x):=fun k hk=>⟨_,List.getElem?_eq_getElem hk⟩
 have HPC:Hid (∀ k x wr,IdTo idf w2 w.heap.size us k wr→us[k]? = some x→∃ g,ad=some ⟨g,0,none⟩∧wr.cell? ⟨g,k*2,none⟩=some (.string x.1)∧wr.cell? ⟨g,k*2+1,none⟩=some (.string x.2)):=fun k x wr hS hk=>by
  obtain ⟨g,e,q1,q2⟩:=hp.at0 k x hk
  have hne:=xmap_ne hM2 q1
  have hbk:=hS.2.block g (World.block_lt_of_cell? w2 _ q1) (fun e=>hne (by cases e; rfl))
  exact ⟨g,e,(World.cell?_of_block (a:=⟨g,k*2,none⟩) hbk).trans q1,(World.cell?_of_block (a:=⟨g,k*2+1,none⟩) hbk).trans q2⟩
 have HBW:Hid (∀ k wr,IdTo idf w2 w.heap.size us k wr→Below w.heap.size w wr):=fun k wr hS=>hb02.grown hS.2 hb02.size fun j hj=>by cases hj; exact Nat.le_refl _
 have HEND:Hid (∀ wr,IdTo idf w2 w.heap.size us us.length wr→Calls Tryz.prog 178 #[.func (.func 227) #[] #[.pointer (some ⟨wr.heap.size,0,none⟩)]] (wr.alloc (.cells #[.map (some w.heap.size)] 227)) fun e W'=>∃ v,e = .returned v∧∀ v',v'=v→∃ v'',Ending.returned v' = .returned v''∧W'.ownsRow w.heap.size 3 1 v'' (us.filterMap idf).length ((us.filterMap idf).map fun x=>Value.int .i64 x)∧Below w.heap.size w W'):=fun wr hS=>by
  have hown:=hS.1
  rw [List.take_length] at hown
  have hsz:=hown.size_le
  have hL:=HL.out
  refine (sorted_call w.heap.size us.length _ _ wr hown (by unfold maxLen; omega) (by omega)).mono fun e W' ⟨v,ss,he,hp',hrow,hb'⟩=>⟨v,he,fun v' e'=>⟨v',rfl,?_,?_⟩⟩
  ·subst e'
   obtain ⟨e1,e2⟩:=sort_rise HR.out.1 HR.out.2 hown hp'
   rw [e1,e2] at hrow
   exact ownsRow_base_a hrow (Nat.le_trans hb02.size hS.2.size)
  ·exact bl_then (HBW.out _ _ hS) hb'
 have HKC:Hid (∀ wr,Calls Tryz.prog 179 #[.map (some w.heap.size)] wr fun e w'=>e = .returned (.func (.func 227) #[] #[.pointer (some ⟨wr.heap.size,0,none⟩)])∧w'=wr.alloc (.cells #[.map (some w.heap.size)] 227)):=fun wr=>keys_call _ wr
 have HZ:Hid (∀ (k:Nat) (x:Ent) z,us[k]? = some x→idf x=some z→0≤z∧z < 9223372036854775808):=fun k x z hk hx=>HR.out.2 z (List.mem_filterMap.2 ⟨x,List.mem_of_getElem? hk,hx⟩)
 clear hp hb2 HU1 hb02 hM2 HR H1
 generalize hmb:w.heap.size=mb at *
 have HMB:=Lib.hid hmb
 clear hmb
 have HID:=Lib.hid hido
 clear hido
 go_wp2_with fail
 go_loopw [16] (fun iv wr=>∃ k:Nat,iv = .int .i64 k∧k≤us.length∧IdTo idf w2 mb us k wr) (fun iv _=>us.length - (intOf iv).toNat)
 case atStart=>exact ⟨0,rfl,by omega,H0.out⟩
 case round =>
  obtain ⟨k,rfl,hk,hR⟩:=hrel
  have HRK:=Lib.hid hR
  clear hR H0
  have hL:=HL.out
  by_cases hlt:k < us.length
  ·obtain ⟨x,hx⟩:=HG.out k hlt
   obtain ⟨g,rfl,c1,c2⟩:=HPC.out k x wr HRK.out hx
   have hbw:=HBW.out k wr HRK.out
   have hba:Below wr.heap.size wr (wr.alloc (.cells #[.string x.1,.string x.2] 156)):=(Below.refl _ wr).alloc (Nat.le_refl _) _
   have hrow:(wr.alloc (.cells #[.string x.1,.string x.2] 156)).heap[wr.heap.size]? = some (.cells #[.string x.1,.string x.2] 156 (0,0)):=heap_alloc_new wr _
   have hPA:=parse_any x.1 (HKS.out k x hx) (wr.alloc (.cells #[.string x.1,.string x.2] 156))
   have hst:=filterMap_step idf us k x hx
   have hid0:=HID.out x
   cases hn:nums1 x.1 with
   | none =>
    rw [hn] at hid0
    rw [hid0] at hst
    simp only [Option.toList_none,List.append_nil] at hst
    have HPA:Hid (Calls Tryz.prog 159 #[.string x.1] (wr.alloc (.cells #[.string x.1,.string x.2] 156)) fun e w3=>(∃ (t:Int) (a:Option Addr) (m c:Nat) (ok:Bool),e = .returned (.tuple #[.int .i64 t,.slice a m c,.bool ok])∧((m:Int) == 1)=false)∧IdTo idf w2 mb us (k+1) w3) :=
     hPA.mono fun e w3 hr=>⟨parse_n1no hr hn,by
      have hS3:=HRK.out.stay (hba.trans (hr.1.mono (by simp)))
      exact ⟨by rw [hst]; exact hS3.1.mono (Nat.le_succ _),hS3.2⟩⟩
    clear hPA hst hn hx HRK hba hid0 hbw hrow
    go_wp2_with fail
    refine Calls.mono HPA.out ?_
    rintro e w3 ⟨⟨t,a3,m3,c3,ok,rfl,hm3⟩,hR3⟩
    have HR3:=Lib.hid hR3
    clear hR3 HPA
    cases ok with
    | true =>
     go_wp2_with fail
     go_roundw
     case rel=>exact ⟨k+1,by go_num,by omega,HR3.out⟩
     case measure=>simp [intOf]; omega
    | false =>
     go_wp2_with fail
     go_roundw
     case rel=>exact ⟨k+1,by go_num,by omega,HR3.out⟩
     case measure=>simp [intOf]; omega
   | some y =>
    rw [hn] at hid0
    change idf x=if pAll (rowOf (s.val x.1)) then some (y:Int) else none at hid0
    have HPA:Hid (Calls Tryz.prog 159 #[.string x.1] (wr.alloc (.cells #[.string x.1,.string x.2] 156)) fun e w3=>∃ (t:Int) (g c:Nat),e = .returned (.tuple #[.int .i64 t,.slice (some ⟨g,0,none⟩) 1 c,.bool true])∧w3.cell? ⟨wr.heap.size,0,none⟩=some (.string x.1) ∧
      Calls Tryz.prog 75 #[.pointer h.ptr,.string x.1] w3 fun e w4=>∃ a ln c,e = .returned (.slice a ln c)∧Calls Tryz.prog 116 #[.slice a ln c] w4 fun e w5=>e = .returned (.bool (pAll (rowOf (s.val x.1))))∧w5.cell? ⟨g,0,none⟩=some (.int .i64 y)∧IdTo idf w2 mb us k w5):=by
     refine hPA.mono fun e w3 hr => ?_
     obtain ⟨t,g,c,he,hc⟩:=parse_n1 hr hn
     have hb3:Below wr.heap.size wr w3:=hba.trans (hr.1.mono (by simp))
     refine ⟨t,g,c,he,?_,?_⟩
     ·rw [hr.1.cell (p:=⟨wr.heap.size,0,none⟩) (by simp),cell_of_row _ _ _ _ _ _ hrow]; rfl
     ·refine (HRI.out x.1 w3 (by have h1:=hbw; rw [← HMB.out] at h1; have h2:=bl_then h1 hb3; rw [HMB.out] at h2; exact h2)).mono fun e w4 ⟨a,n,c4,he,hb4,hC⟩=>⟨a,n,c4,he,?_⟩
      refine hC.mono fun e w5 ⟨he,hb5⟩=>⟨he,hc _ (bl_then hb4 hb5),HRK.out.stay (bl_then (bl_then hb3 hb4) hb5)⟩
    have HZK:=Lib.hid (fun z=>HZ.out k x z hx)
    have hST:=hst
    clear hPA hst hn hx HRK hba hbw hrow HRI HID HPC HBW HEND HKC
    generalize pAll (rowOf (s.val x.1))=bb at *
    cases bb with
    | false =>
     have hid1:idf x=none:=by rw [hid0]; rfl
     rw [hid1] at hST
     simp only [Option.toList_none,List.append_nil] at hST
     have HST2:=Lib.hid hST
     clear hid0 hST hid1 HZK
     go_wp2_with fail
     refine Calls.mono HPA.out ?_
     rintro e w3 ⟨t,g3,c3,rfl,hp3,hR3⟩
     have HR3:=Lib.hid hR3
     clear hR3 HPA
     go_wp2_with fail
     refine Calls.mono HR3.out ?_
     rintro e w4 ⟨a4,n4,c4,rfl,hR4⟩
     have HR4:=Lib.hid hR4
     clear hR4 HR3 hp3
     go_wp2_with fail
     refine Calls.mono HR4.out ?_
     rintro e w5 ⟨rfl,hg5,hR5⟩
     have HR5:Hid (IdTo idf w2 mb us (k+1) w5):=⟨by rw [HST2.out]; exact hR5.1.mono (Nat.le_succ _),hR5.2⟩
     clear hR5 HR4 hg5
     go_wp2_with fail
     go_roundw
     case rel=>exact ⟨k+1,by go_num,by omega,HR5.out⟩
     case measure=>simp [intOf]; omega
    | true =>
     have hid1:idf x=some (y:Int):=by rw [hid0]; rfl
     have hzz:=HZK.out _ hid1
     rw [hid1] at hST
     simp only [Option.toList_some] at hST
     have hkey:=key_mk hzz.1 hzz.2
     clear hid0 hid1 HZK hzz
     generalize ((y:Nat):Int)=z at *
     have HST2:Hid (setZ ((us.take (k+1)).filterMap idf)=(setZ ((us.take k).filterMap idf)).put (.int .i64 z) (.lit (.bool true))):=by
      show _=_
      rw [hST,setZ_snoc]
     clear hST
     go_wp2_with fail
     refine Calls.mono HPA.out ?_
     rintro e w3 ⟨t,g3,c3,rfl,hp3,hR3⟩
     have HR3:=Lib.hid hR3
     clear hR3 HPA
     go_wp2_with fail
     refine Calls.mono HR3.out ?_
     rintro e w4 ⟨a4,n4,c4,rfl,hR4⟩
     have HR4:=Lib.hid hR4
     clear hR4 HR3 hp3
     go_wp2_with fail
     refine Calls.mono HR4.out ?_
     rintro e w5 ⟨rfl,hg5,hR5⟩
     have hown5:=hR5.1
     have HG5:=Lib.hid hR5.2
     clear hR5 HR4
     go_wp2_with (at_mapUpdate; refine wpList_mapUpdate_own _ rfl _ _ _ 227 rfl 3 4 key_law Tryz.underlying227 _ mb k _ rfl hown5 (by unfold maxLen; omega) _ _ _ rfl rfl hkey _ [] (plainElem_bool Tryz.underlying4 true) ?_; intro w6 hown6 hgrow6)
     have HR6:Hid (IdTo idf w2 mb us (k+1) w6):=⟨by rw [HST2.out]; exact hown6,xgb_then HG5.out hgrow6⟩
     clear hown6 hgrow6 hown5 HST2 HG5
     go_roundw
     case rel=>exact ⟨k+1,by go_num,by omega,HR6.out⟩
     case measure=>simp [intOf]; omega
  ·obtain rfl:k=us.length:=by omega
   have HE1:=Lib.hid (HEND.out wr HRK.out)
   clear HRI HID HPC HBW HEND
   go_wp2_with fail
   refine Calls.mono (HKC.out wr) ?_
   rintro e w5 ⟨rfl,rfl⟩
   go_wp2_with fail
   refine Calls.mono HE1.out ?_
   rintro e w6 ⟨v,rfl,hv⟩
   have hv2:=hv v rfl
   rw [← HMB.out] at hv2
   have HV:=Lib.hid hv2
   clear hv hv2
   go_wp2_with fail
   go_ret
   exact HV.out
theorem xall_q (w:World) (h:Hand) (s:St) (f:Nat) (hq:QSt w h s) (hf:s.Fit f) (hm:f < 10000000000) (hkey:∀ x∈s.ents,x.1.size < 1000000000000) :
  Calls Tryz.prog 43 #[.pointer h.ptr] w fun e W'=>∃ v,e = .returned v∧W'.ownsRow w.heap.size 3 1 v (s.ids pAll).length ((s.ids pAll).map fun x=>Value.int .i64 x)∧Below w.heap.size w W':=by
 have HI:Hid (Calls Tryz.prog 115 #[.pointer h.ptr,.func (.func 116) #[] #[]] w fun e W'=>∃ v,e = .returned v∧W'.ownsRow w.heap.size 3 1 v (s.ids pAll).length ((s.ids pAll).map fun x=>Value.int .i64 x)∧Below w.heap.size w W'):=xidsA_q w h s f hq hf hm hkey
 clear hq hf hkey
 generalize s.ids pAll=il at *
 go_enter Tryz.func43,Tryz.ntmps43
 go_wp2_with fail
 refine Calls.mono HI.out ?_
 rintro e w2 ⟨v,rfl,hv⟩
 have HB:=Lib.hid hv
 clear hv HI
 go_wp2_with fail
 go_ret
 exact ⟨_,rfl,HB.out⟩
end Go.Proofs.YtnkilceibkkjlaaGreat
