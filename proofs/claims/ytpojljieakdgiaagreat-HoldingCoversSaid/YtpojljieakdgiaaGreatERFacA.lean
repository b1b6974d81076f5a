/- What is proved here: Strategies of the program: a holder's strategies, in the order of the keys. Its conditions: numbers below 2^63, sizes. Strategies of the reference: a holder's strategies, in the order of the keys. Its conditions: numbers below 2^63, sizes. the reference's fractions and amounts (chapter 3), and its factor.Good. Their condition: words below 2^64. -/
import Derived.Test.YtpojljieakdgiaaGreatEHoldA
import Derived.Test.YtpojljieakdgiaaGreatEKpR
import Derived.Test.YtpojljieakdgiaaGreatEFacG
import Derived.Test.YtpojljieakdgiaaGreatERDown
set_option maxRecDepth 100000
set_option maxHeartbeats 16000000
namespace Go.Proofs.YtpojljieakdgiaaGreat
open Go.RowKit
def nums2 (k:ByteArray):Option (Nat × Nat):=match parseK k with
 | some (_,[x,y])=>some (x,y)
 | _=>none
def secOf (x:Ent):Option Int:=(nums2 x.1).map fun y=>(y.2:Int)
def strH (s:St) (a:Int):List Int:=if a < 1 then [] else (underE (keyL 10 [a]) s.ents).filterMap secOf
theorem own_two' {w:World} {v:Value} {x y:Int} {e:Nat} (h:Own w e 1 v 2 [.int .i64 x,.int .i64 y]):∃ g c,v = .slice (some ⟨g,0,none⟩) 2 c∧∀ w',Below w.heap.size w w'→w'.cell? ⟨g,1,none⟩=some (.int .i64 y):=by
 rcases h.2 with ⟨_,h0⟩ | ⟨g,cap,cur,rfl,hg,_,_,_,hx⟩
 ·cases h0
 ·refine ⟨g,cap,rfl,fun w' hb => ?_⟩
  have hlt:g < w.heap.size:=(Array.getElem?_eq_some_iff.1 hg).1
  have hl:cur.toList.take 2 = [Value.int .i64 x,Value.int .i64 y]:=hx
  have e1:=congrArg (fun l=>l[1]?) hl
  simp only [List.getElem?_take] at e1
  rw [hb.cell (p:=⟨g,1,none⟩) hlt,cell_of_row _ _ _ _ _ _ hg]; simpa using e1
theorem parse_n2 {w w':World} {k:ByteArray} {e:Ending} (h:RetParse w (parseK k) e w') {y:Nat × Nat} (hn:nums2 k=some y):∃ (t:Int) (g c:Nat),e = .returned (.tuple #[.int .i64 t,.slice (some ⟨g,0,none⟩) 2 c,.bool true])∧∀ w2,Below w'.heap.size w' w2→w2.cell? ⟨g,1,none⟩=some (.int .i64 y.2):=by
 unfold nums2 at hn
 cases hp:parseK k with
 | none=>rw [hp] at hn; cases hn
 | some p =>
  obtain ⟨t,ns⟩:=p
  rw [hp] at hn h
  match ns,hn with
  | [_,_],hn =>
   cases hn
   obtain ⟨_,v,he,ho,_⟩:=h
   obtain ⟨g,c,rfl,hc⟩:=own_two' ho
   exact ⟨t,g,c,he,hc⟩
theorem parse_n2no {w w':World} {k:ByteArray} {e:Ending} (h:RetParse w (parseK k) e w') (hn:nums2 k=none):∃ (t:Int) (a:Option Addr) (m c:Nat) (ok:Bool),e = .returned (.tuple #[.int .i64 t,.slice a m c,.bool ok])∧((m:Int) == 2)=false:=by
 unfold nums2 at hn
 cases hp:parseK k with
 | none =>
  rw [hp] at h
  obtain ⟨_,he⟩:=h
  exact ⟨0,none,0,0,false,he,by decide⟩
 | some y =>
  obtain ⟨t,ns⟩:=y
  rw [hp] at hn h
  obtain ⟨_,v,he,ho,_⟩:=h
  obtain ⟨a,c,rfl,_⟩:=ho.form
  refine ⟨t,a,ns.length,c,true,he,?_⟩
  rw [beq_eq_false_iff_ne]
  intro e1
  have h1:ns.length=2:=by omega
  match ns,h1 with
  | [_,_],_=>cases hn
theorem one_ints (W:World) (x:Int):IntsAt (W.alloc (.cells #[.int .i64 x] 3)) (.slice (some ⟨W.heap.size,0,none⟩) 1 1) [x] :=
 intsAt_cells (l:=[x]) fun j z hj=>by
  rw [cell_of_row _ _ _ _ _ _ (heap_alloc_new W _)]
  match j,hj with
  | 0,hj=>cases hj; rfl
theorem sec_step (us:List Ent) (i:Nat) (x:Ent) (h:us[i]? = some x):(us.take (i+1)).filterMap secOf=(us.take i).filterMap secOf ++ (secOf x).toList:=filterMap_step _ _ _ _ h
theorem under_q (w:World) (h:Hand) (s:St) (p:ByteArray) (hq:QSt w h s) (hz:s.size < 1000000000000):Calls Tryz.prog 85 #[.pointer h.ptr,.string p] w (RetPairs w (underE p s.ents)):=by
 rcases hq with ⟨_,b,hp,hS⟩ | ⟨_,hN,hs,_⟩
 ·rw [hp]; exact under_any w b s h.L p hS hz
 ·subst hs; exact under_not w h.ptr p hN
theorem hstr_q (w:World) (h0:Hand) (s:St) (f:Nat) (a:Int) (ha:I63 a) (h:QSt w h0 s) (hf:s.Fit f) (hm:f < 10000000000) (hkey:∀ x∈s.ents,x.1.size < 1000000000000) :
  Calls Tryz.prog 32 #[.pointer h0.ptr,.int .i64 a] w fun e W'=>∃ v,e = .returned v∧Own W' 3 1 v (strH s a).length ((strH s a).map fun x=>Value.int .i64 x)∧Below w.heap.size w W':=by
 have hlen:s.ents.length < 1000000000000:=by have:=hf.size; unfold St.size at this; omega
 by_cases h1:a < 1
 ·have hd:decide (a < 1)=true:=decide_eq_true h1
  have he:strH s a = []:=by unfold strH; rw [if_pos h1]
  rw [he]
  clear h hf hkey he
  go_enter Tryz.func32,Tryz.ntmps32
  go_wp2_with fail
  go_ret
  exact ⟨_,rfl,Own.nil _ _ _,Below.refl _ _⟩
 have hd:decide (a < 1)=false:=decide_eq_false h1
 rw [show strH s a=(underE (keyL 10 [a]) s.ents).filterMap secOf by unfold strH; rw [if_neg h1]]
 have hb0:=Below.refl w.heap.size w
 have HK:Hid (Calls Tryz.prog 86 #[.int .i64 10,.slice (some ⟨w.heap.size,0,none⟩) 1 1] (w.alloc (.cells #[.int .i64 a] 3)) fun e w2=>e = .returned (.string (keyL 10 [a]))∧Below w.heap.size w w2) :=
  (key_any 10 (by decide) (by decide) _ [a] (w.alloc (.cells #[.int .i64 a] 3)) (one_ints w a) (by simp) (fun m hm=>by
   simp only [List.mem_cons,List.not_mem_nil,or_false] at hm
   subst hm
   unfold I63 at ha; omega)).mono fun e w2 ⟨he,hb⟩=>⟨he,bl_then (bl_alloc hb0 _) hb⟩
 have HU:Hid (∀ w1,Below w.heap.size w w1→Calls Tryz.prog 85 #[.pointer h0.ptr,.string (keyL 10 [a])] w1 fun e w2=>∃ ad c,e = .returned (.slice ad (underE (keyL 10 [a]) s.ents).length c)∧PairsAt w2 ad (underE (keyL 10 [a]) s.ents)∧Below w.heap.size w w2):=fun w1 h1 =>
  (under_q w1 h0 s (keyL 10 [a]) (h.below h1) (Nat.lt_of_le_of_lt hf.size (by omega))).mono fun e w2 ⟨v,he,hO⟩=>by
   obtain ⟨ad,c,rfl,hp⟩:=hO.1.pairs
   exact ⟨ad,c,he,hp,h1.trans (hO.2.2.mono h1.size)⟩
 have HL:Hid ((underE (keyL 10 [a]) s.ents).length < 1000000000000):=Nat.lt_of_le_of_lt (underE_len _ _) hlen
 have HKS:Hid (∀ (i:Nat) (x:Ent),(underE (keyL 10 [a]) s.ents)[i]? = some x→x.1.size < 1000000000000):=fun i x hx=>hkey x (by have h:=List.mem_of_getElem? hx; unfold underE at h; exact (List.mem_filter.1 h).1)
 generalize underE (keyL 10 [a]) s.ents=us at *
 clear h hlen hkey hf h1
 generalize keyL 10 [a]=kt at *
 go_enter Tryz.func32,Tryz.ntmps32
 go_wp2_with fail
 refine Calls.mono HK.out ?_
 rintro e w1 ⟨rfl,hb1⟩
 go_wp2_with fail
 refine Calls.mono (HU.out w1 hb1) ?_
 rintro e w2 ⟨ad,c,rfl,hp,hb2⟩
 have HP:=Lib.hid hp
 have HG:Hid (∀ k,k < us.length→∃ x,us[k]? = some x):=fun k hk=>⟨_,List.getElem?_eq_getElem hk⟩
 have HFL:Hid (∀ k,(((us.take k).filterMap secOf).length≤k)):=fun k=>by
  refine Nat.le_trans (filterMap_len _ _) ?_
  rw [List.length_take]; exact Nat.min_le_left _ _
 have H0:Hid (IntsOut w2 ((us.take 0).filterMap secOf) (.slice none 0 0) w2):=⟨Own.nil _ _ _,fun g hg=>by simp [Value.ownBlock] at hg,Below.refl _ _⟩
 have HEE:Hid (∀ v wr,IntsOut w2 (us.filterMap secOf) v wr→∃ v',Ending.returned v = .returned v'∧Own wr 3 1 v' (us.filterMap secOf).length ((us.filterMap secOf).map fun x=>Value.int .i64 x)∧Below w.heap.size w wr):=fun v wr hO=>⟨v,rfl,hO.1,hb2.trans (hO.2.2.mono hb2.size)⟩
 clear hp hb1 hb0 HU HK hb2
 go_wp2_with fail
 go_loopw [5,19] (fun v iv wr=>∃ k:Nat,iv = .int .i64 k∧k≤us.length∧IntsOut w2 ((us.take k).filterMap secOf) v wr) (fun _ iv _=>us.length - (intOf iv).toNat)
 case atStart=>exact ⟨0,rfl,by omega,H0.out⟩
 case round =>
  obtain ⟨k,rfl,hk,hR⟩:=hrel
  have HR:=Lib.hid hR
  clear hR H0
  have hL:=HL.out
  by_cases hlt:k < us.length
  ·obtain ⟨x,hx⟩:=HG.out k hlt
   obtain ⟨g,rfl,q1,q2⟩:=HP.out.at0 k x hx
   have c1:wr.cell? ⟨g,k*2,none⟩=some (.string x.1):=by rw [HR.out.2.2.cell (p:=⟨g,k*2,none⟩) (World.block_lt_of_cell? w2 _ q1)]; exact q1
   have c2:wr.cell? ⟨g,k*2+1,none⟩=some (.string x.2):=by rw [HR.out.2.2.cell (p:=⟨g,k*2+1,none⟩) (World.block_lt_of_cell? w2 _ q2)]; exact q2
   have hba:Below wr.heap.size wr (wr.alloc (.cells #[.string x.1,.string x.2] 137)):=(Below.refl _ wr).alloc (Nat.le_refl _) _
   have hPA:=parse_any x.1 (HKS.out k x hx) (wr.alloc (.cells #[.string x.1,.string x.2] 137))
   have hst:=sec_step us k x hx
   have hfl:=HFL.out k
   clear q1 q2
   cases hn:nums2 x.1 with
   | none =>
    rw [show secOf x=none by unfold secOf; rw [hn]; rfl] at hst
    simp only [Option.toList_none,List.append_nil] at hst
    have HPA:Hid (Calls Tryz.prog 87 #[.string x.1] (wr.alloc (.cells #[.string x.1,.string x.2] 137)) fun e w3=>(∃ (t:Int) (a:Option Addr) (m c:Nat) (ok:Bool),e = .returned (.tuple #[.int .i64 t,.slice a m c,.bool ok])∧((m:Int) == 2)=false)∧IntsOut w2 ((us.take (k+1)).filterMap secOf) u5 w3) :=
     hPA.mono fun e w3 hr=>⟨parse_n2no hr hn,by rw [hst]; exact HR.out.below (hba.trans (hr.1.mono (by simp)))⟩
    clear hPA hst hn hx HR hba
    go_wp2_with fail
    refine Calls.mono HPA.out ?_
    rintro e w3 ⟨⟨t,a3,m3,c3,ok,rfl,hm3⟩,hR3⟩
    have HR3:=Lib.hid hR3
    clear hR3 HPA
    cases ok with
    | true =>
     go_wp2_with fail
     go_roundw
     case rel=>exact ⟨k+1,by go_num,by omega,HR3.out⟩
     case measure=>simp [intOf]; omega
    | false =>
     go_wp2_with fail
     go_roundw
     case rel=>exact ⟨k+1,by go_num,by omega,HR3.out⟩
     case measure=>simp [intOf]; omega
   | some y =>
    rw [show secOf x=some (y.2:Int) by unfold secOf; rw [hn]; rfl] at hst
    simp only [Option.toList_some] at hst
    have HPA:Hid (Calls Tryz.prog 87 #[.string x.1] (wr.alloc (.cells #[.string x.1,.string x.2] 137)) fun e w3=>(∃ (t:Int) (g c:Nat),e = .returned (.tuple #[.int .i64 t,.slice (some ⟨g,0,none⟩) 2 c,.bool true])∧w3.cell? ⟨g,1,none⟩=some (.int .i64 y.2)∧IntsOut w2 ((us.take k).filterMap secOf) u5 w3)):=by
     refine hPA.mono fun e w3 hr => ?_
     obtain ⟨t,g,c,he,hc⟩:=parse_n2 hr hn
     exact ⟨t,g,c,he,hc _ (Below.refl _ _),HR.out.below (hba.trans (hr.1.mono (by simp)))⟩
    have hform:=HR.out.form
    clear hPA hn hx HR hba
    generalize (y.2:Int)=z at *
    generalize (us.take k).filterMap secOf=fs at *
    obtain ⟨m,hm⟩:∃ m,fs.length=m:=⟨_,rfl⟩
    have HM:=Lib.hid hm
    rw [hm] at hform hfl
    clear hm
    obtain ⟨av,cv,hv⟩:=hform
    subst hv
    have h33:((2:Nat):Int)=2:=rfl
    have HST2:Hid ((us.take (k+1)).filterMap secOf=fs ++ [z]):=hst
    clear hst
    go_wp2_with fail
    refine Calls.mono HPA.out ?_
    rintro e w3 ⟨t,g3,c3,rfl,hg3,hR3⟩
    have HR3:=Lib.hid hR3
    have HPUSH:Hid (∀ o1 v' w',Appended (w3.alloc o1) 3 1 (.slice av m cv) m 1 (fs.map fun n=>Value.int .i64 n) [.int .i64 z] v' w'→IntsOut w2 ((us.take (k+1)).filterMap secOf) v' w'):=fun o1 v' w' hA=>by
     rw [HST2.out]; exact HR3.out.push (by rw [HM.out]; exact hA)
    have HOO:Hid (∀ o1,Own (w3.alloc o1) 3 1 (.slice av m cv) m (fs.map fun n=>Value.int .i64 n)):=fun o1=>by
     have:=(HR3.out.below ((Below.refl _ w3).alloc (Nat.le_refl _) o1)).1
     rw [HM.out] at this; exact this
    clear hR3 HST2 HR3 HM HPA
    generalize (fs.map fun n=>Value.int .i64 n)=xs at *
    go_wp2_with (at_builtin; refine wpList_append_Own rfl _ _ 69 69 rfl intT intT _ m xs rfl (HOO.out _) _ 1 _ [.int .i64 z] rfl rfl (news_one _ _ _) (by intro u hu; rw [List.mem_singleton.1 hu]; rfl) (by unfold maxLen; omega) (by omega) ?_)
    intro v' w' hA
    have HR2:=Lib.hid (HPUSH.out _ _ _ hA)
    clear hA
    go_wp2_with fail
    go_roundw
    case rel=>exact ⟨k+1,by go_num,by omega,HR2.out⟩
    case measure=>simp [intOf]; omega
  ·obtain rfl:k=us.length:=by omega
   have HE2:=HR.out
   rw [List.take_length] at HE2
   have HE3:=Lib.hid (HEE.out _ _ HE2)
   clear HE2
   go_wp2_with fail
   go_ret
   exact HE3.out
end Go.Proofs.YtpojljieakdgiaaGreat
namespace Go.Proofs.YtpojljieakdgiaaGreat
open Go.RowKit
end Go.Proofs.YtpojljieakdgiaaGreat
