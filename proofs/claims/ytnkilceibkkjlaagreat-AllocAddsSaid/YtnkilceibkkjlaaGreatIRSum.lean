/- What is proved here: tallageref01.Plus and Minus of the reference. Their condition: digits below 2^32, fewer than 10^6. tallageref01.Minus of the reference. Its condition: digits below 2^32, fewer than 10^5. tallageref01.Times of the reference. Its condition: digits below 2^32, fewer than 10^4. -/
import Derived.Test.YtnkilceibkkjlaaGreatIRDig
set_option maxRecDepth 100000
set_option maxHeartbeats 16000000
namespace Go.Proofs.YtnkilceibkkjlaaGreat
open Go.RowKit
def dg (l:List Nat) (k:Nat):Nat:=l.getD k 0
theorem dg_at {l:List Nat} {k:Nat} (h:k < l.length):l[k]? = some (dg l k):=getD_at h
theorem dg_lt {l:List Nat} (h:DOk l) (k:Nat):dg l k < 4294967296:=Words.getD (by decide) (fun d hd=>h d hd) k
theorem dg_out {l:List Nat} {k:Nat} (h:l.length≤k):dg l k=0:=by
 unfold dg; rw [List.getD_eq_getElem?_getD,List.getElem?_eq_none h]; rfl
theorem natOf_take_dg (l:List Nat) (k:Nat):natOf (l.take (k+1))=natOf (l.take k)+BP k*dg l k:=by
 by_cases h:k < l.length
 ·exact natOf_take_succ (dg_at h)
 ·have e:dg l k=0:=by unfold dg; rw [List.getD_eq_getElem?_getD,List.getElem?_eq_none (by omega)]; rfl
  rw [e,List.take_of_length_le (by omega),List.take_of_length_le (by omega)]; simp
theorem dV_snoc (l:List Nat) (d:Nat):dV (l ++ [d])=dV l ++ [.int .u32 (d:Int)]:=by simp [dV]
structure MkAt (w:World) (aa ab:Option Addr) (da db:List Nat) (ca cb:Nat) (o:List Nat) (v:Value) (wr:World):Prop where
 b:Below w.heap.size w wr
 a:DgIn wr aa da ca
 c:DgIn wr ab db cb
 o:Own wr 181 1 v o.length (dV o)
 f:∀ g,v.ownBlock=some g→w.heap.size≤g
 na:∀ g,aa=some ⟨g,0,none⟩→g < w.heap.size∨da = []
 nb:∀ g,ab=some ⟨g,0,none⟩→g < w.heap.size∨db = []
theorem DgIn.old {w:World} {ad:Option Addr} {ds:List Nat} {c:Nat} (h:DgIn w ad ds c):∀ g,ad=some ⟨g,0,none⟩→g < w.heap.size∨ds = []:=fun g hg=>by
 rcases h.2 with ⟨h1,h2⟩ | ⟨g',h1,h2⟩
 ·exact .inr h2
 ·rw [h1] at hg
  cases hg
  cases ds with
  | nil=>exact .inr rfl
  | cons d ds=>exact .inl (World.block_lt_of_cell? w _ (h2 0 d rfl))
theorem DgIn.keep {w wr w':World} {ad:Option Addr} {ds:List Nat} {c:Nat} (h:DgIn wr ad ds c) (hn:∀ g,ad=some ⟨g,0,none⟩→g < w.heap.size∨ds = []) (hb:∀ g,g < w.heap.size→w'.heap[g]? = wr.heap[g]?):DgIn w' ad ds c:=by
 obtain ⟨h1,h2⟩:=h
 refine ⟨h1,?_⟩
 rcases h2 with h2 | ⟨g,h2,h3⟩
 ·exact .inl h2
 ·refine .inr ⟨g,h2,fun j d hj => ?_⟩
  rcases hn g h2 with h4 | h4
  ·rw [World.cell?_of_block (w:=wr) (hb g h4)]; exact h3 j d hj
  ·rw [h4] at hj; simp at hj
theorem MkAt.start {w:World} {aa ab:Option Addr} {da db:List Nat} {ca cb:Nat} (hA:DgIn w aa da ca) (hB:DgIn w ab db cb):MkAt w aa ab da db ca cb [] (.slice none 0 0) w :=
 ⟨Below.refl _ _,hA,hB,Own.nil _ _ _,fun g hg=>by simp [Value.ownBlock] at hg,hA.old,hB.old⟩
theorem MkAt.next {w wr:World} {aa ab:Option Addr} {da db:List Nat} {ca cb:Nat} {o:List Nat} {v:Value} {n:Nat} (hn:o.length=n) (h:MkAt w aa ab da db ca cb o v wr):(∀ b,Own (wr.alloc b) 181 1 v n (dV o))∧∀ (d:Nat) v' w' b,Appended (wr.alloc b) 181 1 v n 1 (dV o) [.int .u32 (d:Int)] v' w'→MkAt w aa ab da db ca cb (o ++ [d]) v' w':=by
 subst hn
 have hsz:=h.b.size
 refine ⟨fun b=>h.o.frame fun g hg=>heap_alloc_old wr b (h.o.lt g hg),fun d v' w' b hA => ?_⟩
 obtain ⟨h1,h2,_,h4⟩:=hA
 have hf:∀ g,v'.ownBlock=some g→w.heap.size≤g:=fun g hg=>by
  rcases h4 g hg with h5 | h5
  ·exact h.f g h5
  ·rw [World.size_alloc] at h5
   omega
 have hb:Below w.heap.size w w':=Below.grown (bl_alloc h.b b) h2 (by rw [World.size_alloc]; omega) h.f
 have hk:∀ g,g < w.heap.size→w'.heap[g]? = wr.heap[g]?:=fun g hg=>by
  rw [h2.block g (by rw [World.size_alloc]; omega) (fun e=>by have:=h.f _ e.symm; omega),heap_alloc_old wr b (by omega)]
 refine ⟨hb,h.a.keep h.na hk,h.c.keep h.nb hk,?_,hf,h.na,h.nb⟩
 rw [dV_snoc,List.length_append]; exact h1
theorem MkAt.trim {w wr:World} {aa ab:Option Addr} {da db:List Nat} {ca cb:Nat} {o:List Nat} {v:Value} (h:MkAt w aa ab da db ca cb o v wr) (hd:DOk o) (hl:o.length < 1000000):Calls Tryz.prog 127 #[v] wr (RetDg w (natOf o)):=own_trim h.b h.o rfl hd hl h.f
theorem one_u32 (x:Int):∀ u∈[Value.int .u32 x],u.oneCell'=true:=by intro u hu; rw [List.mem_singleton.1 hu]; rfl
def mnC (a b:List Nat):Nat→Nat
 | 0=>0
 | k+1=>if dg a k < mnC a b k+dg b k then 1 else 0
def mnV (a b:List Nat) (k:Nat):Nat:=if dg a k < mnC a b k+dg b k then dg a k+4294967296 - (mnC a b k+dg b k) else dg a k - (mnC a b k+dg b k)
def mnD (a b:List Nat):Nat→List Nat
 | 0 => []
 | k+1=>mnD a b k ++ [mnV a b k]
theorem mnC_le (a b:List Nat):∀ k,mnC a b k≤1
 | 0=>by show 0≤1; decide
 | k+1=>by show (if _ then 1 else 0)≤1; split <;> omega
theorem mnD_len (a b:List Nat):∀ k,(mnD a b k).length=k
 | 0=>rfl
 | k+1=>by rw [mnD,List.length_append,mnD_len a b k]; rfl
theorem mnV_lt {a b:List Nat} (ha:DOk a) (k:Nat):mnV a b k < 4294967296:=by
 have:=dg_lt ha k
 unfold mnV; split <;> omega
theorem mnD_ok {a:List Nat} (ha:DOk a) (b:List Nat):∀ k,DOk (mnD a b k)
 | 0=>fun d hd=>by cases hd
 | k+1=>(mnD_ok ha b k).snoc (mnV_lt ha k)
theorem mnD_dif {a b:List Nat} (ha:DOk a) (hb:DOk b):∀ k,natOf (mnD a b k)+natOf (b.take k)=natOf (a.take k)+BP k*mnC a b k
 | 0=>by simp [mnD,mnC,natOf,dgN]
 | k+1=>by
  have h:=mnD_dif ha hb k
  have hc:=mnC_le a b k
  have h1:=dg_lt ha k
  have h2:=dg_lt hb k
  have hv:mnV a b k+mnC a b k+dg b k=dg a k+4294967296*mnC a b (k+1):=by
   show mnV a b k+mnC a b k+dg b k=dg a k+4294967296*(if dg a k < mnC a b k+dg b k then 1 else 0)
   unfold mnV
   split <;> omega
  rw [mnD,natOf_snoc,mnD_len,natOf_take_dg,natOf_take_dg,BP_succ]
  generalize mnC a b (k+1)=c1 at *
  generalize mnV a b k=v at *
  have h3:=congrArg (BP k * ·) hv
  simp only [Nat.mul_add] at h3
  rw [Nat.mul_left_comm (BP k) 4294967296 c1] at h3
  rw [Nat.mul_assoc]
  omega
abbrev RetDgB (w:World) (n:Nat) (b:Bool) (e:Ending) (w':World):Prop:=(∃ u,e = .returned (.tuple #[u,.bool b])∧DgF w w' u (digs n))∧Below w.heap.size w w'
theorem minus_not (w:World) (va vb:Value) (da db:List Nat) (ha:DOk da) (hb:DOk db) (hla:da.length < 100000) (hlb:db.length < 100000) (hA:DgAt w va da) (hB:DgAt w vb db) (h:natOf da < natOf db):Calls Tryz.prog 78 #[va,vb] w (RetDgB w 0 false):=by
 have HC:Hid (Calls Tryz.prog 56 #[va,vb] w fun e w'=>e = .returned (.int .i64 (-1))∧Below w.heap.size w w'):=(ncmp_any w va vb da db ha hb (by omega) (by omega) hA hB).mono fun e w' ⟨he,h1⟩=>⟨by rw [he]; unfold cmpN; rw [if_pos h],h1⟩
 have HD:Hid (∀ w',DgF w w' (.slice none 0 0) (digs 0)):=fun w'=>by
  rw [digs_zero]
  exact ⟨none,0,rfl,⟨Nat.le_refl _,.inl ⟨rfl,rfl⟩⟩,fun g hg=>by cases hg⟩
 clear ha hb hla hlb hA hB h
 go_enter Tryz.func78,Tryz.ntmps78
 go_wp2_with fail
 refine Calls.mono HC.out ?_
 rintro e w1 ⟨rfl,hb1⟩
 have HB:=Lib.hid hb1
 clear hb1 HC
 go_wp2_with fail
 refine bodyPost_ret (results_tmp2 rfl _ _ _) rfl ?_
 exact ⟨⟨_,rfl,HD.out _⟩,HB.out⟩
theorem minus_any (w:World) (va vb:Value) (da db:List Nat) (ha:DOk da) (hb:DOk db) (hla:da.length < 100000) (hlb:db.length < 100000) (hA:DgAt w va da) (hB:DgAt w vb db) (h:natOf db≤natOf da):Calls Tryz.prog 78 #[va,vb] w (RetDgB w (natOf da - natOf db) true):=by
 obtain ⟨aa,ca,rfl,hA⟩:=hA
 obtain ⟨ab,cb,rfl,hB⟩:=hB
 obtain ⟨cc,hcc,hc0⟩:∃ c:Int,cmpN (natOf da) (natOf db)=c∧decide (c < 0)=false:=⟨_,rfl,by unfold cmpN; rw [if_neg (by omega)]; split <;> decide⟩
 have HNC:Hid (Calls Tryz.prog 56 #[.slice aa da.length ca,.slice ab db.length cb] w fun e w'=>e = .returned (.int .i64 cc)∧MkAt w aa ab da db ca cb [] (.slice none 0 0) w'):=(ncmp_any w _ _ da db ha hb (by omega) (by omega) ⟨aa,ca,rfl,hA⟩ ⟨ab,cb,rfl,hB⟩).mono fun e w' ⟨he,h1⟩=>⟨by rw [he,hcc],h1,hA.below h1,hB.below h1,Own.nil _ _ _,fun g hg=>by simp [Value.ownBlock] at hg,hA.old,hB.old⟩
 have HC:Hid (∀ k,mnC da db k≤1):=mnC_le da db
 have HL:=Lib.hid (mnD_len da db)
 have HE:Hid (∀ v wr,MkAt w aa ab da db ca cb (mnD da db da.length) v wr→Calls Tryz.prog 127 #[v] wr (RetDg w (natOf da - natOf db))):=fun v wr hM=>by
  have h5:=mnD_dif ha hb da.length
  have hmd:=natOf_lt (mnD_ok ha db da.length)
  rw [mnD_len] at hmd
  have h6:natOf (db.take da.length)=natOf db:=by
   rw [natOf_mod hb]
   refine Nat.mod_eq_of_lt ?_
   have:=natOf_lt ha
   omega
  rw [List.take_length,h6] at h5
  have hcl:=mnC_le da db da.length
  have h7:mnC da db da.length=0:=by
   rcases (by omega:mnC da db da.length=0∨mnC da db da.length=1) with e | e
   ·exact e
   ·rw [e,Nat.mul_one] at h5
    omega
  rw [h7,Nat.mul_zero,Nat.add_zero] at h5
  have h8:natOf (mnD da db da.length)=natOf da - natOf db:=by omega
  rw [← h8]
  exact hM.trim (mnD_ok ha db _) (by rw [mnD_len]; omega)
 have HDa:=Lib.hid (fun k=>dg_lt ha k)
 have HDb:=Lib.hid (fun k=>dg_lt hb k)
 clear hA hB ha hb hcc h
 go_enter Tryz.func78,Tryz.ntmps78
 go_wp2_with fail
 refine Calls.mono HNC.out ?_
 rintro e w1 ⟨rfl,hM⟩
 have H0:=Lib.hid hM
 clear hM HNC
 go_wp2_with fail
 go_loopw [8,6,7] (fun iv v cv wr=>∃ k:Nat,iv = .int .i64 k∧k≤da.length∧cv = .int .u64 (mnC da db k)∧MkAt w aa ab da db ca cb (mnD da db k) v wr) (fun iv _ _ _=>da.length - (intOf iv).toNat)
 case atStart=>exact ⟨0,rfl,by omega,rfl,H0.out⟩
 case round =>
  obtain ⟨k,rfl,hk,rfl,hM⟩:=hrel
  have HM:=Lib.hid hM
  clear hM H0
  have hc:=HC.out k
  by_cases hka:k < da.length
  ·have d1:decide ((k:Int) < ((da.length:Nat):Int))=true:=decide_eq_true (by omega)
   have d2:decide (k < da.length)=true:=decide_eq_true hka
   obtain ⟨g,hga,hcx⟩:=HM.out.a.at (dg_at hka)
   have hix:=dg_index (c:=ca) hga hka
   have hxl:=HDa.out k
   obtain ⟨ho,hn⟩:=MkAt.next (HL.out k) HM.out
   have HO:=Lib.hid ho
   by_cases hkb:k < db.length
   ·have d3:decide ((k:Int) < ((db.length:Nat):Int))=true:=decide_eq_true (by omega)
    have d4:decide (k < db.length)=true:=decide_eq_true hkb
    obtain ⟨f,hfb,hcy⟩:=HM.out.c.at (dg_at hkb)
    have hiy:=dg_index (c:=cb) hfb hkb
    have hyl:=HDb.out k
    by_cases hlt:dg da k < mnC da db k+dg db k
    ·have HN:Hid (∀ v' w' b,Appended (wr.alloc b) 181 1 _ k 1 (dV (mnD da db k)) [.int .u32 ((dg da k+4294967296 - (mnC da db k+dg db k):Nat):Int)] v' w'→MkAt w aa ab da db ca cb (mnD da db (k+1)) v' w'):=fun v' w' b hA=>by
      have:=hn _ v' w' b hA
      rw [mnD,show mnV da db k=dg da k+4294967296 - (mnC da db k+dg db k) from if_pos hlt]; exact this
     have HCS:Hid (mnC da db (k+1)=1):=if_pos hlt
     clear ho hn hga hfb HE HDa HDb HC
     generalize dg da k=x at *
     generalize dg db k=y at *
     generalize mnC da db k=c at *
     have hve:((x+4294967296 - (c+y):Nat):Int)=(x:Int)+4294967296 - ((c:Int)+(y:Int)):=by omega
     rw [hve] at HN
     have dl:decide ((x:Int) < ((c:Int)+(y:Int)))=true:=decide_eq_true (by omega)
     have dl2:decide (x < c+y)=true:=decide_eq_true hlt
     clear hve
     go_wp2_with (at_builtin; refine wpList_append_Own rfl _ _ 115 115 rfl digT digT _ k _ rfl (HO.out _) _ 1 _ [.int .u32 ((x:Int)+4294967296 - ((c:Int)+(y:Int)))] rfl rfl (news_one _ _ _) (one_u32 _) (by unfold maxLen; omega) (by omega) ?_)
     intro v' w' hA
     have HR:=Lib.hid (HN.out v' w' _ hA)
     clear hA HN HO
     go_wp2_with fail
     go_roundw
     case rel=>exact ⟨k+1,by go_num,by omega,by rw [HCS.out]; rfl,HR.out⟩
     case measure=>simp [intOf]; omega
    ·have HN:Hid (∀ v' w' b,Appended (wr.alloc b) 181 1 _ k 1 (dV (mnD da db k)) [.int .u32 ((dg da k - (mnC da db k+dg db k):Nat):Int)] v' w'→MkAt w aa ab da db ca cb (mnD da db (k+1)) v' w'):=fun v' w' b hA=>by
      have:=hn _ v' w' b hA
      rw [mnD,show mnV da db k=dg da k - (mnC da db k+dg db k) from if_neg hlt]; exact this
     have HCS:Hid (mnC da db (k+1)=0):=if_neg hlt
     clear ho hn hga hfb HE HDa HDb HC
     generalize dg da k=x at *
     generalize dg db k=y at *
     generalize mnC da db k=c at *
     have hve:((x - (c+y):Nat):Int)=(x:Int) - ((c:Int)+(y:Int)):=by omega
     rw [hve] at HN
     have dl:decide ((x:Int) < ((c:Int)+(y:Int)))=false:=decide_eq_false (by omega)
     have dl2:decide (x < c+y)=false:=decide_eq_false hlt
     have hle:c+y≤x:=by omega
     clear hve
     go_wp2_with (at_builtin; refine wpList_append_Own rfl _ _ 115 115 rfl digT digT _ k _ rfl (HO.out _) _ 1 _ [.int .u32 ((x:Int) - ((c:Int)+(y:Int)))] rfl rfl (news_one _ _ _) (one_u32 _) (by unfold maxLen; omega) (by omega) ?_)
     intro v' w' hA
     have HR:=Lib.hid (HN.out v' w' _ hA)
     clear hA HN HO
     go_wp2_with fail
     go_roundw
     case rel=>exact ⟨k+1,by go_num,by omega,by rw [HCS.out]; rfl,HR.out⟩
     case measure=>simp [intOf]; omega
   ·have d3:decide ((k:Int) < ((db.length:Nat):Int))=false:=decide_eq_false (by omega)
    have d4:decide (k < db.length)=false:=decide_eq_false hkb
    by_cases hlt:dg da k < mnC da db k+dg db k
    ·have ez:dg db k=0:=dg_out (by omega)
     have HN:Hid (∀ v' w' b,Appended (wr.alloc b) 181 1 _ k 1 (dV (mnD da db k)) [.int .u32 ((dg da k+4294967296 - mnC da db k:Nat):Int)] v' w'→MkAt w aa ab da db ca cb (mnD da db (k+1)) v' w'):=fun v' w' b hA=>by
      have:=hn _ v' w' b hA
      rw [mnD,show mnV da db k=dg da k+4294967296 - mnC da db k from (if_pos hlt).trans (by omega)]; exact this
     have HCS:Hid (mnC da db (k+1)=1):=if_pos hlt
     rw [ez] at hlt
     clear ho hn hga ez HE HDa HDb HC
     generalize dg da k=x at *
     generalize mnC da db k=c at *
     have hve:((x+4294967296 - (c):Nat):Int)=(x:Int)+4294967296 - (c:Int):=by omega
     rw [hve] at HN
     have dl:decide ((x:Int) < (c:Int))=true:=decide_eq_true (by omega)
     have dl2:decide (x < c)=true:=decide_eq_true hlt
     clear hve
     go_wp2_with (at_builtin; refine wpList_append_Own rfl _ _ 115 115 rfl digT digT _ k _ rfl (HO.out _) _ 1 _ [.int .u32 ((x:Int)+4294967296 - (c:Int))] rfl rfl (news_one _ _ _) (one_u32 _) (by unfold maxLen; omega) (by omega) ?_)
     intro v' w' hA
     have HR:=Lib.hid (HN.out v' w' _ hA)
     clear hA HN HO
     go_wp2_with fail
     go_roundw
     case rel=>exact ⟨k+1,by go_num,by omega,by rw [HCS.out]; rfl,HR.out⟩
     case measure=>simp [intOf]; omega
    ·have ez:dg db k=0:=dg_out (by omega)
     have HN:Hid (∀ v' w' b,Appended (wr.alloc b) 181 1 _ k 1 (dV (mnD da db k)) [.int .u32 ((dg da k - mnC da db k:Nat):Int)] v' w'→MkAt w aa ab da db ca cb (mnD da db (k+1)) v' w'):=fun v' w' b hA=>by
      have:=hn _ v' w' b hA
      rw [mnD,show mnV da db k=dg da k - mnC da db k from (if_neg hlt).trans (by omega)]; exact this
     have HCS:Hid (mnC da db (k+1)=0):=if_neg hlt
     rw [ez] at hlt
     clear ho hn hga ez HE HDa HDb HC
     generalize dg da k=x at *
     generalize mnC da db k=c at *
     have hve:((x - (c):Nat):Int)=(x:Int) - (c:Int):=by omega
     rw [hve] at HN
     have dl:decide ((x:Int) < (c:Int))=false:=decide_eq_false (by omega)
     have dl2:decide (x < c)=false:=decide_eq_false hlt
     have hle:c≤x:=by omega
     clear hve
     go_wp2_with (at_builtin; refine wpList_append_Own rfl _ _ 115 115 rfl digT digT _ k _ rfl (HO.out _) _ 1 _ [.int .u32 ((x:Int) - (c:Int))] rfl rfl (news_one _ _ _) (one_u32 _) (by unfold maxLen; omega) (by omega) ?_)
     intro v' w' hA
     have HR:=Lib.hid (HN.out v' w' _ hA)
     clear hA HN HO
     go_wp2_with fail
     go_roundw
     case rel=>exact ⟨k+1,by go_num,by omega,by rw [HCS.out]; rfl,HR.out⟩
     case measure=>simp [intOf]; omega
  ·obtain rfl:k=da.length:=by omega
   have d1:decide (((da.length:Nat):Int) < ((da.length:Nat):Int))=false:=decide_eq_false (by omega)
   have d2:decide (da.length < da.length)=false:=decide_eq_false (by omega)
   have HT:=Lib.hid (HE.out _ wr HM.out)
   clear HE HC HDa HDb HM hc
   go_wp2_with fail
   refine Calls.mono HT.out ?_
   rintro e w2 ⟨⟨u,rfl,hD⟩,hb⟩
   have HD:=Lib.hid hD
   have HB:=Lib.hid hb
   clear hD hb HT
   go_wp2_with fail
   refine bodyPost_ret (results_tmp2 rfl _ _ _) rfl ?_
   exact ⟨⟨_,rfl,HD.out⟩,HB.out⟩
abbrev aD (l:List Nat):Array Value:=(dV l).toArray
theorem aD_set (l:List Nat) (k v:Nat):(aD l).setIfInBounds k (.int .u32 v)=aD (l.set k v):=by
 simp [aD,dV]
structure XAt (w:World) (aa ab:Option Addr) (da db:List Nat) (ca cb:Nat) (l:List Nat) (wr:World):Prop where
 b:Below w.heap.size w wr
 a:DgIn wr aa da ca
 c:DgIn wr ab db cb
 o:wr.heap[w.heap.size]? = some (.cells (aD l) 181 (0,0))
 na:∀ g,aa=some ⟨g,0,none⟩→g < w.heap.size∨da = []
 nb:∀ g,ab=some ⟨g,0,none⟩→g < w.heap.size∨db = []
theorem XAt.start {w:World} {aa ab:Option Addr} {da db:List Nat} {ca cb:Nat} (hA:DgIn w aa da ca) (hB:DgIn w ab db cb) (n:Nat):XAt w aa ab da db ca cb (List.replicate n 0) (w.alloc (.cells (aD (List.replicate n 0)) 181)) :=
 ⟨bl_alloc (Below.refl _ _) _,hA.below (bl_alloc (Below.refl _ _) _),hB.below (bl_alloc (Below.refl _ _) _),heap_alloc_new w _,hA.old,hB.old⟩
theorem XAt.put {w wr:World} {aa ab:Option Addr} {da db:List Nat} {ca cb:Nat} {l:List Nat} (h:XAt w aa ab da db ca cb l wr) (k v:Nat):XAt w aa ab da db ca cb (l.set k v) (wr.setCell ⟨w.heap.size,k,none⟩ (.int .u32 v)):=by
 have hk:∀ g,g < w.heap.size→(wr.setCell ⟨w.heap.size,k,none⟩ (.int .u32 v)).heap[g]? = wr.heap[g]?:=fun g hg=>Below.heap_setCell _ _ _ _ (by simp; omega)
 refine ⟨h.b.setCell (p:=⟨w.heap.size,k,none⟩) (by simp) _,h.a.keep h.na hk,h.c.keep h.nb hk,?_,h.na,h.nb⟩
 rw [← aD_set l k v]
 exact heap_setCell_same _ _ _ _ _ _ h.o
theorem XAt.drew {w wr:World} {aa ab:Option Addr} {da db:List Nat} {ca cb:Nat} {l:List Nat} (h:XAt w aa ab da db ca cb l wr):XAt w aa ab da db ca cb l wr.drew:=⟨bl_drew h.b,h.a.below (bl_drew (Below.refl _ _)),h.c.below (bl_drew (Below.refl _ _)),h.o,h.na,h.nb⟩
theorem XAt.dg {w wr:World} {aa ab:Option Addr} {da db:List Nat} {ca cb:Nat} {l:List Nat} (h:XAt w aa ab da db ca cb l wr) {n:Nat} (hn:l.length=n):DgAt wr (.slice (some ⟨w.heap.size,0,none⟩) n n) l:=by
 subst hn
 refine ⟨_,_,rfl,Nat.le_refl _,.inr ⟨_,rfl,fun j d hj => ?_⟩⟩
 rw [cell_of_row _ _ _ _ _ _ h.o,List.getElem?_toArray,List.getElem?_map,hj]; rfl
end Go.Proofs.YtnkilceibkkjlaaGreat
