/- What is proved here: cell.SetRow and Next, and the reference's own: a row is written; a number is one more. Their conditions: numbers from nought to 2^63, sizes. exits of the program: the deferred undo; a number drawn, a row written by a hand. Conditions: a made store, sizes. exits of the program: (Exit).note. Conditions: a made store, a good exit, sizes. SetRow of no numbers; a queue's numbers, set (turn). Conditions -/
import Derived.Test.YtnkilceibkkjlaaGreatICell
import Derived.Test.YtnkilceibkkjlaaGreatIHistP
import Derived.Test.YtnkilceibkkjlaaGreatIUndG
import Derived.Test.YtnkilceibkkjlaaGreatILeast
set_option maxRecDepth 100000
set_option maxHeartbeats 16000000
namespace Go.Proofs.YtnkilceibkkjlaaGreat
open Go.RowKit
def rowBy (l:List Int):List UInt8:=l.flatMap fun n=>be8 n.toNat
def rowB (l:List Int):ByteArray:=⟨(rowBy l).toArray⟩
theorem rowBy_len (l:List Int):(rowBy l).length=8*l.length:=by
 unfold rowBy
 induction l with
 | nil=>rfl
 | cons x l ih=>simp only [List.flatMap_cons,List.length_cons,List.length_append,be8_len,ih]; omega
theorem rowBy_snoc (l:List Int) (n:Int):rowBy (l ++ [n])=rowBy l ++ be8 n.toNat:=by simp [rowBy]
theorem numsL_row:∀ (l:List Int),(∀ n∈l,0≤n∧n < 9223372036854775808)→numsL (rowBy l)=some (l.map (·.toNat))
 | [],_=>rfl
 | n :: l,h=>by
  have hn:=h n (by simp)
  have e:rowBy (n :: l)=be8 n.toNat ++ rowBy l:=by simp [rowBy]
  have h8:(be8 n.toNat).length=8:=rfl
  rw [e,numsL_step _ (by rw [List.length_append,h8]; omega),List.take_append_of_le_length (by omega),List.take_of_length_le (by omega),List.drop_append_of_le_length (by omega),List.drop_of_length_le (by omega),List.nil_append,numsL_row l fun m hm=>h m (by simp [hm])]
  have h2:=numsL_numB n.toNat (by omega)
  rw [numB_list,numsL_step _ (by omega),List.take_of_length_le (by omega),List.drop_of_length_le (by omega)] at h2
  split at h2
  ·next hb =>
   simp [numsL] at h2
   rw [if_pos hb,h2]; rfl
  ·cases h2
theorem rowOf_row (l:List Int) (h:∀ n∈l,0≤n∧n < 9223372036854775808):rowOf (rowB l)=l.map (·.toNat):=by
 unfold rowOf
 rw [show (rowB l).data.toList=rowBy l by simp [rowB],numsL_row l h]; rfl
def RowTo (l:List Int) (w:World) (k:Nat) (wr:World):Prop:=k≤l.length∧IsB wr w.heap.size w.heap.size (rowBy (l.take k))∧Below w.heap.size w wr
theorem setRow_any (w:World) (b:Nat) (s:St) (L:List Nat) (key:ByteArray) (v:Value) (l:List Int) (h:SRep w b s L) (hb:s.size < 1000000000000) (hv:IntsAt w v l) (hl:l.length < 1000000000) (hne:l≠[]) (hr:∀ n∈l,0≤n∧n < 9223372036854775808) :
  Calls Tryz.prog 107 #[.pointer (some ⟨b,0,none⟩),.string key,v] w (RetSt w b L (.tuple #[]) (s.put key (rowB l))):=by
 obtain ⟨ad,c,hve⟩:∃ ad c,v = .slice ad l.length c:=by
  rcases hv with ⟨rfl,rfl⟩ | ⟨a,c,h1,_⟩
  ·exact ⟨none,0,rfl⟩
  ·exact ⟨some a,c,h1⟩
 have HC:Hid (∀ wr k (n:Int),RowTo l w k wr→l[k]? = some n→∃ a,ad=some a∧wr.cell? (a.add k)=some (.int .i64 n)):=fun wr k n hb0 hk=>by
  have hb:=hb0.2.2
  rcases hv with ⟨_,rfl⟩ | ⟨a,c',h1,h3⟩
  ·simp at hk
  ·have:ad=some a:=by rw [hve] at h1; cases h1; rfl
   exact ⟨a,this,by rw [hb.cell (p:=a.add k) (World.block_lt_of_cell? w _ (h3 k n hk))]; exact h3 k n hk⟩
 subst hve
 clear hv
 have hB0:IsB (w.alloc (.cells #[.pointer none,.slice none 0 0] 211)) w.heap.size w.heap.size [] :=
  .inl ⟨Nat.le_refl _,_,heap_alloc_new w _,⟨by simp [Lib.byteCells],.inl ⟨rfl,rfl⟩⟩,by simp [Value.ownBlock]⟩
 have H0:Hid (RowTo l w 0 (w.alloc (.cells #[.pointer none,.slice none 0 0] 211))):=⟨by omega,by simpa [rowBy] using hB0,(Below.refl _ w).alloc (Nat.le_refl _) _⟩
 have HN:Hid (∀ wr k,RowTo l w k wr→∀ n:Nat,l[k]? = some (n:Int)→Calls Tryz.prog 162 #[.int .i64 n] wr fun e w'=>e = .returned (.string (numB n))∧RowTo l w k w'):=fun wr k hk n hn=>by
  have hn2:=hr _ (List.mem_of_getElem? hn)
  refine (num_any n wr (by omega)).mono fun e w' ⟨he,hb⟩=>⟨he,hk.1,isB_below hk.2.1 hb,hk.2.2.trans (hb.mono hk.2.2.size)⟩
 have HS:Hid (∀ wr k,RowTo l w k wr→∀ n:Nat,l[k]? = some (n:Int)→Calls Tryz.prog 161 #[.pointer (some ⟨w.heap.size,0,none⟩),.string (numB n)] wr fun e w'=>e = .returned (.tuple #[.int .i64 8,.nilIface])∧RowTo l w (k+1) w'):=fun wr k hk n hn=>by
  have hkl:k < l.length:=(List.getElem?_eq_some_iff.1 hn).1
  have hln:(rowBy (l.take k)).length+(numB n).size < 1000000000000:=by
   rw [rowBy_len,show (numB n).size=8 from rfl,List.length_take]; omega
  refine (writeStr_any w.heap.size w.heap.size _ (numB n) wr hk.2.1 hln (by rw [show (numB n).size=8 from rfl]; omega) hk.2.2.size).mono fun e w' ⟨he,h1,h2⟩=>⟨he,by omega,?_,hk.2.2.trans h2⟩
  rw [take_one_more l k _ hn,rowBy_snoc]
  exact h1
 have HT:Hid (∀ wr,RowTo l w l.length wr→Calls Tryz.prog 163 #[.pointer (some ⟨w.heap.size,0,none⟩)] wr fun e w'=>e = .returned (.string (rowB l))∧Below w.heap.size w w'):=fun wr hk=>by
  obtain ⟨_,h2,h3⟩:=hk
  rw [List.take_length] at h2
  exact (string_any w.heap.size w.heap.size _ wr h2 (fun e=>by
   have:=rowBy_len l
   rw [e] at this
   exact hne (List.eq_nil_of_length_eq_zero (by simp at this; omega)))).mono fun e w' ⟨he,hb⟩=>⟨he,h3.trans hb⟩
 have HP:Hid (∀ w1,Below w.heap.size w w1→Calls Tryz.prog 149 #[.pointer (some ⟨b,0,none⟩),.string key,.string (rowB l)] w1 fun e w'=>e = .returned (.tuple #[])∧RetSt w b L (.tuple #[]) (s.put key (rowB l)) e w'):=fun w1 h1 =>
  (putG_any w1 b s L key (rowB l) (h.fr (Fr.of_below h1 (fun _=>False)) (fun _ _=>id)) hb).mono fun e w' h2=>⟨h2.1,h2.of_below h1⟩
 have hget:∀ k,k < l.length→∃ n:Nat,l[k]? = some (n:Int):=fun k hk=>⟨(l[k]).toNat,by
  have:=hr l[k] (List.getElem_mem hk)
  rw [List.getElem?_eq_getElem hk]
  congr 1; omega⟩
 have HGET:=Lib.hid hget
 have hln:(l.length:Int) < 9223372036854775807:=by omega
 clear hB0 hget hr h hb hne
 generalize hm:l.length=m at *
 generalize rowB l=rb at *
 generalize hKT:RowTo l w=KT at *
 generalize RetSt w b L (.tuple #[]) (s.put key rb)=R at *
 clear hKT
 have HM:=Lib.hid hm
 clear hm
 go_enter Tryz.func107,Tryz.ntmps107
 go_wp2_with fail
 go_loopw [11] (fun i wr=>∃ k:Nat,i = .int .i64 k∧k≤m∧KT k wr) (fun i _=>m - (intOf i).toNat)
 case atStart=>exact ⟨0,rfl,by omega,H0.out⟩
 case round =>
  obtain ⟨k,rfl,hk,hN⟩:=hrel
  have HK:=Lib.hid hN
  clear hN H0
  by_cases hlt:k < m
  ·obtain ⟨n,hn⟩:=HGET.out k hlt
   obtain ⟨a,rfl,hc⟩:=HC.out wr k n HK.out hn
   have HNk:=Lib.hid hn
   have hd:decide ((n:Int) < 0)=false:=by simp
   clear hn
   go_wp2_with fail
   refine (HN.out wr k HK.out n HNk.out).mono ?_
   rintro e w1 ⟨rfl,hK1⟩
   have HK1:=Lib.hid hK1
   clear hK1
   go_wp2_with fail
   refine (HS.out w1 k HK1.out n HNk.out).mono ?_
   rintro e w2 ⟨rfl,hK2⟩
   have HK2:=Lib.hid hK2
   clear hK2
   go_wp2_with fail
   go_roundw
   case rel=>exact ⟨k+1,by go_num,by omega,HK2.out⟩
   case measure=>simp [intOf]; omega
  ·obtain rfl:k=m:=by omega
   have HTT:=Lib.hid (HT.out wr HK.out)
   go_wp2_with fail
   refine HTT.out.mono ?_
   rintro e w1 ⟨rfl,hb1⟩
   go_wp2_with fail
   refine (HP.out w1 hb1).mono ?_
   rintro e w2 ⟨rfl,hR⟩
   go_wp2_with fail
   go_end0
   exact hR
def RRowTo (l:List Int) (w:World) (k:Nat) (s:ByteArray) (wr:World):Prop:=k≤l.length∧s=⟨(rowBy (l.take k)).toArray⟩∧Below w.heap.size w wr
theorem RRowTo.next {l:List Int} {w:World} {k:Nat} {s:ByteArray} {wr:World} (h:RRowTo l w k s wr) {n:Nat} (hn:l[k]? = some (n:Int)):RRowTo l w (k+1) (s ++ numB n) wr:=by
 obtain ⟨h1,h2,h3⟩:=h
 have hlt:k < l.length:=(List.getElem?_eq_some_iff.1 hn).1
 refine ⟨by omega,?_,h3⟩
 subst h2
 have hx:=take_one_more l k _ hn
 apply ba_ext
 rw [hx,rowBy_snoc]
 rw [show ((⟨(rowBy (List.take k l)).toArray⟩:ByteArray) ++ numB n).data=(rowBy (List.take k l)).toArray ++ (numB n).data from ByteArray.data_append]
 simp [numB]
theorem rnext_any (w:World) (b:Nat) (s:St) (L:List Nat) (key:ByteArray) (h:RRep w b s L) (hb:s.size < 1000000000000) (hv:(s.val key).size < 1000000000000) (hn:s.int key < 1000000000000) :
  Calls Tryz.prog 186 #[.pointer (some ⟨b,0,none⟩),.string key] w (RetR w b L (.int .i64 ((s.int key:Nat)+1:Int)) (s.setInt key ((s.int key:Nat)+1:Int))):=by
 have HI:=Lib.hid (rint_at w b s L key h hv hb)
 have HS:Hid (∀ w1,Below w.heap.size w w1→Calls Tryz.prog 189 #[.pointer (some ⟨b,0,none⟩),.string key,.int .i64 ((s.int key:Nat)+1:Int)] w1 fun e w'=>e = .returned (.tuple #[])∧RetR w b L (.int .i64 ((s.int key:Nat)+1:Int)) (s.setInt key ((s.int key:Nat)+1:Int)) (.returned (.int .i64 ((s.int key:Nat)+1:Int))) w'):=fun w1 h1 =>
  (rsetInt_any w1 b s L key _ (by omega) (h.below h1) hb).mono fun e w' h2=>⟨h2.1,RetR.of_below h1 ⟨rfl,h2.2⟩⟩
 generalize RetR w b L (.int .i64 ((s.int key:Nat)+1:Int)) (s.setInt key ((s.int key:Nat)+1:Int))=R at *
 clear h hb hv
 generalize s.int key=n at *
 have hd:decide ((n:Int) < 9223372036854775807)=true:=decide_eq_true (by omega)
 have hdn:decide (n < 9223372036854775807)=true:=decide_eq_true (by omega)
 have hw:wrap64 ((n:Int)+1)=(n:Int)+1:=by unfold wrap64; omega
 clear hn
 go_enter Tryz.func186,Tryz.ntmps186
 go_wp2_with (first | (go_at_call 100; refine HI.out.mono ?_; rintro e w1 ⟨rfl,h1⟩) | (go_at_call 189; refine (HS.out _ h1).mono ?_; rintro e w2 ⟨rfl,hR⟩))
 exact hR
theorem hsetRow_q (w:World) (h:Hand) (s:St) (k:ByteArray) (v:Value) (l:List Int) (hon:h.on=true) (hq:QSt w h s) (hz:s.size < 1000000000000) (hv:IntsAt w v l) (hl:l.length < 1000000000) (hne:l≠[]) (hr:∀ n∈l,0≤n∧n < 9223372036854775808) :
  Calls Tryz.prog 107 #[.pointer h.ptr,.string k,v] w fun e w'=>e = .returned (.tuple #[])∧QOn w h (s.put k (rowB l)) w':=by
 rcases hq with ⟨_,b,hp,hS⟩ | ⟨h0,_⟩
 ·rw [hp]
  exact (setRow_any w b s h.L k v l hS hz hv hl hne hr).mono fun e w' ⟨he,L',h1,h2⟩=>⟨he,L',.inl ⟨hon,b,hp,h1⟩,h2⟩
 ·rw [hon] at h0; cases h0
abbrev i2O (x y:Int):Obj:=.cells #[.int .i64 x,.int .i64 y] 3
theorem ints_at2 {W:World} {g:Nat} {x y:Int} (h:W.heap[g]? = some (i2O x y)):IntsAt W (.slice (some ⟨g,0,none⟩) 2 2) [x,y] :=
 intsAt_cells (l:=[x,y]) fun j z hj=>by
  rw [cell_of_row _ _ _ _ _ _ h]
  match j,hj with
  | 0,hj=>cases hj; rfl
  | 1,hj=>cases hj; rfl
theorem hlast_ok (s:St) (t:Nat) (l:List Int):(s.hlast t l).Ok:=by
 unfold St.hlast; split
 ·exact u0_ok
 ·exact hpt_ok _
def noteE (s:St) (x:Ex):Int:=if x.op=0 then 0 else if uAddC (s.hlast 16 [x.op,x.sg]) (sdW x.wo x.mx)=0 then hpuE s 16 [x.op,x.sg] x.bl.toNat else 6
def noteSt (s:St) (x:Ex):St:=if x.op=0 then s else if uAddC (s.hlast 16 [x.op,x.sg]) (sdW x.wo x.mx)=0 then hpuSt s 16 [x.op,x.sg] x.bl.toNat (uAddS (s.hlast 16 [x.op,x.sg]) (sdW x.wo x.mx)) else s
theorem stringNil_any (b:Nat) (w:World) (h:w.heap[b]? = some (.cells #[.pointer none,.slice none 0 0] 211 (0,0))) :
  Calls Tryz.prog 163 #[.pointer (some ⟨b,0,none⟩)] w fun e w'=>e = .returned (.string emptyB)∧Below w.heap.size w w':=by
 have c1:w.drew.cell? ⟨b,1,none⟩=some (.slice none 0 0):=by
  have:w.drew.heap[b]? = some (.cells #[.pointer none,.slice none 0 0] 211 (0,0)):=h
  rw [cell_of_row _ _ _ _ _ _ this]; rfl
 have hSD:(Builtin.unsafeSliceData_ #[209] 255 #[.slice none 0 0]).run Tryz.prog w.drew = .ok (.pointer none) w.drew:=Lib.run_unsafeSliceData_nil _ _ _ _ _
 have hUS:(Builtin.unsafeString_ #[255,3] 9 #[.pointer none,.int .i64 0]).run Tryz.prog w.drew = .ok (.string .empty) w.drew:=Lib.run_unsafeString_none _ _ _ _ _
 have HE:Hid (Below w.heap.size w w.drew):=bl_drew (Below.refl _ _)
 clear h
 go_enter Tryz.func163,Tryz.ntmps163
 go_wp2
 go_region
 all_goals (go_wp2; go_ret; exact ⟨rfl,HE.out⟩)
theorem hsetRowN_q (w:World) (h:Hand) (s:St) (k:ByteArray) (hon:h.on=true) (hq:QSt w h s) (hz:s.size < 1000000000000) :
  Calls Tryz.prog 107 #[.pointer h.ptr,.string k,.slice none 0 0] w fun e w'=>e = .returned (.tuple #[])∧QOn w h (s.put k emptyB) w':=by
 have hb0:=bl_alloc (Below.refl _ w) (.cells #[.pointer none,.slice none 0 0] 211)
 have HS:Hid (Calls Tryz.prog 163 #[.pointer (some ⟨w.heap.size,0,none⟩)] (w.alloc (.cells #[.pointer none,.slice none 0 0] 211)) fun e w'=>e = .returned (.string emptyB)∧Below w.heap.size w w') :=
  (stringNil_any w.heap.size _ (heap_alloc_new w _)).mono fun e w' ⟨he,hb⟩=>⟨he,bl_then hb0 hb⟩
 have HP:Hid (∀ w1,Below w.heap.size w w1→Calls Tryz.prog 149 #[.pointer h.ptr,.string k,.string emptyB] w1 fun e w'=>e = .returned (.tuple #[])∧QOn w h (s.put k emptyB) w'):=fun w1 hb=>by
  rcases hq.below hb with ⟨_,b,hp,hS⟩ | ⟨h0,_⟩
  ·rw [hp]
   refine (putG_any w1 b s h.L k emptyB hS hz).mono fun e w' h2=>⟨h2.1,?_⟩
   obtain ⟨_,L',hS',hst⟩:=h2.of_below hb
   exact ⟨L',.inl ⟨hon,b,hp,hS'⟩,hst⟩
  ·rw [hon] at h0; cases h0
 clear hq hb0
 generalize QOn w h (s.put k emptyB)=R at *
 go_enter Tryz.func107,Tryz.ntmps107
 go_wp2_with fail
 go_loopw [11] (fun i wr=>i = .int .i64 0∧wr=w.alloc (.cells #[.pointer none,.slice none 0 0] 211)) (fun i _=>0)
 case atStart=>exact ⟨rfl,rfl⟩
 case round =>
  obtain ⟨rfl,rfl⟩:=hrel
  go_wp2_with fail
  refine Calls.mono HS.out ?_
  rintro e w1 ⟨rfl,hb1⟩
  have HP1:=Lib.hid (HP.out w1 hb1)
  clear hb1 HP HS
  go_wp2_with fail
  refine Calls.mono HP1.out ?_
  rintro e w2 ⟨rfl,hR⟩
  have HR:=Lib.hid hR
  clear hR HP1
  go_wp2_with fail
  go_end0
  exact ⟨rfl,HR.out⟩
abbrev e2O (x y:Int):Obj:=.cells #[.int .i64 x,.int .i64 y] 152
theorem ints_e2 {W:World} {g:Nat} {x y:Int} (h:W.heap[g]? = some (e2O x y)):IntsAt W (.slice (some ⟨g,0,none⟩) 2 2) [x,y]:=by
 refine .inr ⟨⟨g,0,none⟩,2,rfl,fun j z hj => ?_⟩
 rw [Addr.add_lit,Nat.zero_add,cell_of_row _ _ _ _ _ _ h]
 match j,hj with
 | 0,hj=>cases hj; rfl
 | 1,hj=>cases hj; rfl
def turnSt (s:St) (t:Nat) (l:List Int) (a b:Int):St:=s.put (keyL t l) (rowB (if a=b then [] else [a,b]))
def TnPh (h:Hand) (w:World) (s s2:St) (rs:List (Nat × Obj)):Nat→World→Prop
 | 0,W=>HV h w s rs W∧Below w.heap.size w W
 | 1,W=>HV h w s rs W∧Below w.heap.size w W
 | _+2,W=>HV h w s2 rs W
theorem TnPh.row {h:Hand} {w W:World} {s s2:St} {rs:List (Nat × Obj)} {p:Nat} (hP:TnPh h w s s2 rs p W) {g:Nat} {o:Obj} (hm:(g,o)∈rs):W.heap[g]? = some o:=by
 match p,hP with
 | 0,hP | 1,hP=>exact QV.row (rs:=rs) hP.1 hm
 | _+2,hP=>exact QV.row (rs:=rs) hP hm
theorem cellQ {W:World} {g:Nat} {q:Option Addr} {t:Int} {v:Value} {a b:Int} (h:W.heap[g]? = some (qO q t v a b)):W.cell? ⟨g,0,none⟩=some (.pointer q)∧W.cell? ⟨g,1,none⟩=some (.int .i64 t)∧W.cell? ⟨g,2,none⟩=some v∧W.cell? ⟨g,3,none⟩=some (.int .i64 a)∧W.cell? ⟨g,4,none⟩=some (.int .i64 b):=by
 refine ⟨?_,?_,?_,?_,?_⟩ <;> (rw [cell_of_row _ _ _ _ _ _ h]; rfl)
theorem rg_slice2 {ops:Array Oper} {o:Oper} {a:Act} {w:World} {K:Value→World→Prop} {x:Operand} {g:Nat} (hg:Region.wanted o (yielded ops a.tmps)=true) (ho:o.op = .slice 152 x none none none) (hx:a.eval x = .pointer (some ⟨g,0,none⟩)) (hk:K (.slice (some ⟨g,0,none⟩) 2 2) w):rgDo Tryz.prog ops o a w K:=by
 refine rg_value hg ?_ hk
 clear hg hk
 generalize a.eval=ev at hx ⊢
 unfold execOp
 simp only [ho,hx]
 go_simp
theorem fqTurn_q (t:Nat) (ht1:1≤t) (ht2:t≤255) (w:World) (h:Hand) (s:St) (y:Value) (l:List Int) (a b a' b':Int) (hon:h.on=true) (hq:QSt w h s) (hz:s.size < 1000000000000) (hy:IntsAt w y l) (hl:IdOk l) (ha:0≤a'∧I63 a') (hb:0≤b'∧I63 b') :
  Calls Tryz.prog 153 #[.agg (qL h.ptr t y a b),.agg #[.int .i64 a',.int .i64 b']] w fun e w'=>e = .returned (.tuple #[])∧QOn w h (turnSt s t l a' b') w':=by
 have hB:=((HV.start hq).alloc (qO h.ptr t y a b)).alloc (e2O a' b')
 rw [World.size_alloc] at hB
 have hbl:Below w.heap.size w ((w.alloc (qO h.ptr t y a b)).alloc (e2O a' b')):=bl_alloc (bl_alloc (Below.refl _ w) _) _
 have HKY:Hid (∀ W,Below w.heap.size w W→Calls Tryz.prog 90 #[.int .i64 t,y] W fun e w'=>e = .returned (.string (keyL t l))∧Below W.heap.size W w'):=fun W hb=>key_any t ht1 ht2 y l W (hy.below hb) (by have:=hl.len; omega) hl.lt
 have HSN:Hid (∀ rs W,HV h w s rs W→Calls Tryz.prog 107 #[.pointer h.ptr,.string (keyL t l),.slice none 0 0] W fun e w'=>e = .returned (.tuple #[])∧HV h w (s.put (keyL t l) emptyB) rs w'):=fun rs W hV=>QV.call hV fun L' h1=>hsetRowN_q W ⟨h.ptr,h.on,L'⟩ s _ hon h1 hz
 have HSR:Hid (∀ g rs W,HV h w s rs W→W.heap[g]? = some (e2O a' b')→Calls Tryz.prog 107 #[.pointer h.ptr,.string (keyL t l),.slice (some ⟨g,0,none⟩) 2 2] W fun e w'=>e = .returned (.tuple #[])∧HV h w (s.put (keyL t l) (rowB [a',b'])) rs w'):=fun g rs W hV hr=>QV.call hV fun L' h1=>hsetRow_q W ⟨h.ptr,h.on,L'⟩ s _ _ [a',b'] hon h1 hz (ints_e2 hr) (by show (2:Nat) < _; decide) (by simp) (fun n hn=>by
  simp only [List.mem_cons,List.not_mem_nil,or_false] at hn
  unfold I63 at ha hb
  rcases hn with rfl | rfl <;> omega)
 have HB:=Lib.hid (And.intro hB hbl)
 clear hB hbl hq hz hy hl hon
 by_cases hab:a'=b'
 ·subst hab
  have hT:turnSt s t l a' a'=s.put (keyL t l) emptyB:=by unfold turnSt; rw [if_pos rfl]; rfl
  rw [hT]
  generalize s.put (keyL t l) emptyB=s2 at *
  generalize keyL t l=kk at *
  clear hT HSR
  go_enter Tryz.func153,Tryz.ntmps153
  go_upto_region 2 with fail
  generalize (w.alloc (qO h.ptr t y a b)).alloc (e2O a' a')=w1 at *
  obtain ⟨g,hg⟩:∃ g,g=w.heap.size:=⟨_,rfl⟩
  have H0:Hid (TnPh h w s s2 [(g+1,e2O a' a'),(g,qO h.ptr t y a b)] 0 w1.drew):=⟨by rw [hg]; exact HB.out.1.drew,bl_drew HB.out.2⟩
  rw [← hg]
  refine wp_region_const2 [[],[0],[],[2],[],[4],[2,3,4,5],[0,1,2,3,4,5,6]]
   [.pointer (some ⟨g,0,none⟩),.pointer h.ptr,.pointer (some ⟨g,1,none⟩),.int .i64 t,.pointer (some ⟨g,2,none⟩),y,.string kk,.tuple #[]]
   [6,7] (TnPh h w s s2 [(g+1,e2O a' a'),(g,qO h.ptr t y a b)]) _ (by kernel_rfl) (by kernel_rfl) (by kernel_rfl)
   (fun vs=>by simp only [rgAct,rgPut,List.setIfInBounds_toArray,List.set_cons_zero,List.set_cons_succ]; exact rfl)
   (by simp only [List.getD_cons_zero,List.getD_cons_succ]; exact rfl) H0.out ?_ ?_
  ·refine ⟨?_,?_,?_,?_,?_,?_,?_,?_,trivial⟩
   ·intro vs p w1 hA hP hq
    exact rg_faQ0 rfl rfl rfl ⟨rfl,hP⟩
   ·intro vs p w1 hA hP hq
    obtain ⟨e0,_⟩:=hA
    have e0:vs 0 = .pointer (some ⟨g,0,none⟩):=e0
    exact rg_loadQ rfl rfl e0 (cellQ (q:=h.ptr) (t:=t) (v:=y) (a:=a) (b:=b) (TnPh.row hP (by simp))).1 ⟨rfl,hP⟩
   ·intro vs p w1 hA hP hq
    exact rg_faQ1 rfl rfl rfl ⟨rfl,hP⟩
   ·intro vs p w1 hA hP hq
    obtain ⟨e2,_⟩:=hA
    have e2:vs 2 = .pointer (some ⟨g,1,none⟩):=e2
    exact rg_loadI rfl rfl e2 (cellQ (q:=h.ptr) (t:=t) (v:=y) (a:=a) (b:=b) (TnPh.row hP (by simp))).2.1 ⟨rfl,hP⟩
   ·intro vs p w1 hA hP hq
    exact rg_faQ2 rfl rfl rfl ⟨rfl,hP⟩
   ·intro vs p w1 hA hP hq
    obtain ⟨e4,_⟩:=hA
    have e4:vs 4 = .pointer (some ⟨g,2,none⟩):=e4
    exact rg_loadS rfl rfl e4 (cellQ (q:=h.ptr) (t:=t) (v:=y) (a:=a) (b:=b) (TnPh.row hP (by simp))).2.2.1 ⟨rfl,hP⟩
   ·intro vs p w1 hA hP hq
    obtain ⟨_,e3,_,e5,_⟩:=hA
    have e3:vs 3 = .int .i64 t:=e3
    have e5:vs 5=y:=e5
    have hp:=hq 0 rfl
    subst hp
    refine rg_fn rfl rfl rfl (by kernel_rfl) (show [vs 3,vs 5]=_ from by rw [e3,e5]) (Calls.mono ((HKY.out w1 hP.2).mono fun _ _ hh=>And.intro hh.1 (And.intro (QV.below (rs:=[(g+1,e2O a' a'),(g,qO h.ptr t y a b)]) hP.1 hh.2) (bl_then hP.2 hh.2))) ?_)
    rintro e w2 ⟨rfl,hP2⟩
    exact ⟨_,rfl,rfl,hP2⟩
   ·intro vs p w1 hA hP hq
    obtain ⟨_,e1,_,_,_,_,e6,_⟩:=hA
    have e1:vs 1 = .pointer h.ptr:=e1
    have e6:vs 6 = .string kk:=e6
    have hp:=hq 1 rfl
    subst hp
    refine rg_fn rfl rfl rfl (by kernel_rfl) (show [vs 1,vs 6,.slice none 0 0]=_ from by rw [e1,e6]) (Calls.mono (HSN.out _ _ hP.1) ?_)
    rintro e w2 ⟨rfl,hP2⟩
    exact ⟨_,rfl,rfl,hP2⟩
  ·intro W hW
   have HW:Hid (QOn w h s2 W):=HV.done hW
   clear hW
   go_wp2_with fail
   exact bodyPost_ret_by (results_none rfl _ _ _) rfl ⟨rfl,HW.out⟩
 ·have hT:turnSt s t l a' b'=s.put (keyL t l) (rowB [a',b']):=by unfold turnSt; rw [if_neg hab]
  have hde:(a' == b')=false:=by simpa using hab
  rw [hT]
  generalize s.put (keyL t l) (rowB [a',b'])=s2 at *
  generalize keyL t l=kk at *
  clear hT HSN
  go_enter Tryz.func153,Tryz.ntmps153
  go_upto_region 3 with fail
  generalize (w.alloc (qO h.ptr t y a b)).alloc (e2O a' b')=w1 at *
  obtain ⟨g,hg⟩:∃ g,g=w.heap.size:=⟨_,rfl⟩
  have H0:Hid (TnPh h w s s2 [(g+1,e2O a' b'),(g,qO h.ptr t y a b)] 0 w1.drew):=⟨by rw [hg]; exact HB.out.1.drew,bl_drew HB.out.2⟩
  rw [← hg]
  refine wp_region_const2 [[],[0],[],[2],[],[4],[2,3,4,5],[],[0,1,2,3,4,5,6,7]]
   [.pointer (some ⟨g,0,none⟩),.pointer h.ptr,.pointer (some ⟨g,1,none⟩),.int .i64 t,.pointer (some ⟨g,2,none⟩),y,.string kk,.slice (some ⟨g+1,0,none⟩) 2 2,.tuple #[]]
   [6,8] (TnPh h w s s2 [(g+1,e2O a' b'),(g,qO h.ptr t y a b)]) _ (by kernel_rfl) (by kernel_rfl) (by kernel_rfl)
   (fun vs=>by simp only [rgAct,rgPut,List.setIfInBounds_toArray,List.set_cons_zero,List.set_cons_succ]; exact rfl)
   (by simp only [List.getD_cons_zero,List.getD_cons_succ]; exact rfl) H0.out ?_ ?_
  ·refine ⟨?_,?_,?_,?_,?_,?_,?_,?_,?_,trivial⟩
   ·intro vs p w1 hA hP hq
    exact rg_faQ0 rfl rfl rfl ⟨rfl,hP⟩
   ·intro vs p w1 hA hP hq
    obtain ⟨e0,_⟩:=hA
    have e0:vs 0 = .pointer (some ⟨g,0,none⟩):=e0
    exact rg_loadQ rfl rfl e0 (cellQ (q:=h.ptr) (t:=t) (v:=y) (a:=a) (b:=b) (TnPh.row hP (by simp))).1 ⟨rfl,hP⟩
   ·intro vs p w1 hA hP hq
    exact rg_faQ1 rfl rfl rfl ⟨rfl,hP⟩
   ·intro vs p w1 hA hP hq
    obtain ⟨e2,_⟩:=hA
    have e2:vs 2 = .pointer (some ⟨g,1,none⟩):=e2
    exact rg_loadI rfl rfl e2 (cellQ (q:=h.ptr) (t:=t) (v:=y) (a:=a) (b:=b) (TnPh.row hP (by simp))).2.1 ⟨rfl,hP⟩
   ·intro vs p w1 hA hP hq
    exact rg_faQ2 rfl rfl rfl ⟨rfl,hP⟩
   ·intro vs p w1 hA hP hq
    obtain ⟨e4,_⟩:=hA
    have e4:vs 4 = .pointer (some ⟨g,2,none⟩):=e4
    exact rg_loadS rfl rfl e4 (cellQ (q:=h.ptr) (t:=t) (v:=y) (a:=a) (b:=b) (TnPh.row hP (by simp))).2.2.1 ⟨rfl,hP⟩
   ·intro vs p w1 hA hP hq
    obtain ⟨_,e3,_,e5,_⟩:=hA
    have e3:vs 3 = .int .i64 t:=e3
    have e5:vs 5=y:=e5
    have hp:=hq 0 rfl
    subst hp
    refine rg_fn rfl rfl rfl (by kernel_rfl) (show [vs 3,vs 5]=_ from by rw [e3,e5]) (Calls.mono ((HKY.out w1 hP.2).mono fun _ _ hh=>And.intro hh.1 (And.intro (QV.below (rs:=[(g+1,e2O a' b'),(g,qO h.ptr t y a b)]) hP.1 hh.2) (bl_then hP.2 hh.2))) ?_)
    rintro e w2 ⟨rfl,hP2⟩
    exact ⟨_,rfl,rfl,hP2⟩
   ·intro vs p w1 hA hP hq
    exact rg_slice2 rfl rfl rfl ⟨rfl,hP⟩
   ·intro vs p w1 hA hP hq
    obtain ⟨_,e1,_,_,_,_,e6,e7,_⟩:=hA
    have e1:vs 1 = .pointer h.ptr:=e1
    have e6:vs 6 = .string kk:=e6
    have e7:vs 7 = .slice (some ⟨g+1,0,none⟩) 2 2:=e7
    have hp:=hq 1 rfl
    subst hp
    refine rg_fn rfl rfl rfl (by kernel_rfl) (show [vs 1,vs 6,vs 7]=_ from by rw [e1,e6,e7]) (Calls.mono (HSR.out _ _ _ hP.1 (QV.row (rs:=[(g+1,e2O a' b'),(g,qO h.ptr t y a b)]) hP.1 (by simp))) ?_)
    rintro e w2 ⟨rfl,hP2⟩
    exact ⟨_,rfl,rfl,hP2⟩
  ·intro W hW
   have HW:Hid (QOn w h s2 W):=HV.done hW
   clear hW
   go_wp2_with fail
   go_end0
   exact ⟨rfl,HW.out⟩
end Go.Proofs.YtnkilceibkkjlaaGreat
