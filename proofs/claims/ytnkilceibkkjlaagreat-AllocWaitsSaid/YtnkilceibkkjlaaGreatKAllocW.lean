/- What is proved here: exits of the program: the deferred u -/
import Derived.Test.YtnkilceibkkjlaaGreatKHistP
import Derived.Test.YtnkilceibkkjlaaGreatKRowW
import Derived.Test.YtnkilceibkkjlaaGreatKAlC
import Derived.Sort.CutIn
set_option maxRecDepth 100000
set_option maxHeartbeats 16000000
namespace Go.Proofs.YtnkilceibkkjlaaGreat
open Go.RowKit
theorem zbz(w:World)(h:Hand)(s:St)(k:ByteArray)(v:Value)(l:List Int)(hon:h.on=true)(hq:QSt w h s)(hz:s.size<1000000000000)(hv:z0w w v l)(hl:l.length<1000000000)(hne:l≠[])(hr:∀ n∈l,0<=n/\n<9223372036854775808) :
  Calls Tryz.prog 107 #[.pointer h.ptr,.string k,v] w fun e w'=>e= .returned (.tuple #[])/\QOn w h (s.put k (rowB l)) w':=by
 rcases hq with⟨_,b,hp,hS⟩ | ⟨h0,_⟩
 ·rw[hp];exact(zex w b s h.L k v l hS hz hv hl hne hr).mono fun e w' ⟨he,L',h1,h2⟩=>⟨he,L',.inl ⟨hon,b,hp,h1⟩,h2⟩
 ·rw[hon]at h0;cases h0
abbrev i2O(x y:Int):Obj:=.cells #[.int .i64 x,.int .i64 y] 3
theorem zkl{W:World}{g:Nat}{x y:Int}(h:W.heap[g]?=some (i2O x y)):z0w W (.slice (some ⟨g,0,none⟩) 2 2) [x,y]:=
 z3p (l:=[x,y]) fun j z hj=>by
  rw[cell_of_row _ _ _ _ _ _ h]
  match j,hj with
  | 0,hj=>cases hj;rfl
  | 1,hj=>cases hj;rfl
def zxg(s:St)(x:Ex):St:=if x.op=0 then s else if z8j (s.hlast 16 [x.op,x.sg]) (sdW x.wo x.mx)=0 then zzr s 16 [x.op,x.sg] x.bl.toNat (zcf (s.hlast 16 [x.op,x.sg]) (sdW x.wo x.mx))else s
theorem zgh(b:Nat)(w:World)(h:w.heap[b]?=some (.cells #[.pointer none,.slice none 0 0] 211 (0,0))) :
  Calls Tryz.prog 163 #[.pointer (some ⟨b,0,none⟩)] w fun e w'=>e= .returned (.string z05)/\Below w.heap.size w w':=by
 have c1:w.drew.cell? ⟨b,1,none⟩=some (.slice none 0 0):=by
  have:w.drew.heap[b]?=some (.cells #[.pointer none,.slice none 0 0] 211 (0,0)):=h;rw[cell_of_row _ _ _ _ _ _ this];rfl
 have hSD:(Builtin.unsafeSliceData_ #[209] 255 #[.slice none 0 0]).run Tryz.prog w.drew= .ok (.pointer none) w.drew:=Lib.run_unsafeSliceData_nil _ _ _ _ _;have hUS:(Builtin.unsafeString_ #[255,3] 9 #[.pointer none,.int .i64 0]).run Tryz.prog w.drew= .ok (.string .empty) w.drew:=Lib.run_unsafeString_none _ _ _ _ _;have HE:Hid (Below w.heap.size w w.drew):=z0h zb;clear h;go_enter Tryz.func163,Tryz.ntmps163;go_wp2
 go_region
 all_goals (go_wp2;go_ret;exact⟨rfl,HE.out⟩)
theorem zmr(w:World)(h:Hand)(s:St)(k:ByteArray)(hon:h.on=true)(hq:QSt w h s)(hz:s.size<1000000000000) :
  Calls Tryz.prog 107 #[.pointer h.ptr,.string k,.slice none 0 0] w fun e w'=>e= .returned (.tuple #[])/\QOn w h (s.put k z05) w':=by
 have hb0:=z00 (Below.refl _ w) (.cells #[.pointer none,.slice none 0 0] 211);have HS:Hid (Calls Tryz.prog 163 #[.pointer (some ⟨w.heap.size,0,none⟩)] (w.alloc (.cells #[.pointer none,.slice none 0 0] 211)) fun e w'=>e= .returned (.string z05)/\Below w.heap.size w w'):=
  (zgh w.heap.size _ (heap_alloc_new w _)).mono fun e w' ⟨he,hb⟩=>⟨he,z0b hb0 hb⟩
 have HP:Hid (∀ w1,Below w.heap.size w w1->Calls Tryz.prog 149 #[.pointer h.ptr,.string k,.string z05] w1 fun e w'=>e= .returned (.tuple #[])/\QOn w h (s.put k z05) w'):=fun w1 hb=>by
  rcases hq.below hb with⟨_,b,hp,hS⟩ | ⟨h0,_⟩
  ·rw[hp];refine(zbk w1 b s h.L k z05 hS hz).mono fun e w' h2=>⟨h2.1,?_⟩
   obtain⟨_,L',hS',hst⟩:=h2.of_below hb;exact⟨L',.inl ⟨hon,b,hp,hS'⟩,hst⟩
  ·rw[hon]at h0;cases h0
 clear hq hb0;generalize QOn w h (s.put k z05)=R at *
 go_enter Tryz.func107,Tryz.ntmps107;go_wp2_with fail
 go_loopw [11] (fun i wr=>i= .int .i64 0/\wr=w.alloc (.cells #[.pointer none,.slice none 0 0] 211)) (fun i _=>0)
 case atStart=>exact⟨rfl,rfl⟩
 case round =>
  obtain⟨rfl,rfl⟩:=hrel;go_wp2_with fail;refine zm HS.out ?_;rintro e w1 ⟨rfl,hb1⟩;have HP1:=zh (HP.out w1 hb1);clear hb1 HP HS;go_wp2_with fail;refine zm HP1.out ?_;rintro e w2 ⟨rfl,hR⟩;have HR:=zh hR;clear hR HP1;go_wp2_with fail
  go_end0
  exact⟨rfl,HR.out⟩
abbrev e2O(x y:Int):Obj:=.cells #[.int .i64 x,.int .i64 y] 152
theorem zv3{W:World}{g:Nat}{x y:Int}(h:W.heap[g]?=some (e2O x y)):z0w W (.slice (some ⟨g,0,none⟩) 2 2) [x,y]:=by
 refine .inr ⟨⟨g,0,none⟩,2,rfl,fun j z hj => ?_⟩;rw[Addr.add_lit,Nat.zero_add,cell_of_row _ _ _ _ _ _ h]
 match j,hj with
 | 0,hj=>cases hj;rfl
 | 1,hj=>cases hj;rfl
def z1m(s:St)(t:Nat)(l:List Int)(a b:Int):St:=s.put (keyL t l) (rowB (if a=b then []else [a,b]))
def TnPh(h:Hand)(w:World)(s s2:St)(rs:List (Nat × Obj)):Nat->World->Prop
 | 0,W=>HV h w s rs W/\Below w.heap.size w W
 | 1,W=>HV h w s rs W/\Below w.heap.size w W
 | _+2,W=>HV h w s2 rs W
theorem TnPh.row{h:Hand}{w W:World}{s s2:St}{rs:List (Nat × Obj)}{p:Nat}(hP:TnPh h w s s2 rs p W){g:Nat}{o:Obj}(hm:(g,o)∈rs):W.heap[g]?=some o:=by
 match p,hP with
 | 0,hP | 1,hP=>exact QV.row (rs:=rs) hP.1 hm
 | _+2,hP=>exact QV.row (rs:=rs) hP hm
theorem z9c{W:World}{g:Nat}{q:Option Addr}{t:Int}{v:Value}{a b:Int}(h:W.heap[g]?=some (qO q t v a b)):W.cell? ⟨g,0,none⟩=some (.pointer q)/\W.cell? ⟨g,1,none⟩=some (.int .i64 t)/\W.cell? ⟨g,2,none⟩=some v/\W.cell? ⟨g,3,none⟩=some (.int .i64 a)/\W.cell? ⟨g,4,none⟩=some (.int .i64 b):=by
 refine⟨?_,?_,?_,?_,?_⟩<;>(rw[cell_of_row _ _ _ _ _ _ h];rfl)
theorem zok{ops:Array Oper}{o:Oper}{a:Act}{w:World}{K:Value->World->Prop}{x:Operand}{g:Nat}(hg:Region.wanted o (yielded ops a.tmps)=true)(ho:o.op= .slice 152 x none none none)(hx:a.eval x= .pointer (some ⟨g,0,none⟩))(hk:K (.slice (some ⟨g,0,none⟩) 2 2) w):rgDo Tryz.prog ops o a w K:=by
 refine z0n hg ?_ hk;clear hg hk;generalize a.eval=ev at hx ⊢;unfold execOp;simp only[ho,hx]
 go_simp
theorem zkh(t:Nat)(ht1:1<=t)(ht2:t<=255)(w:World)(h:Hand)(s:St)(y:Value)(l:List Int)(a b a' b':Int)(hon:h.on=true)(hq:QSt w h s)(hz:s.size<1000000000000)(hy:z0w w y l)(hl:IdOk l)(ha:0<=a'/\I63 a')(hb:0<=b'/\I63 b') :
  Calls Tryz.prog 153 #[.agg (qL h.ptr t y a b),.agg #[.int .i64 a',.int .i64 b']] w fun e w'=>e= .returned (.tuple #[])/\QOn w h (z1m s t l a' b') w':=by
 have hB:=((HV.start hq).alloc (qO h.ptr t y a b)).alloc (e2O a' b');rw[World.size_alloc]at hB;have hbl:Below w.heap.size w ((w.alloc (qO h.ptr t y a b)).alloc (e2O a' b')):=z00 (z00 (Below.refl _ w) _) _;have HKY:Hid (∀ W,Below w.heap.size w W->Calls Tryz.prog 90 #[.int .i64 t,y] W fun e w'=>e= .returned (.string (keyL t l))/\Below W.heap.size W w'):=fun W hb=>z5g t ht1 ht2 y l W (hy.below hb) (by have:=hl.len;omega) hl.lt
 have HSN:Hid (∀ rs W,HV h w s rs W->Calls Tryz.prog 107 #[.pointer h.ptr,.string (keyL t l),.slice none 0 0] W fun e w'=>e= .returned (.tuple #[])/\HV h w (s.put (keyL t l) z05) rs w'):=fun rs W hV=>QV.call hV fun L' h1=>zmr W ⟨h.ptr,h.on,L'⟩ s _ hon h1 hz
 have HSR:Hid (∀ g rs W,HV h w s rs W->W.heap[g]?=some (e2O a' b')->Calls Tryz.prog 107 #[.pointer h.ptr,.string (keyL t l),.slice (some ⟨g,0,none⟩) 2 2] W fun e w'=>e= .returned (.tuple #[])/\HV h w (s.put (keyL t l) (rowB [a',b'])) rs w'):=fun g rs W hV hr=>QV.call hV fun L' h1=>zbz W ⟨h.ptr,h.on,L'⟩ s _ _ [a',b'] hon h1 hz (zv3 hr) (by show(2:Nat)<_;decide) (by simp) (fun n hn=>by
  simp only[List.mem_cons,List.not_mem_nil,or_false]at hn;unfold I63 at ha hb
  rcases hn with rfl | rfl<;>omega)
 have HB:=zh (And.intro hB hbl);clear hB hbl hq hz hy hl hon
 by_cases hab:a'=b'
 ·subst hab;have hT:z1m s t l a' a'=s.put (keyL t l) z05:=by unfold z1m;rw[if_pos rfl];rfl
  rw[hT];generalize s.put (keyL t l) z05=s2 at *
  generalize keyL t l=kk at *
  clear hT HSR;go_enter Tryz.func153,Tryz.ntmps153;go_upto_region 2 with fail;generalize (w.alloc (qO h.ptr t y a b)).alloc (e2O a' a')=w1 at *
  obtain⟨g,hg⟩:∃ g,g=w.heap.size:=⟨_,rfl⟩;have H0:Hid (TnPh h w s s2 [(g+1,e2O a' a'),(g,qO h.ptr t y a b)] 0 w1.drew):=⟨by rw[hg];exact HB.out.1.drew,z0h HB.out.2⟩;rw[<- hg];refine z06 [[],[0],[],[2],[],[4],[3,5],[1,6]]
   [.pointer (some ⟨g,0,none⟩),.pointer h.ptr,.pointer (some ⟨g,1,none⟩),.int .i64 t,.pointer (some ⟨g,2,none⟩),y,.string kk,.tuple #[]]
   [6,7] (TnPh h w s s2 [(g+1,e2O a' a'),(g,qO h.ptr t y a b)]) _ (by kernel_rfl) (by kernel_rfl) (by kernel_rfl)
   (fun vs=>by simp only[z14,z1a,List.setIfInBounds_toArray,List.set_cons_zero,List.set_cons_succ];exact rfl)
   (by simp only[List.getD_cons_zero,List.getD_cons_succ];exact rfl) H0.out ?_ ?_
  ·exact⟨
   fun _ _ _ _ hP _=>zj0 rfl rfl rfl ⟨rfl,hP⟩,
   fun _ _ _ hA hP _=>zg5 rfl rfl hA.1 (z9c (q:=h.ptr) (t:=t) (v:=y) (a:=a) (b:=b) (TnPh.row hP (by simp))).1 ⟨rfl,hP⟩,
   fun _ _ _ _ hP _=>zih rfl rfl rfl ⟨rfl,hP⟩,
   fun _ _ _ hA hP _=>z0u rfl rfl hA.1 (z9c (q:=h.ptr) (t:=t) (v:=y) (a:=a) (b:=b) (TnPh.row hP (by simp))).2.1 ⟨rfl,hP⟩,
   fun _ _ _ _ hP _=>ziy rfl rfl rfl ⟨rfl,hP⟩,
   fun _ _ _ hA hP _=>zfl rfl rfl hA.1 (z9c (q:=h.ptr) (t:=t) (v:=y) (a:=a) (b:=b) (TnPh.row hP (by simp))).2.2.1 ⟨rfl,hP⟩,
   fun _ _ w1 hA hP hq=>by cases hq 0 rfl;exact z0m rfl rfl rfl (by kernel_rfl) (rgL2 hA.1 hA.2.1) ((HKY.out w1 hP.2).mono fun _ _ hh=>And.intro hh.1 (And.intro (QV.below (rs:=[(g+1,e2O a' a'),(g,qO h.ptr t y a b)]) hP.1 hh.2) (z0b hP.2 hh.2))) fun _ hP2=>⟨rfl,hP2⟩,
   fun _ _ _ hA hP hq=>by cases hq 1 rfl;exact z0m rfl rfl rfl (by kernel_rfl) (rgL3 hA.1 hA.2.1 rfl) (HSN.out _ _ hP.1) fun _ hP2=>⟨rfl,hP2⟩,
   trivial⟩
  ·intro W hW;have HW:Hid (QOn w h s2 W):=HV.done hW
   clear hW;go_wp2_with fail;exact bodyPost_ret_by (results_none rfl _ _ _) rfl ⟨rfl,HW.out⟩
 ·have hT:z1m s t l a' b'=s.put (keyL t l) (rowB [a',b']):=by unfold z1m;rw[if_neg hab]
  have hde:(a'==b')=false:=by simpa using hab
  rw[hT];generalize s.put (keyL t l) (rowB [a',b'])=s2 at *
  generalize keyL t l=kk at *
  clear hT HSN;go_enter Tryz.func153,Tryz.ntmps153;go_upto_region 3 with fail;generalize (w.alloc (qO h.ptr t y a b)).alloc (e2O a' b')=w1 at *
  obtain⟨g,hg⟩:∃ g,g=w.heap.size:=⟨_,rfl⟩;have H0:Hid (TnPh h w s s2 [(g+1,e2O a' b'),(g,qO h.ptr t y a b)] 0 w1.drew):=⟨by rw[hg];exact HB.out.1.drew,z0h HB.out.2⟩;rw[<- hg];refine z06 [[],[0],[],[2],[],[4],[3,5],[],[1,6,7]]
   [.pointer (some ⟨g,0,none⟩),.pointer h.ptr,.pointer (some ⟨g,1,none⟩),.int .i64 t,.pointer (some ⟨g,2,none⟩),y,.string kk,.slice (some ⟨g+1,0,none⟩) 2 2,.tuple #[]]
   [6,8] (TnPh h w s s2 [(g+1,e2O a' b'),(g,qO h.ptr t y a b)]) _ (by kernel_rfl) (by kernel_rfl) (by kernel_rfl)
   (fun vs=>by simp only[z14,z1a,List.setIfInBounds_toArray,List.set_cons_zero,List.set_cons_succ];exact rfl)
   (by simp only[List.getD_cons_zero,List.getD_cons_succ];exact rfl) H0.out ?_ ?_
  ·exact⟨
   fun _ _ _ _ hP _=>zj0 rfl rfl rfl ⟨rfl,hP⟩,
   fun _ _ _ hA hP _=>zg5 rfl rfl hA.1 (z9c (q:=h.ptr) (t:=t) (v:=y) (a:=a) (b:=b) (TnPh.row hP (by simp))).1 ⟨rfl,hP⟩,
   fun _ _ _ _ hP _=>zih rfl rfl rfl ⟨rfl,hP⟩,
   fun _ _ _ hA hP _=>z0u rfl rfl hA.1 (z9c (q:=h.ptr) (t:=t) (v:=y) (a:=a) (b:=b) (TnPh.row hP (by simp))).2.1 ⟨rfl,hP⟩,
   fun _ _ _ _ hP _=>ziy rfl rfl rfl ⟨rfl,hP⟩,
   fun _ _ _ hA hP _=>zfl rfl rfl hA.1 (z9c (q:=h.ptr) (t:=t) (v:=y) (a:=a) (b:=b) (TnPh.row hP (by simp))).2.2.1 ⟨rfl,hP⟩,
   fun _ _ w1 hA hP hq=>by cases hq 0 rfl;exact z0m rfl rfl rfl (by kernel_rfl) (rgL2 hA.1 hA.2.1) ((HKY.out w1 hP.2).mono fun _ _ hh=>And.intro hh.1 (And.intro (QV.below (rs:=[(g+1,e2O a' b'),(g,qO h.ptr t y a b)]) hP.1 hh.2) (z0b hP.2 hh.2))) fun _ hP2=>⟨rfl,hP2⟩,
   fun _ _ _ _ hP _=>zok rfl rfl rfl ⟨rfl,hP⟩,
   fun _ _ _ hA hP hq=>by cases hq 1 rfl;exact z0m rfl rfl rfl (by kernel_rfl) (rgL3 hA.1 hA.2.1 hA.2.2.1) (HSR.out _ _ _ hP.1 (QV.row (rs:=[(g+1,e2O a' b'),(g,qO h.ptr t y a b)]) hP.1 (by simp))) fun _ hP2=>⟨rfl,hP2⟩,
   trivial⟩
  ·intro W hW;have HW:Hid (QOn w h s2 W):=HV.done hW
   clear hW;go_wp2_with fail
   go_end0
   exact⟨rfl,HW.out⟩
open Go.Shelf
def zce(w:World)(g:Nat)(l:List Int):Prop:=∀ j x,l[j]?=some x->w.cell? ⟨g,j,none⟩=some (.int .i64 x)
theorem zce.ints{w:World}{g:Nat}{l:List Int}(h:zce w g l)(c:Nat):z0w w (.slice (some ⟨g,0,none⟩) l.length c) l:=.inr ⟨_,_,rfl,fun j x hj=>by rw[Addr.add_lit,Nat.zero_add];exact h j x hj⟩
theorem zuz(n:Int)(w:World):Calls Tryz.prog 237 #[.int .i64 n] w fun e w'=>e= .returned (.bool (decide (n<0)))/\w=w':=by
 go_enter Tryz.func237,Tryz.ntmps237;go_wp2_with fail;go_ret;exact⟨rfl,rfl⟩
theorem znr(w:World)(g c:Nat)(l:List Int)(hl:l.length<1000000)(h:zce w g l)(hp:∀ n∈l,0<=n):Calls Tryz.prog 256 #[.slice (some ⟨g,0,none⟩) l.length c,.func (.func 237) #[] #[]] w fun e w'=>e= .returned (.int .i64 (-1))/\w=w':=by
 have HC:Hid (∀ k,k<l.length->∃ n:Int,0<=n/\w.cell? ⟨g,k,none⟩=some (.int .i64 n)):=fun k hk=>⟨l[k],hp _ (List.getElem_mem hk),h k _ (List.getElem?_eq_getElem hk)⟩
 have hl2:(l.length:Int)<9223372036854775807:=by omega
 clear h hp;generalize l.length=m at *
 go_enter Tryz.func256,Tryz.ntmps256;go_wp2_with fail
 go_loopw [8] (fun iv wr=>∃ k:Nat,iv= .int .i64 k/\k<=m/\w=wr) (fun iv _=>m-(intOf iv).toNat)
 case atStart=>exact⟨0,rfl,by omega,rfl⟩
 case round =>
  obtain⟨k,rfl,hk,rfl⟩:=hrel
  by_cases hlt:k<m
  ·obtain⟨n,hn,hc⟩:=HC.out k hlt;have hd:decide (n<0)=false:=decide_eq_false (by omega);have HN:=zh (zuz n w);go_wp2_with (go_at_call 237;refine HN.out.mono ?_;rintro e w1 ⟨rfl,rfl⟩);go_roundw
   case rel=>exact⟨k+1,by go_num,by omega,by first | rfl | trivial⟩
   case measure=>simp[intOf];omega
  ·obtain rfl:k=m:=by omega
   go_wp2_with fail;go_ret;exact⟨rfl,rfl⟩
theorem zi5(w:World)(g c:Nat)(l:List Int)(hl0:0<l.length)(hl:l.length<1000000)(h:zce w g l)(hp:∀ n∈l,0<=n):Calls Tryz.prog 205 #[.slice (some ⟨g,0,none⟩) l.length c] w fun e w'=>e= .returned (.bool true)/\w=w':=by
 have HI:=zh (znr w g c l hl h hp);have HC:Hid (Calls Tryz.prog 236 #[.slice (some ⟨g,0,none⟩) l.length c,.func (.func 237) #[] #[]] w fun e w'=>e= .returned (.bool false)/\w=w'):=by
  clear h hp;go_enter Tryz.func236,Tryz.ntmps236;go_wp2_with (go_at_call 256;refine HI.out.mono ?_;rintro e w1 ⟨rfl,rfl⟩);go_ret;exact⟨rfl,rfl⟩
 have hd:decide ((0:Int)<(l.length:Int))=true:=decide_eq_true (by omega);clear h hp HI;go_enter Tryz.func205,Tryz.ntmps205;go_wp2_with (go_at_call 236;refine HC.out.mono ?_;rintro e w1 ⟨rfl,rfl⟩);go_ret;exact⟨rfl,rfl⟩
theorem zr9(q:Option Addr)(p:ByteArray)(w:World):Calls Tryz.prog 234 #[.pointer q,.string p] w fun e w' =>
  e= .returned (.func (.func 254) #[] #[.pointer (some ⟨w.heap.size,0,none⟩),.pointer (some ⟨w.heap.size+1,0,none⟩)])/\w'=(w.alloc (.cells #[.pointer q] 39)).alloc (.cells #[.string p] 9):=by
 go_enter Tryz.func234,Tryz.ntmps234;go_wp2_with fail;go_ret;exact⟨rfl,rfl⟩
theorem zou(bl n:Int)(h1:bl<9223372036854775808)(h2:n<9223372036854775808)(w:World):Calls Tryz.prog 235 #[.agg #[.int .i64 bl,.int .i64 n]] w fun e w'=>e= .returned (.string (keyL 26 [bl,n]))/\Below w.heap.size w w':=by
 have hc0:=heap_alloc_new w (.cells #[.int .i64 bl,.int .i64 n] 276);have q0:(w.alloc (.cells #[.int .i64 bl,.int .i64 n] 276)).cell? ⟨w.heap.size,0,none⟩=some (.int .i64 bl):=by rw[cell_of_row _ _ _ _ _ _ hc0];rfl
 have q1:(w.alloc (.cells #[.int .i64 bl,.int .i64 n] 276)).cell? ⟨w.heap.size,1,none⟩=some (.int .i64 n):=by rw[cell_of_row _ _ _ _ _ _ hc0];rfl
 have HK:Hid (Calls Tryz.prog 90 #[.int .i64 26,.slice (some ⟨w.heap.size+1,0,none⟩) 2 2] ((w.alloc (.cells #[.int .i64 bl,.int .i64 n] 276)).alloc (.cells #[.int .i64 bl,.int .i64 n] 3)) fun e w'=>e= .returned (.string (keyL 26 [bl,n]))/\Below w.heap.size w w'):=by
  have hr:=heap_alloc_new (w.alloc (.cells #[.int .i64 bl,.int .i64 n] 276)) (.cells #[.int .i64 bl,.int .i64 n] 3);rw[World.size_alloc]at hr
  exact(z5g 26 (by decide) (by decide) _ [bl,n] _ (z2u _ _ _ _ hr) (by simp) (fun m hm=>by
   simp only[List.mem_cons,List.not_mem_nil,or_false]at hm
   rcases hm with rfl | rfl<;>assumption)).mono fun e w' ⟨he,hb⟩=>⟨he,z0b (z00 (z00 (Below.refl _ w) _) _) hb⟩
 clear hc0;generalize keyL 26 [bl,n]=k at *
 go_enter Tryz.func235,Tryz.ntmps235;go_wp2_with (go_at_call 90;refine HK.out.mono ?_;rintro e w1 ⟨rfl,h1⟩);go_ret;exact⟨rfl,h1⟩
abbrev K27:ByteArray:=keyL 27 []
theorem zr6(w:World)(q:Option Addr)(s:St)(h:z1c w.heap.size w q s):Calls Tryz.prog 33 #[.pointer q] w (z8o w (s.int K27)):=by
 have HK:=zh (zk8 27 (by decide) (by decide) w);have HI:Hid (∀ w1,Below w.heap.size w w1->Calls Tryz.prog 99 #[.pointer q,.string (keyL 27 [])] w1 (z8o w (s.int K27))):=fun w1 h1=>((h.below h1).int _).mono fun _ _ h2=>h2.of_below h1
 generalize s.int K27=n at *
 unfold K27 at *
 generalize keyL 27 []=k at *
 clear h;go_enter Tryz.func33,Tryz.ntmps33;go_wp2_with (first | (go_at_call 90;refine zm HK.out ?_;rintro e w1 ⟨rfl,h1⟩)|(go_at_call 99;refine(HI.out _ h1).mono ?_;rintro e w' ⟨rfl,h2⟩));go_ret;exact⟨rfl,h2⟩
attribute [local go_sem] Oper.semAt_some
attribute [local go_sem] Oper.semAt_some
theorem z15(l:List Int)(h:l.length<=100000):(rowB l).size<=1000000:=by
 show(z5d l).toArray.size<=_
 rw[List.size_toArray,z6h];omega
end Go.Proofs.YtnkilceibkkjlaaGreat
