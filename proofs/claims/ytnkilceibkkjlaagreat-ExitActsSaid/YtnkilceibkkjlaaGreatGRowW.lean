/- What is proved here: history of the program: from a block on, an amount (Push). Conditions: sizes, a  -/
import Derived.Test.YtnkilceibkkjlaaGreatGHistW
import Derived.Test.YtnkilceibkkjlaaGreatGExA
import Derived.Test.YtnkilceibkkjlaaGreatGCell
set_option maxRecDepth 100000
set_option maxHeartbeats 16000000
namespace Go.Proofs.YtnkilceibkkjlaaGreat
open Go.RowKit
abbrev pbx(g:Nat)(q:Option Addr)(t:Int)(y:Value)(b:Int)(a:W4):List (Nat × Obj):=[(g+1+1+1+1,uO a),(g+1+1+1,.cells #[.int .i64 b] 3),(g+1+1,.cells #[y] 75),(g+1,.cells #[.int .i64 t] 3),(g,.cells #[.pointer q] 39)]
theorem cell1{w:World}{g:Nat}{v:Value}{T:TypeId}(h:w.heap[g]?=some (.cells #[v] T (0,0))):w.cell? ⟨g,0,none⟩=some v:=by rw[cell_of_row _ _ _ _ _ _ h];rfl
theorem zqz(w W:World)(h:Hand)(s:St)(rs:List (Nat × Obj))(g t:Nat)(ht1:1<=t)(ht2:t<=255)(y:Value)(l:List Int)(i:Int)(b:Nat)(a:W4)(hon:h.on=true)(hI:∀ W L',Step w h.L W L'->z0w W y l)(hl:IdOk l)(hn:I63 i)(hb63:b<9223372036854775808)(hz:s.size<1000000000000)(hk:keyL t (l ++ [i])≠z0d)
  (hsub:∀ x,x∈pbx g h.ptr t y b a->x∈rs) (hV:HV h w s rs W) :
  Calls Tryz.prog 218 #[.int .i64 i,.pointer (some ⟨g,0,none⟩),.pointer (some ⟨g+1,0,none⟩),.pointer (some ⟨g+1+1,0,none⟩),.pointer (some ⟨g+1+1+1,0,none⟩),.pointer (some ⟨g+1+1+1+1,0,none⟩)] W fun e w'=>e= .returned (.int .i64 0)/\HV h w (s.set (keyL t (l ++ [i])) (ptB b a)) rs w':=by
 have HWR:Hid (Calls Tryz.prog 219 #[.pointer h.ptr,.int .i64 t,y,.int .i64 i,.agg (pL b a)] W fun e w'=>e= .returned (.tuple #[])/\HV h w (s.set (keyL t (l ++ [i])) (ptB b a)) rs w'):=by
  obtain⟨L0,_,st,_⟩:=hV.on;exact QV.call hV fun L' h1=>zq7 W ⟨h.ptr,h.on,L'⟩ s t ht1 ht2 y l i b a hon (hI W L0 st) hl hn hb63 h1 hz hk
 have c0:=cell1 (hV.row (g:=g) (o:=.cells #[.pointer h.ptr] 39) (hsub _ (by simp)));have c1:=cell1 (hV.row (g:=g+1) (o:=.cells #[.int .i64 t] 3) (hsub _ (by simp)));have c2:=cell1 (hV.row (g:=g+1+1) (o:=.cells #[y] 75) (hsub _ (by simp)));have c3:=cell1 (hV.row (g:=g+1+1+1) (o:=.cells #[.int .i64 b] 3) (hsub _ (by simp)));obtain⟨a0,a1,a2,a3,_⟩:=row4 (hV.row (g:=g+1+1+1+1) (o:=uO a) (hsub _ (by simp)));generalize s.set (keyL t (l ++ [i])) (ptB b a)=s2 at *
 clear hI hl hn hz hk hsub hV;generalize ((t:Nat):Int)=tt at *
 go_enter Tryz.func218,Tryz.ntmps218;go_wp2_with fail;refine zm HWR.out ?_;rintro e w2 ⟨rfl,hV2⟩;have HV2:=zh hV2;clear hV2 HWR;go_wp2_with fail;go_ret;exact⟨rfl,HV2.out⟩
theorem zjn(w:World)(h:Hand)(s:St)(hon:h.on=true)(hq:QSt w h s):Calls Tryz.prog 66 #[.pointer h.ptr] w fun e w'=>e= .returned (.bool true)/\Below w.heap.size w w':=by
 rcases hq with⟨_,b,hp,hS⟩ | ⟨h0,_⟩
 ·rw[hp];exact(zxd w b true hS.cell0).mono fun e w' ⟨he,hw⟩=>⟨he,by subst hw;exact Below.refl _ _⟩
 ·rw[hon]at h0;cases h0
def St.hpL(s:St)(t:Nat)(l:List Int):Nat × W4:=hpt (s.val (keyL t (l ++ [((s.hlen t l:Nat):Int)-1])))
def St.hnew(s:St)(t:Nat)(l:List Int)(b:Nat)(a:W4):St:=(s.z0m (keyL t l) (((s.hlen t l:Nat):Int)+1)).set (keyL t (l ++ [((s.hlen t l:Nat):Int)])) (ptB b a)
def hpuE(s:St)(t:Nat)(l:List Int)(b:Nat):Int:=if 0<s.hlen t l/\b<(s.hpL t l).1 then 10 else 0
def z6x(s:St)(t:Nat)(l:List Int)(b:Nat)(a:W4):St:=if 0<s.hlen t l then(if b<(s.hpL t l).1 then s else if b=(s.hpL t l).1 then s.set (keyL t (l ++ [((s.hlen t l:Nat):Int)-1])) (ptB b a)else if a=(s.hpL t l).2 then s else s.hnew t l b a)else s.hnew t l b a
theorem kpos(t:Nat){l:List Int}(hpos:∀ x∈l,0<=x){i:Int}(hi:0<=i):keyL t (l ++ [i])≠z0d:=z3o t fun x hx=>by
 rcases List.mem_append.1 hx with h | h
 ·exact hpos x h
 ·rw[List.mem_singleton]at h;subst h;exact hi
theorem zc6{w:World}{h:Hand}{s:St}{rs:List (Nat × Obj)}{W:World}(hV:HV h w s rs W):∃ L',Step w h.L W L':=by
 obtain⟨L0,_,st,_⟩:=hV.on;exact⟨L0,st⟩
theorem zy4(w:World)(h:Hand)(s:St)(f t:Nat)(ht1:1<=t)(ht2:t<=255)(y:Value)(l:List Int)(b:Nat)(a:W4)(hon:h.on=true)(hI:∀ W L',Step w h.L W L'->z0w W y l)(hl:IdOk l)(hpos:∀ x∈l,0<=x)(hbM:b<=1099511627776)(hq:QSt w h s)(hf:s.Fit f)(hm:f<1000000000)(hnm:s.hlen t l<9223372036854775807) :
  Calls Tryz.prog 172 #[.pointer h.ptr,.int .i64 t,y,.int .i64 b,uV a] w fun e w'=>e= .returned (.int .i64 (hpuE s t l b))/\QOn w h (z6x s t l b a) w':=by
 have hB:=(((((HV.start hq).alloc (.cells #[.pointer h.ptr] 39)).alloc (.cells #[.int .i64 t] 3)).alloc (.cells #[y] 75)).alloc (.cells #[.int .i64 b] 3)).alloc (uO a);simp only[World.size_alloc]at hB;have hmm:f<100000000000:=by omega
 have hz:s.size<1000000000000:=Nat.lt_of_le_of_lt hf.size (by omega);have hkk:keyL t l≠z0d:=z3o t hpos;have hn63:=z7y s (keyL t l);have hnn:s.hlen t l<9223372036854775808:=hn63;have HKY:Hid (∀ rs W,HV h w s rs W->Calls Tryz.prog 90 #[.int .i64 t,y] W fun e w'=>e= .returned (.string (keyL t l))/\HV h w s rs w'):=fun rs W hV=>by
  obtain⟨L0,st⟩:=zc6 hV;exact(z90 t ht1 ht2 y l W (hI W L0 st) (by have:=hl.len;omega) hl.lt).mono fun e w' ⟨he,hb⟩=>⟨he,QV.below hV hb⟩
 have HLN:Hid (∀ rs W,HV h w s rs W->Calls Tryz.prog 180 #[.pointer h.ptr,.int .i64 t,y] W fun e w'=>e= .returned (.int .i64 (s.hlen t l))/\HV h w s rs w'):=fun rs W hV=>by
  obtain⟨L0,st⟩:=zc6 hV;exact hV.reads fun L' h1=>zd8 W ⟨h.ptr,h.on,L'⟩ s f t ht1 ht2 y l (hI W L0 st) hl h1 hf hmm
 have HMD:Hid (∀ rs W,HV h w s rs W->Calls Tryz.prog 66 #[.pointer h.ptr] W fun e w'=>e= .returned (.bool true)/\HV h w s rs w'):=fun rs W hV=>hV.reads fun L' h1=>zjn W ⟨h.ptr,h.on,L'⟩ s hon h1
 have HRD:Hid (0<s.hlen t l->∀ rs W,HV h w s rs W->Calls Tryz.prog 181 #[.pointer h.ptr,.int .i64 t,y,.int .i64 (((s.hlen t l:Nat):Int)-1)] W fun e w'=>e= .returned (.agg (pL (s.hpL t l).1 (s.hpL t l).2))/\HV h w s rs w'):=fun h0 rs W hV=>by
  obtain⟨L0,st⟩:=zc6 hV;exact hV.reads fun L' h1=>zax W ⟨h.ptr,h.on,L'⟩ s f t ht1 ht2 y l (((s.hlen t l:Nat):Int)-1) (hI W L0 st) hl (by show((s.hlen t l:Nat):Int)-1<9223372036854775808;omega) h1 hf hmm
 have HCA:Hid (0<s.hlen t l->∀ rs W,(∀ x,x∈pbx w.heap.size h.ptr t y b a->x∈rs)->HV h w s rs W->Calls Tryz.prog 218 #[.int .i64 (((s.hlen t l:Nat):Int)-1),.pointer (some ⟨w.heap.size,0,none⟩),.pointer (some ⟨w.heap.size+1,0,none⟩),.pointer (some ⟨w.heap.size+1+1,0,none⟩),.pointer (some ⟨w.heap.size+1+1+1,0,none⟩),.pointer (some ⟨w.heap.size+1+1+1+1,0,none⟩)] W fun e w'=>e= .returned (.int .i64 0)/\HV h w (s.set (keyL t (l ++ [((s.hlen t l:Nat):Int)-1])) (ptB b a)) rs w'):=fun h0 rs W hsub hV =>
  zqz w W h s rs w.heap.size t ht1 ht2 y l _ b a hon hI hl (by show((s.hlen t l:Nat):Int)-1<9223372036854775808;omega) (by omega) hz (kpos t hpos (by omega)) hsub hV
 have HSI:Hid (s.hlen t l<9223372036854775807->∀ rs W,HV h w s rs W->Calls Tryz.prog 114 #[.pointer h.ptr,.string (keyL t l),.int .i64 (((s.hlen t l:Nat):Int)+1)] W fun e w'=>e= .returned (.tuple #[])/\HV h w (s.z0m (keyL t l) (((s.hlen t l:Nat):Int)+1)) rs w'):=fun h0 rs W hV=>QV.call hV fun L' h1=>zhn W ⟨h.ptr,h.on,L'⟩ s _ _ hon (by omega) h1 hz
 have hz1:(s.z0m (keyL t l) (((s.hlen t l:Nat):Int)+1)).size<1000000000000:=Nat.lt_of_le_of_lt (hf.z0m _ _).size (by omega);have HCB:Hid (∀ rs W,(∀ x,x∈pbx w.heap.size h.ptr t y b a->x∈rs)->HV h w (s.z0m (keyL t l) (((s.hlen t l:Nat):Int)+1)) rs W->Calls Tryz.prog 218 #[.int .i64 ((s.hlen t l:Nat):Int),.pointer (some ⟨w.heap.size,0,none⟩),.pointer (some ⟨w.heap.size+1,0,none⟩),.pointer (some ⟨w.heap.size+1+1,0,none⟩),.pointer (some ⟨w.heap.size+1+1+1,0,none⟩),.pointer (some ⟨w.heap.size+1+1+1+1,0,none⟩)] W fun e w'=>e= .returned (.int .i64 0)/\HV h w (s.hnew t l b a) rs w'):=fun rs W hsub hV =>
  zqz w W h _ rs w.heap.size t ht1 ht2 y l _ b a hon hI hl (by show((s.hlen t l:Nat):Int)<9223372036854775808;omega) (by omega) hz1 (kpos t hpos (by omega)) hsub hV
 have hE0:hpuE s t l b=(if 0<s.hlen t l/\b<(s.hpL t l).1 then 10 else 0):=rfl;have hS0:z6x s t l b a=(if 0<s.hlen t l then(if b<(s.hpL t l).1 then s else if b=(s.hpL t l).1 then s.set (keyL t (l ++ [((s.hlen t l:Nat):Int)-1])) (ptB b a)else if a=(s.hpL t l).2 then s else s.hnew t l b a)else s.hnew t l b a):=rfl;have HLAW:=zh (And.intro hE0 hS0);have hys:∃ ya yn yk,y= .slice ya yn yk:=by
  rcases hI w h.L (Step.refl _ _)with⟨e,_⟩ | ⟨a,c,e,_⟩
  ·exact⟨_,_,_,e⟩
  ·exact⟨_,_,_,e⟩
 obtain⟨ya,yn,yk,hy⟩:=hys;subst hy;have HB:=zh hB;obtain⟨n1,hn1⟩:∃ n1:Int,n1=((s.hlen t l:Nat):Int)-1:=⟨_,rfl⟩;obtain⟨n2,hn2⟩:∃ n2:Int,n2=((s.hlen t l:Nat):Int)+1:=⟨_,rfl⟩;have hw1:0<s.hlen t l->IntKind.i64.wrap (((s.hlen t l:Nat):Int)-1)=n1:=fun h=>by rw[hn1,IntKind.wrap_i64];omega
 have hw1':0<s.hlen t l->wrap64 (((s.hlen t l:Nat):Int)-1)=n1:=fun h=>by rw[hn1];unfold wrap64;omega
 have hw2:IntKind.i64.wrap (((s.hlen t l:Nat):Int)+1)=n2:=by rw[hn2,IntKind.wrap_i64];omega
 have hw2':wrap64 (((s.hlen t l:Nat):Int)+1)=n2:=by rw[hn2];unfold wrap64;omega
 have hb0:((b:Int)<0)=False:=by simp
 have hbm:((1099511627776:Int)<(b:Int))=False:=by simp;omega
 clear hE0 hS0;rw[<- hn1]at HRD HCA HLAW;rw[<- hn2]at HSI HCB;generalize hpuE s t l b=rE at *
 generalize z6x s t l b a=rS at *
 generalize s.set (keyL t (l ++ [n1])) (ptB b a)=sA at *
 generalize s.z0m (keyL t l) n2=sB at *
 generalize s.hnew t l b a=sC at *
 obtain⟨⟨p1,p2⟩,hp⟩:∃ p,p=s.hpL t l:=⟨_,rfl⟩;rw[<- hp]at HRD HLAW;generalize s.hlen t l=n at *
 generalize keyL t l=kk at *
 clear hB hI hl hpos hq hf hm hmm hz hn63 hnn hz1 hp ht1 ht2 hon hbM hn1 hn2;generalize ((t:Nat):Int)=tt at *
 go_enter Tryz.func172,Tryz.ntmps172;go_wp2_with fail;refine zm (HKY.out _ _ HB.out) ?_;rintro e w2 ⟨rfl,hB2⟩;have c0:=cell1 (hB2.row (g:=w.heap.size) (o:=.cells #[.pointer h.ptr] 39) (by simp));have c1:=cell1 (hB2.row (g:=w.heap.size+1) (o:=.cells #[.int .i64 tt] 3) (by simp));have c2:=cell1 (hB2.row (g:=w.heap.size+1+1) (o:=.cells #[.slice ya yn yk] 75) (by simp));have H2:=zh hB2;have hke:=z9i hkk;have HL2:=zh (HLN.out _ _ hB2);clear hB2 HB HKY HLN H2;go_wp2_with fail;refine zm HL2.out ?_;rintro e w3 ⟨rfl,hB3⟩;have d0:=cell1 (hB3.row (g:=w.heap.size) (o:=.cells #[.pointer h.ptr] 39) (by simp));have HM3:=zh (HMD.out _ _ hB3);clear hB3 HL2 HMD c0 c1 c2;go_wp2_with fail;refine zm HM3.out ?_;rintro e w4 ⟨rfl,hB4⟩;have c0:=cell1 (hB4.row (g:=w.heap.size) (o:=.cells #[.pointer h.ptr] 39) (by simp));have c1:=cell1 (hB4.row (g:=w.heap.size+1) (o:=.cells #[.int .i64 tt] 3) (by simp));have c2:=cell1 (hB4.row (g:=w.heap.size+1+1) (o:=.cells #[.slice ya yn yk] 75) (by simp));have c3:=cell1 (hB4.row (g:=w.heap.size+1+1+1) (o:=.cells #[.int .i64 b] 3) (by simp));have HB:=zh hB4;clear hB4 HM3 d0
 by_cases h0:0<n
 ·have hR:=zh (HRD.out h0 _ _ HB.out);have hA:=zh (HCA.out h0);have hd:(0<n)=True:=eq_true h0;have hw:=hw1 h0;have hw':=hw1' h0;clear HRD HCA hw1 hw1';clear HB;go_wp2_with fail;refine zm hR.out ?_;rintro e w5 ⟨rfl,hB5⟩;have H5:=zh hB5;clear hB5 hR c0 c1 c2 c3;go_upto_region 10 with fail;have hB6:=H5.out.alloc (pO p1 p2);generalize hW6:w5.alloc (pO p1 p2)=w6 at *
  generalize w5.heap.size=g1 at *
  have c3:=cell1 (hB6.row (g:=w.heap.size+1+1+1) (o:=.cells #[.int .i64 b] 3) (by simp));obtain⟨a0,a1,a2,a3,a4,a5,a6,a7⟩:=row4 (hB6.row (g:=w.heap.size+1+1+1+1) (o:=uO a) (by simp));obtain⟨⟨z0,z1,z2,z3,z4⟩,f0,f1,f2,f3,f4⟩:=row5 (hB6.row (g:=g1) (o:=pO p1 p2) (by simp));have HB:=zh hB6;clear hB6 hW6 H5
  by_cases hlt:b<p1
  ·have hL:rE=10/\rS=s:=by
    have:=HLAW.out;rw[if_pos ⟨h0,hlt⟩,if_pos h0,if_pos hlt]at this;exact this
   obtain⟨rfl,rfl⟩:=hL;have hlt2:(b<p1)=True:=eq_true hlt;clear HLAW hA hlt h0;go_wp2_with fail;go_ret;exact⟨rfl,HV.done HB.out⟩
  ·have hlt2:(b<p1)=False:=eq_false hlt
   by_cases hbe:b=p1
   ·have hL:rE=0/\rS=sA:=by
     have:=HLAW.out;rw[if_neg (fun h=>hlt h.2),if_pos h0,if_neg hlt,if_pos hbe]at this;exact this
    obtain⟨rfl,rfl⟩:=hL;have hbe2:(b==p1)=true:=by rw[beq_iff_eq];exact hbe
    have hbe3:((b:Int)==(p1:Int))=true:=by rw[beq_iff_eq,hbe]
    have HA6:=zh (hA.out _ _ (fun x hx=>List.mem_cons_of_mem _ hx) HB.out);clear HLAW hA hlt hbe h0 HB;go_wp2_with fail;refine zm HA6.out ?_;rintro e w7 ⟨rfl,hB7⟩;have HB7:=zh hB7;clear hB7 HA6;go_wp2_with fail;go_ret;exact⟨rfl,HV.done HB7.out⟩
   ·have hbe2:(b==p1)=false:=by rw[beq_eq_false_iff_ne];exact hbe
    have hbe3:((b:Int)==(p1:Int))=false:=by rw[beq_eq_false_iff_ne];omega
    by_cases hap:a=p2
    ·have hL:rE=0/\rS=s:=by
      have:=HLAW.out;rw[if_neg (fun h=>hlt h.2),if_pos h0,if_neg hlt,if_neg hbe,if_pos hap]at this;exact this
     obtain⟨rfl,rfl⟩:=hL;have hE:∀ w,(Op.equalIn 10000 24 (.agg #[.int .u64 a.1,.int .u64 a.2.1,.int .u64 a.2.2.1,.int .u64 a.2.2.2]) (.agg #[.int .u64 p2.1,.int .u64 p2.2.1,.int .u64 p2.2.2.1,.int .u64 p2.2.2.2])).run Tryz.prog w= .ok true w:=fun w=>by
      have:=eqU a p2 w;rw[decide_eq_true hap]at this;exact this
     clear HLAW hA hlt hbe h0 hap;go_wp2_with fail;go_ret;exact⟨rfl,HV.done HB.out⟩
    ·have hL:rE=0/\rS=sC:=by
      have:=HLAW.out;rw[if_neg (fun h=>hlt h.2),if_pos h0,if_neg hlt,if_neg hbe,if_neg hap]at this;exact this
     obtain⟨rfl,rfl⟩:=hL;have hE:∀ w,(Op.equalIn 10000 24 (.agg #[.int .u64 a.1,.int .u64 a.2.1,.int .u64 a.2.2.1,.int .u64 a.2.2.2]) (.agg #[.int .u64 p2.1,.int .u64 p2.2.1,.int .u64 p2.2.2.1,.int .u64 p2.2.2.2])).run Tryz.prog w= .ok false w:=fun w=>by
      have:=eqU a p2 w;rw[decide_eq_false hap]at this;exact this
     have c0:=cell1 (HB.out.row (g:=w.heap.size) (o:=.cells #[.pointer h.ptr] 39) (by simp));have HS4:=zh (HSI.out hnm _ _ HB.out);clear HSI HB HLAW hA hlt hbe h0 hap;go_wp2_with fail;refine zm HS4.out ?_;rintro e w7 ⟨rfl,hB7⟩;have H7:=zh (HCB.out _ _ (fun x hx=>List.mem_cons_of_mem _ hx) hB7);clear hB7 HS4 HCB hw2 hw2' c0 c3 hke hb0 hbm hd;go_wp2_with fail;refine zm H7.out ?_;rintro e w8 ⟨rfl,hB8⟩;have HB8:=zh hB8;clear hB8 H7;go_wp2_with fail;go_ret;exact⟨rfl,HV.done HB8.out⟩
 ·have hd:(0<n)=False:=eq_false h0;have hL:rE=0/\rS=sC:=by
   have:=HLAW.out;rw[if_neg (fun h=>h0 h.1),if_neg h0]at this;exact this
  obtain⟨rfl,rfl⟩:=hL;clear HLAW HRD HCA h0 hw1 hw1';have HS4:=zh (HSI.out hnm _ _ HB.out);clear HSI HB;go_wp2_with fail;refine zm HS4.out ?_;rintro e w5 ⟨rfl,hB5⟩;have H5:=zh (HCB.out _ _ (fun x hx=>hx) hB5);clear hB5 HS4 HCB hw2 hw2' c0 c1 c2 c3 hke hb0 hbm hd;go_wp2_with fail;refine zm H5.out ?_;rintro e w6 ⟨rfl,hB6⟩;have HB6:=zh hB6;clear hB6 H5;go_wp2_with fail;go_ret;exact⟨rfl,HV.done HB6.out⟩
theorem zw5{b:Nat}{a:W4}(hb:b<9223372036854775808)(ha:a.Ok):hpt (ptB b a)=(b,a):=by
 have ht:=zmd ha;have h8:(numB b).size=8:=rfl;have h32:(amtB a).size=32:=by show(amtL a).toArray.size=32;simp[amtL]
 have hs:(numB b++amtB a).size=40:=by rw[ByteArray.size_append,h8,h32]
 have e1:(numB b++amtB a).extract 0 8=numB b:=ByteArray.extract_append_eq_left h8.symm;have e2:(numB b++amtB a).extract 8 40=amtB a:=ByteArray.extract_append_eq_right h8.symm (by rw[h8,h32]);unfold hpt ptB;rw[hs,if_neg (by omega),e1,e2,z6i b hb];generalize amtB a=z at *
 show(if z.size=32 then(b,z3a z)else _)=_
 rw[if_pos h32,ht]
def z4h(l:List Int):List UInt8:=l.flatMap fun n=>be8 n.toNat
def rowB(l:List Int):ByteArray:=⟨(z4h l).toArray⟩
theorem z7e(l:List Int):(z4h l).length=8*l.length:=by
 unfold z4h
 induction l with
 | nil=>rfl
 | cons x l ih=>simp only[List.flatMap_cons,List.length_cons,List.length_append,z5g,ih];omega
theorem zes(l:List Int)(n:Int):z4h (l ++ [n])=z4h l++be8 n.toNat:=by simp[z4h]
theorem zd3:∀ (l:List Int),(∀ n∈l,0<=n/\n<9223372036854775808)->numsL (z4h l)=some (l.map (·.toNat))
 | [],_=>rfl
 | n::l,h=>by
  have hn:=h n (by simp)
  have e:z4h (n::l)=be8 n.toNat++z4h l:=by simp[z4h]
  have h8:(be8 n.toNat).length=8:=rfl
  rw[e,z2o _ (by rw[List.length_append,h8];omega),List.take_append_of_le_length (by omega),List.take_of_length_le (by omega),List.drop_append_of_le_length (by omega),List.drop_of_length_le (by omega),List.nil_append,zd3 l fun m hm=>h m (by simp[hm])]
  have h2:=z6i n.toNat (by omega)
  rw[zc4,z2o _ (by omega),List.take_of_length_le (by omega),List.drop_of_length_le (by omega)]at h2
  split at h2
  ·next hb =>
   simp[numsL]at h2
   rw[if_pos hb,h2];rfl
  ·cases h2
theorem zgs(l:List Int)(h:∀ n∈l,0<=n/\n<9223372036854775808):rowOf (rowB l)=l.map (·.toNat):=by
 unfold rowOf;rw[show(rowB l).data.toList=z4h l by simp[rowB],zd3 l h];rfl
theorem zwr{l:List Int}(h:l≠[]):rowB l≠z0d:=fun e=>by
 have:=congrArg (fun b:ByteArray=>b.data.toList) e
 have h2:z4h l = []:=by simpa [rowB,z0d]using this
 have h3:=z7e l
 rw[h2]at h3
 exact h (List.eq_nil_of_length_eq_zero (by simp at h3;omega))
def zhc(l:List Int)(w:World)(k:Nat)(wr:World):Prop:=k<=l.length/\IsB wr w.heap.size w.heap.size (z4h (l.take k))/\Below w.heap.size w wr
theorem zn2(w:World)(b:Nat)(s:St)(L:List Nat)(key:ByteArray)(v:Value)(l:List Int)(h:SRep w b s L)(hb:s.size<1000000000000)(hv:z0w w v l)(hl:l.length<1000000000)(hne:l≠[])(hr:∀ n∈l,0<=n/\n<9223372036854775808) :
  Calls Tryz.prog 107 #[.pointer (some ⟨b,0,none⟩),.string key,v] w (z2s w b L (.tuple #[]) (s.put key (rowB l))):=by
 obtain⟨ad,c,hve⟩:∃ ad c,v= .slice ad l.length c:=by
  rcases hv with⟨rfl,rfl⟩ | ⟨a,c,h1,_⟩
  ·exact⟨none,0,rfl⟩
  ·exact⟨some a,c,h1⟩
 have HC:Hid (∀ wr k (n:Int),zhc l w k wr->l[k]?=some n->∃ a,ad=some a/\wr.cell? (a.add k)=some (.int .i64 n)):=fun wr k n hb0 hk=>by
  have hb:=hb0.2.2;rcases hv with⟨_,rfl⟩ | ⟨a,c',h1,h3⟩
  ·simp at hk
  ·have:ad=some a:=by rw[hve]at h1;cases h1;rfl
   exact⟨a,this,by rw[hb.cell (p:=a.add k) (World.block_lt_of_cell? w _ (h3 k n hk))];exact h3 k n hk⟩
 subst hve;clear hv;have hB0:IsB (w.alloc (.cells #[.pointer none,.slice none 0 0] 211)) w.heap.size w.heap.size []:=
  .inl ⟨Nat.le_refl _,_,heap_alloc_new w _,⟨by simp[Lib.byteCells],.inl ⟨rfl,rfl⟩⟩,by simp[Value.ownBlock]⟩
 have H0:Hid (zhc l w 0 (w.alloc (.cells #[.pointer none,.slice none 0 0] 211))):=⟨by omega,by simpa [z4h]using hB0,(Below.refl _ w).alloc (Nat.le_refl _) _⟩;have HN:Hid (∀ wr k,zhc l w k wr->∀ n:Nat,l[k]?=some (n:Int)->Calls Tryz.prog 162 #[.int .i64 n] wr fun e w'=>e= .returned (.string (numB n))/\zhc l w k w'):=fun wr k hk n hn=>by
  have hn2:=hr _ (List.mem_of_getElem? hn);refine(zfj n wr (by omega)).mono fun e w' ⟨he,hb⟩=>⟨he,hk.1,zhr hk.2.1 hb,hk.2.2.trans (hb.mono hk.2.2.size)⟩
 have HS:Hid (∀ wr k,zhc l w k wr->∀ n:Nat,l[k]?=some (n:Int)->Calls Tryz.prog 161 #[.pointer (some ⟨w.heap.size,0,none⟩),.string (numB n)] wr fun e w'=>e= .returned (.tuple #[.int .i64 8,.nilIface])/\zhc l w (k+1) w'):=fun wr k hk n hn=>by
  have hkl:k<l.length:=(List.getElem?_eq_some_iff.1 hn).1;have hln:(z4h (l.take k)).length+(numB n).size<1000000000000:=by
   rw[z7e,show(numB n).size=8 from rfl,List.length_take];omega
  refine(zb1 w.heap.size w.heap.size _ (numB n) wr hk.2.1 hln (by rw[show(numB n).size=8 from rfl];omega) hk.2.2.size).mono fun e w' ⟨he,h1,h2⟩=>⟨he,by omega,?_,hk.2.2.trans h2⟩
  rw[z1u l k _ hn,zes];exact h1
 have HT:Hid (∀ wr,zhc l w l.length wr->Calls Tryz.prog 163 #[.pointer (some ⟨w.heap.size,0,none⟩)] wr fun e w'=>e= .returned (.string (rowB l))/\Below w.heap.size w w'):=fun wr hk=>by
  obtain⟨_,h2,h3⟩:=hk;rw[List.take_length]at h2
  exact(ze9 w.heap.size w.heap.size _ wr h2 (fun e=>by
   have:=z7e l;rw[e]at this
   exact hne (List.eq_nil_of_length_eq_zero (by simp at this;omega)))).mono fun e w' ⟨he,hb⟩=>⟨he,h3.trans hb⟩
 have HP:Hid (∀ w1,Below w.heap.size w w1->Calls Tryz.prog 149 #[.pointer (some ⟨b,0,none⟩),.string key,.string (rowB l)] w1 fun e w'=>e= .returned (.tuple #[])/\z2s w b L (.tuple #[]) (s.put key (rowB l)) e w'):=fun w1 h1 =>
  (zgb w1 b s L key (rowB l) (h.fr (Fr.of_below h1 (fun _=>False)) (fun _ _=>id)) hb).mono fun e w' h2=>⟨h2.1,h2.of_below h1⟩
 have hget:∀ k,k<l.length->∃ n:Nat,l[k]?=some (n:Int):=fun k hk=>⟨(l[k]).toNat,by
  have:=hr l[k] (List.getElem_mem hk);rw[List.getElem?_eq_getElem hk]
  congr 1;omega⟩
 have HGET:=zh hget;have hln:(l.length:Int)<9223372036854775807:=by omega
 clear hB0 hget hr h hb hne;generalize hm:l.length=m at *
 generalize rowB l=rb at *
 generalize hKT:zhc l w=KT at *
 generalize z2s w b L (.tuple #[]) (s.put key rb)=R at *
 clear hKT;have HM:=zh hm;clear hm;go_enter Tryz.func107,Tryz.ntmps107;go_wp2_with fail
 go_loopw [11] (fun i wr=>∃ k:Nat,i= .int .i64 k/\k<=m/\KT k wr) (fun i _=>m-(intOf i).toNat)
 case atStart=>exact⟨0,rfl,by omega,H0.out⟩
 case round =>
  obtain⟨k,rfl,hk,hN⟩:=hrel;have HK:=zh hN;clear hN H0
  by_cases hlt:k<m
  ·obtain⟨n,hn⟩:=HGET.out k hlt;obtain⟨a,rfl,hc⟩:=HC.out wr k n HK.out hn;have HNk:=zh hn;have hd:decide ((n:Int)<0)=false:=by simp
   clear hn;go_wp2_with fail;refine(HN.out wr k HK.out n HNk.out).mono ?_;rintro e w1 ⟨rfl,hK1⟩;have HK1:=zh hK1;clear hK1;go_wp2_with fail;refine(HS.out w1 k HK1.out n HNk.out).mono ?_;rintro e w2 ⟨rfl,hK2⟩;have HK2:=zh hK2;clear hK2;go_wp2_with fail;go_roundw
   case rel=>exact⟨k+1,by go_num,by omega,HK2.out⟩
   case measure=>simp[intOf];omega
  ·obtain rfl:k=m:=by omega
   have HTT:=zh (HT.out wr HK.out);go_wp2_with fail;refine HTT.out.mono ?_;rintro e w1 ⟨rfl,hb1⟩;go_wp2_with fail;refine(HP.out w1 hb1).mono ?_;rintro e w2 ⟨rfl,hR⟩;go_wp2_with fail
   go_end0
   exact hR
def z8p(l:List Int)(w:World)(k:Nat)(s:ByteArray)(wr:World):Prop:=k<=l.length/\s=⟨(z4h (l.take k)).toArray⟩/\Below w.heap.size w wr
theorem z8p.next{l:List Int}{w:World}{k:Nat}{s:ByteArray}{wr:World}(h:z8p l w k s wr){n:Nat}(hn:l[k]?=some (n:Int)):z8p l w (k+1) (s++numB n) wr:=by
 obtain⟨h1,h2,h3⟩:=h;have hlt:k<l.length:=(List.getElem?_eq_some_iff.1 hn).1;refine⟨by omega,?_,h3⟩;subst h2;have hx:=z1u l k _ hn;apply zeq;rw[hx,zes];rw[show((⟨(z4h (List.take k l)).toArray⟩:ByteArray)++numB n).data=(z4h (List.take k l)).toArray++(numB n).data from ByteArray.data_append]
 simp[numB]
theorem zj3(w:World)(b:Nat)(s:St)(L:List Nat)(key:ByteArray)(v:Value)(l:List Int)(h:RRep w b s L)(hb:s.size<1000000000000)(hkey:key≠z0d)(hv:z0w w v l)(hl:l.length<1000000000)(hne:l≠[])(hr:∀ n∈l,0<=n/\n<9223372036854775808) :
  Calls Tryz.prog 187 #[.pointer (some ⟨b,0,none⟩),.string key,v] w (RetR w b L (.tuple #[]) (s.put key (rowB l))):=by
 obtain⟨ad,c,hve⟩:∃ ad c,v= .slice ad l.length c:=by
  rcases hv with⟨rfl,rfl⟩ | ⟨a,c,h1,_⟩
  ·exact⟨none,0,rfl⟩
  ·exact⟨some a,c,h1⟩
 have HC:Hid (∀ wr k sb (n:Int),z8p l w k sb wr->l[k]?=some n->∃ a,ad=some a/\wr.cell? (a.add k)=some (.int .i64 n)):=fun wr k sb n hb0 hk=>by
  have hb:=hb0.2.2;rcases hv with⟨_,rfl⟩ | ⟨a,c',h1,h3⟩
  ·simp at hk
  ·have:ad=some a:=by rw[hve]at h1;cases h1;rfl
   exact⟨a,this,by rw[hb.cell (p:=a.add k) (World.block_lt_of_cell? w _ (h3 k n hk))];exact h3 k n hk⟩
 subst hve;clear hv;have H0:Hid (z8p l w 0 ⟨#[]⟩ w):=⟨by omega,by simp[z4h],Below.refl _ _⟩;have HN:Hid (∀ wr k sb,z8p l w k sb wr->∀ n:Nat,l[k]?=some (n:Int)->Calls Tryz.prog 166 #[.int .i64 n] wr fun e w'=>e= .returned (.string (numB n))/\z8p l w (k+1) (sb++numB n) w'):=fun wr k sb hk n hn=>by
  have hn2:=hr _ (List.mem_of_getElem? hn);refine(zbb n wr (by omega)).mono fun e w' ⟨he,hb⟩=>⟨he,?_⟩
  have:=hk.next hn;exact⟨this.1,this.2.1,this.2.2.trans (hb.mono this.2.2.size)⟩
 have HT:Hid (∀ wr sb,z8p l w l.length sb wr->sb=rowB l/\Below w.heap.size w wr):=fun wr sb hk=>by
  obtain⟨_,h2,h3⟩:=hk;rw[List.take_length]at h2;exact⟨h2,h3⟩
 have HP:Hid (∀ w1,Below w.heap.size w w1->Calls Tryz.prog 198 #[.pointer (some ⟨b,0,none⟩),.string key,.string (rowB l)] w1 fun e w'=>∃ x:Int,e= .returned (.int .i64 x)/\RetR w b L (.tuple #[]) (s.put key (rowB l)) (.returned (.tuple #[])) w'):=fun w1 h1=>by
  have e:s.put key (rowB l)=s.set key (rowB l):=by unfold St.put;rw[if_neg (zwr hne),if_neg hkey]
  rw[e];exact(zbm w1 b s L key (rowB l) (h.below h1) hkey hb).mono fun e w' h2=>⟨0,h2.1,RetR.of_below h1 ⟨rfl,h2.2⟩⟩
 have HSZ:Hid (∀ wr k sb,z8p l w k sb wr->sb.size<10000000000):=fun wr k sb hk=>by
  rw[hk.2.1];show(z4h (l.take k)).toArray.size<_
  rw[List.size_toArray,z7e,List.length_take];omega
 have hget:∀ k,k<l.length->∃ n:Nat,l[k]?=some (n:Int):=fun k hk=>⟨(l[k]).toNat,by
  have:=hr l[k] (List.getElem_mem hk);rw[List.getElem?_eq_getElem hk]
  congr 1;omega⟩
 have HGET:=zh hget;have hln:(l.length:Int)<9223372036854775807:=by omega
 have hemp:(rowB l).toList.isEmpty=false:=by
  have h2:=z7e l;rw[ByteArray.toList_eq];show(z4h l).toArray.toList.isEmpty=false
  cases h3:z4h l with
  | nil=>rw[h3]at h2;exact absurd (List.eq_nil_of_length_eq_zero (by simp at h2;omega)) hne
  | cons x r=>rfl
 clear hget hr h hb hne hkey;generalize hm:l.length=m at *
 generalize rowB l=rb at *
 generalize hKT:z8p l w=KT at *
 generalize RetR w b L (.tuple #[]) (s.put key rb)=R at *
 clear hKT;have HM:=zh hm;clear hm;go_enter Tryz.func187,Tryz.ntmps187;go_wp2_with fail
 go_loopw [6,11] (fun sv i wr=>∃ (k:Nat) (sb:ByteArray),i= .int .i64 k/\sv= .string sb/\k<=m/\KT k sb wr) (fun _ i _=>m-(intOf i).toNat)
 case atStart=>exact⟨0,_,rfl,rfl,by omega,H0.out⟩
 case round =>
  obtain⟨k,sb,rfl,rfl,hk,hN⟩:=hrel;have HK:=zh hN;have hsz:=HSZ.out _ _ _ hN;clear hN H0
  by_cases hlt:k<m
  ·obtain⟨n,hn⟩:=HGET.out k hlt;obtain⟨a,rfl,hc⟩:=HC.out wr k sb n HK.out hn;have HNk:=zh hn;have hd:decide ((n:Int)<0)=false:=by simp
   have hsn:(numB n).size=8:=rfl;clear hn;go_wp2_with fail;refine(HN.out wr k sb HK.out n HNk.out).mono ?_;rintro e w1 ⟨rfl,hK1⟩;have HK1:=zh hK1;clear hK1;go_wp2_with fail;go_roundw
   case rel=>exact⟨k+1,_,by go_num,rfl,by omega,HK1.out⟩
   case measure=>simp[intOf];omega
  ·obtain rfl:k=m:=by omega
   obtain⟨rfl,hb1⟩:=HT.out wr sb HK.out;have HPP:=zh (HP.out wr hb1);clear hb1;go_wp2_with fail;refine HPP.out.mono ?_;rintro e w2 ⟨x,rfl,hR⟩;go_wp2_with fail
   go_end0
   exact hR
theorem next_any(w:World)(b:Nat)(s:St)(L:List Nat)(key:ByteArray)(h:SRep w b s L)(hb:s.size<1000000000000)(hv:(s.val key).size<1000000000000)(hn:s.int key<1000000000000) :
  Calls Tryz.prog 106 #[.pointer (some ⟨b,0,none⟩),.string key] w (z2s w b L (.int .i64 ((s.int key:Nat)+1:Int)) (s.z0m key ((s.int key:Nat)+1:Int))):=by
 have HI:=zh (zvc w b s L key h hv);have HS:Hid (∀ w1,Below w.heap.size w w1->Calls Tryz.prog 114 #[.pointer (some ⟨b,0,none⟩),.string key,.int .i64 ((s.int key:Nat)+1:Int)] w1 fun e w'=>e= .returned (.tuple #[])/\z2s w b L (.int .i64 ((s.int key:Nat)+1:Int)) (s.z0m key ((s.int key:Nat)+1:Int)) (.returned (.int .i64 ((s.int key:Nat)+1:Int))) w'):=fun w1 h1 =>
  (zbu w1 b s L key _ (by omega) (h.below h1) hb).mono fun e w' h2=>⟨h2.1,z2s.of_below h1 ⟨rfl,h2.2⟩⟩
 generalize z2s w b L (.int .i64 ((s.int key:Nat)+1:Int)) (s.z0m key ((s.int key:Nat)+1:Int))=R at *
 clear h hb hv;generalize s.int key=n at *
 have hd:decide ((n:Int)<9223372036854775807)=true:=decide_eq_true (by omega);have hdn:decide (n<9223372036854775807)=true:=decide_eq_true (by omega);have hw:wrap64 ((n:Int)+1)=(n:Int)+1:=by unfold wrap64;omega
 clear hn;go_enter Tryz.func106,Tryz.ntmps106;go_wp2_with (first | (go_at_call 99;refine HI.out.mono ?_;rintro e w1 ⟨rfl,h1⟩)|(go_at_call 114;refine(HS.out _ h1).mono ?_;rintro e w2 ⟨rfl,hR⟩));exact hR
theorem zrd(w:World)(b:Nat)(s:St)(L:List Nat)(key:ByteArray)(h:RRep w b s L)(hb:s.size<1000000000000)(hv:(s.val key).size<1000000000000)(hn:s.int key<1000000000000) :
  Calls Tryz.prog 186 #[.pointer (some ⟨b,0,none⟩),.string key] w (RetR w b L (.int .i64 ((s.int key:Nat)+1:Int)) (s.z0m key ((s.int key:Nat)+1:Int))):=by
 have HI:=zh (zfy w b s L key h hv hb);have HS:Hid (∀ w1,Below w.heap.size w w1->Calls Tryz.prog 189 #[.pointer (some ⟨b,0,none⟩),.string key,.int .i64 ((s.int key:Nat)+1:Int)] w1 fun e w'=>e= .returned (.tuple #[])/\RetR w b L (.int .i64 ((s.int key:Nat)+1:Int)) (s.z0m key ((s.int key:Nat)+1:Int)) (.returned (.int .i64 ((s.int key:Nat)+1:Int))) w'):=fun w1 h1 =>
  (zbp w1 b s L key _ (by omega) (h.below h1) hb).mono fun e w' h2=>⟨h2.1,RetR.of_below h1 ⟨rfl,h2.2⟩⟩
 generalize RetR w b L (.int .i64 ((s.int key:Nat)+1:Int)) (s.z0m key ((s.int key:Nat)+1:Int))=R at *
 clear h hb hv;generalize s.int key=n at *
 have hd:decide ((n:Int)<9223372036854775807)=true:=decide_eq_true (by omega);have hdn:decide (n<9223372036854775807)=true:=decide_eq_true (by omega);have hw:wrap64 ((n:Int)+1)=(n:Int)+1:=by unfold wrap64;omega
 clear hn;go_enter Tryz.func186,Tryz.ntmps186;go_wp2_with (first | (go_at_call 100;refine HI.out.mono ?_;rintro e w1 ⟨rfl,h1⟩)|(go_at_call 189;refine(HS.out _ h1).mono ?_;rintro e w2 ⟨rfl,hR⟩));exact hR
end Go.Proofs.YtnkilceibkkjlaaGreat
