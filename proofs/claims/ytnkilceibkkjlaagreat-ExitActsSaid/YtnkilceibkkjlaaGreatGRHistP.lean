/- What is proved here: the reference's history: a checkpoint written, the last, what it was at a block, -/
import Derived.Test.YtnkilceibkkjlaaGreatGExR
import Derived.Test.YtnkilceibkkjlaaGreatGRowW
set_option maxRecDepth 100000
set_option maxHeartbeats 16000000
namespace Go.Proofs.YtnkilceibkkjlaaGreat
open Go.RowKit
theorem FV.set{b:Nat}{w W:World}{L:List Nat}{s:St}{rs:List (Nat × Obj)}(hq:FV b w L s rs W)(hz:s.size<1000000000000)(k v:ByteArray)(hk:k≠z0d):Calls Tryz.prog 198 #[.pointer (some ⟨b,0,none⟩),.string k,.string v] W fun e W'=>e= .returned (.int .i64 0)/\FV b w L (s.set k v) rs W':=
 QV.call hq fun L' h1=>(zbm W b s L' k v h1 hk hz).mono fun _ _ ⟨he,h2⟩=>⟨he,h2⟩
theorem FV.z0m{b:Nat}{w W:World}{L:List Nat}{s:St}{rs:List (Nat × Obj)}(hq:FV b w L s rs W)(hz:s.size<1000000000000)(k:ByteArray)(n:Int)(hn:n<9223372036854775808):Calls Tryz.prog 189 #[.pointer (some ⟨b,0,none⟩),.string k,.int .i64 n] W fun e W'=>e= .returned (.tuple #[])/\FV b w L (s.z0m k n) rs W':=
 QV.call hq fun L' h1=>(zbp W b s L' k n hn h1 hz).mono fun _ _ ⟨he,h2⟩=>⟨he,h2⟩
theorem zoe(w:World)(b:Nat)(L:List Nat)(s:St)(t:Nat)(ht1:1<=t)(ht2:t<=255)(y:Value)(l:List Int)(n:Int)(k:Nat)(a:W4)(hi:z0w w y l)(hl:IdOk l)(hn:I63 n)(hb63:k<9223372036854775808)(hq:RRep w b s L)(hz:s.size<1000000000000)(hk:keyL t (l ++ [n])≠z0d) :
  Calls Tryz.prog 230 #[.pointer (some ⟨b,0,none⟩),.int .i64 t,y,.int .i64 n,.int .i64 k,uV a] w fun e w'=>e= .returned (.tuple #[])/\ROn w b L (s.set (keyL t (l ++ [n])) (ptB k a)) w':=by
 have hB:=(FV.start hq).alloc (uO a);have hb0:=z04 (Below.refl _ w) (uO a);have HWT:Hid (∀ W,z0w W y l->Calls Tryz.prog 201 #[y,.int .i64 n] W fun e w'=>(∃ v,e= .returned v/\z0w w' v (l ++ [n]))/\Below W.heap.size W w'):=fun W h=>(zhv W y l n h hl).mono fun e w' ⟨v,he,hv,hb⟩=>⟨⟨v,he,hv⟩,hb⟩
 have HKY:Hid (∀ W v,z0w W v (l ++ [n])->Calls Tryz.prog 95 #[.int .i64 t,v] W fun e w'=>e= .returned (.string (keyL t (l ++ [n])))/\Below W.heap.size W w'):=fun W v h=>zgl W t ht1 ht2 v l n h hl hn
 have HNU:Hid (∀ W,Calls Tryz.prog 166 #[.int .i64 k] W fun e w'=>e= .returned (.string (numB k))/\Below W.heap.size W w'):=fun W=>zbb k W hb63
 have HAM:Hid (∀ W,Calls Tryz.prog 199 #[uV a] W fun e w'=>e= .returned (.string (amtB a))/\Below W.heap.size W w'):=fun W=>zb2 a W
 have HST:Hid (∀ rs W,FV b w L s rs W->Calls Tryz.prog 198 #[.pointer (some ⟨b,0,none⟩),.string (keyL t (l ++ [n])),.string (numB k++amtB a)] W fun e w'=>e= .returned (.int .i64 0)/\FV b w L (s.set (keyL t (l ++ [n])) (ptB k a)) rs w'):=fun rs W hW=>hW.set hz _ _ hk
 have h32:(amtB a).size=32:=by show(amtL a).toArray.size=32;simp[amtL]
 have h8:(numB k).size=8:=rfl;have hiw:=hi.below hb0;generalize s.set (keyL t (l ++ [n])) (ptB k a)=s2 at *
 generalize keyL t (l ++ [n])=kk at *
 generalize amtB a=am at *
 generalize numB k=nb at *
 have HS32:=zh h32;have HS8:=zh h8;clear hi hl hn hq hz hk h32 h8 hb63 ht1 ht2;generalize ((t:Nat):Int)=tt at *
 generalize ((k:Nat):Int)=bk at *
 have HB1:=zh hB;have HI1:=zh hiw;clear hB hiw hb0;go_enter Tryz.func230,Tryz.ntmps230;go_upto_region 1 with fail;generalize hw1:w.alloc (uO a)=wb at *
 clear hw1;have HB0:=zh (z0g (Below.refl wb.heap.size wb));refine z0c 11 [[],[],[],[],[2,3],[1,2,3,4],[],[1,2,3,4,5,6],[],[1,2,3,4,5,6,7,8],[1,2,3,4,5,6,7,8,9],[0,1,2,3,4,5,6,7,8,9,10]]
  [rgC (Below wb.heap.size wb),rgV 0 (.pointer (some ⟨b,0,none⟩)),rgV 1 (.int .i64 tt),rgV 2 (y),rgV 3 (.int .i64 n),rgI 4 ((l ++ [n])),rgV 5 (.string kk),rgV 6 (.int .i64 bk),rgV 7 (.string nb),rgV 8 (uV a),rgV 9 (.string am),rgV 10 (.string (nb++am))] _ (by kernel_rfl) (by kernel_rfl) (by decide) (by kernel_rfl) (by kernel_rfl)
  (fun vs=>by simp only[z14,z1i,List.setIfInBounds_toArray,List.set_cons_zero,List.set_cons_succ];exact rfl)
  ⟨fun _ _ _ hb h=>z0a h hb,z02,z02,z02,z02,z8o,z02,z02,z02,z02,z02,z02,trivial⟩ ?_ ?_ ?_
 ·refine z0p rfl HB0.out ?_;iterate 11 refine z0u rfl ?_
  exact trivial
 ·refine⟨?_,?_,?_,?_,?_,?_,?_,?_,?_,?_,?_,trivial⟩
  ·intro vs w3 hA K hK;obtain⟨_,_⟩:=hA;refine z08 rfl (.inl rfl) rfl (hK _ _ (.inl zb) ?_);exact z01 1
  ·intro vs w3 hA K hK;obtain⟨_,_⟩:=hA;refine z08 rfl (.inl rfl) rfl (hK _ _ (.inl zb) ?_);exact z01 2
  ·intro vs w3 hA K hK;obtain⟨_,_⟩:=hA;refine z08 rfl (.inl rfl) rfl (hK _ _ (.inl zb) ?_);exact z01 3
  ·intro vs w3 hA K hK;obtain⟨_,_⟩:=hA;refine z08 rfl (.inl rfl) rfl (hK _ _ (.inl zb) ?_);exact z01 4
  ·intro vs w3 hA K hK;obtain⟨hC,e2,e3,_⟩:=hA;refine z0v rfl rfl rfl (by kernel_rfl) (show [vs 2,vs 3]=_ from by rw[rg1 e2,rg1 e3]) (zm (HWT.out _ (HI1.out.below hC)) ?_);rintro e w2 ⟨⟨v,rfl,hI⟩,hb⟩;refine⟨_,rfl,hK _ _ (.inl hb) ?_⟩;iterate 5 refine z0k rfl ?_
   refine z0r rfl (fun _=>hI) ?_;iterate 6 refine z0k rfl ?_
   exact trivial
  ·intro vs w3 hA K hK;obtain⟨_,e1,_,_,i4,_⟩:=hA;refine z0v rfl rfl rfl (by kernel_rfl) (show [vs 1,vs 4]=_ from by rw[rg1 e1]) (zm (HKY.out _ (vs 4) i4) ?_);rintro e w2 ⟨rfl,hb⟩;refine⟨_,rfl,hK _ _ (.inl hb) ?_⟩;exact z01 6
  ·intro vs w3 hA K hK;obtain⟨_,_⟩:=hA;refine z08 rfl (.inl rfl) rfl (hK _ _ (.inl zb) ?_);exact z01 7
  ·intro vs w3 hA K hK;obtain⟨_,_,_,_,_,_,e6,_⟩:=hA;refine z0v rfl rfl rfl (by kernel_rfl) (show [vs 6]=_ from by rw[rg1 e6]) (zm (HNU.out _) ?_);rintro e w2 ⟨rfl,hb⟩;refine⟨_,rfl,hK _ _ (.inl hb) ?_⟩;exact z01 8
  ·intro vs w3 hA K hK;obtain⟨hC,_⟩:=hA;refine z1b rfl rfl rfl ((HB1.out.below hC).u4 (g:=w.heap.size) (x:=a) (by simp)) (hK _ _ (.inl zb) ?_);exact z01 9
  ·intro vs w3 hA K hK;obtain⟨_,_,_,_,_,_,_,_,e8,_⟩:=hA;refine z0v rfl rfl rfl (by kernel_rfl) (show [vs 8]=_ from by rw[rg1 e8]) (zm (HAM.out _) ?_);rintro e w2 ⟨rfl,hb⟩;refine⟨_,rfl,hK _ _ (.inl hb) ?_⟩;exact z01 10
  ·intro vs w3 hA K hK;obtain⟨_,_,_,_,_,_,_,e7,_,e9,_⟩:=hA;refine zv0 rfl rfl (rg1 e7) (rg1 e9) HS8.out HS32.out (hK _ _ (.inl zb) ?_);exact z01 11
 ·intro vs w3 hA;obtain⟨hC,e0,e1,e2,e3,i4,e5,e6,e7,e8,e9,e10,_⟩:=hA;have e0:=rg1 e0;have e1:=rg1 e1;have e2:=rg1 e2;have e3:=rg1 e3;have e5:=rg1 e5;have e6:=rg1 e6;have e7:=rg1 e7;have e8:=rg1 e8;have e9:=rg1 e9;have e10:=rg1 e10;refine z0i ?_;refine z0v rfl rfl rfl (by kernel_rfl) (show [vs 0,vs 5,vs 10]=_ from by rw[e0,e5,e10]) (zm (HST.out _ _ (HB1.out.below hC)) ?_);rintro e w9 ⟨rfl,hB9⟩;refine⟨_,rfl,?_⟩;refine z0x ?_;simp only[z1h,Nat.reduceEqDiff,↓reduceIte,e0,e1,e2,e3,e5,e6,e7,e8,e9,e10];have HB9:=zh hB9;clear hB9;go_wp2_with fail
  go_end0
  exact⟨rfl,FV.done HB9.out⟩
theorem z9p(w:World)(b:Nat)(s:St)(L:List Nat)(f:Nat)(t:Nat)(ht1:1<=t)(ht2:t<=255)(y:Value)(l:List Int)(hi:z0w w y l)(hl:IdOk l)(hq:RRep w b s L)(hf:s.Fit f)(hm:f<100000000000) :
  Calls Tryz.prog 123 #[.pointer (some ⟨b,0,none⟩),.int .i64 t,y] w fun e w'=>e= .returned (.tuple #[uV (s.hlast t l),.bool (decide (s.hlen t l≠0))])/\Below w.heap.size w w':=by
 have hB:=(BV.start w).alloc zO;have HLN:Hid (∀ rs W,BV w rs W->Calls Tryz.prog 192 #[.pointer (some ⟨b,0,none⟩),.int .i64 t,y] W fun e w'=>e= .returned (.int .i64 (s.hlen t l))/\BV w rs w'):=fun rs W hW =>
  hW.reads (ziu W b s L f t ht1 ht2 y l (hi.below (BV.bl hW)) hl (hq.below (BV.bl hW)) hf hm)
 have hnl:=z7y s (keyL t l);have HRD:Hid (∀ rs W,BV w rs W->Calls Tryz.prog 193 #[.pointer (some ⟨b,0,none⟩),.int .i64 t,y,.int .i64 (((s.hlen t l:Nat):Int)-1)] W fun e w'=>e= .returned (.tuple #[.int .i64 (hpt (s.val (keyL t (l ++ [((s.hlen t l:Nat):Int)-1])))).1,uV (hpt (s.val (keyL t (l ++ [((s.hlen t l:Nat):Int)-1])))).2])/\BV w rs w'):=fun rs W hW =>
  hW.reads (zj8 W b s L f t ht1 ht2 y l (((s.hlen t l:Nat):Int)-1) (hi.below (BV.bl hW)) hl (by show((s.int (keyL t l):Nat):Int)-1<9223372036854775808;omega) (hq.below (BV.bl hW)) hf hm)
 have hlast:(s.hlen t l=0->s.hlast t l=(0,0,0,0))/\(s.hlen t l≠0->s.hlast t l=(hpt (s.val (keyL t (l ++ [((s.hlen t l:Nat):Int)-1])))).2):=by
  unfold St.hlast;exact⟨fun h=>if_pos h,fun h=>if_neg h⟩
 have HLA:=zh hlast;have HB:=zh hB;have hnl':s.hlen t l<9223372036854775808:=hnl;clear hi hl hq hf hB hlast hnl ht1 ht2;generalize s.hlast t l=hw at *
 generalize hpt (s.val (keyL t (l ++ [((s.hlen t l:Nat):Int)-1])))=pt at *
 generalize s.hlen t l=n at *
 generalize ((t:Nat):Int)=tt at *
 by_cases h0:n=0
 ·have h1:=HLA.out.1 h0;subst h1 h0;clear HRD HLA;go_enter Tryz.func123,Tryz.ntmps123;go_wp2_with fail;refine zm (HLN.out _ _ HB.out) ?_;rintro e w2 ⟨rfl,hB2⟩;have hz:=QV.u4 hB2 (g:=w.heap.size) (x:=(0,0,0,0)) (by simp);obtain⟨z0,z1,z2,z3,z4,z5,z6,z7⟩:=row4 hz;have HZ:=zh (put4 hz (0,0,0,0));have HBB:=zh (z09 (BV.bl hB2) (Nat.le_refl _) (.int .u64 0) (.int .u64 0) (.int .u64 0) (.int .u64 0));clear hz hB2 HLN HB;go_wp2_with fail;refine bodyPost_ret (z00 rfl _ _ w.heap.size 24 (uL (0,0,0,0)) (0,0) _ rfl HZ.out Tryz.underlying24 rfl (by kernel_rfl)) rfl ?_;exact⟨rfl,HBB.out⟩
 ·have h1:=HLA.out.2 h0;have hd:decide (n≠0)=true:=decide_eq_true h0;rw[hd];have hne:((n:Int)==0)=false:=by rw[beq_eq_false_iff_ne];omega
  rw[<- h1]at HRD;obtain⟨n1,hn1⟩:∃ n1:Int,n1=(n:Int)-1:=⟨_,rfl⟩;have hwr:IntKind.i64.wrap ((n:Int)-1)=n1:=by rw[hn1,IntKind.wrap_i64];omega
  have hwr2:wrap64 ((n:Int)-1)=n1:=by rw[hn1];unfold wrap64;omega
  rw[<- hn1]at HRD;clear HLA h1 hd hn1 h0 hnl';generalize ((pt.1:Nat):Int)=p1 at *
  go_enter Tryz.func123,Tryz.ntmps123;go_wp2_with fail;refine zm (HLN.out _ _ HB.out) ?_;rintro e w2 ⟨rfl,hB2⟩;have HR2:=zh (HRD.out _ _ hB2);clear hB2 HLN HB HRD;go_wp2_with fail;refine zm HR2.out ?_;rintro e w3 ⟨rfl,hB3⟩;have HB4:=zh (hB3.alloc (uO hw));clear hB3 HR2;go_upto_region 5 with fail;generalize hw4:w3.alloc (uO hw)=w4 at *
  generalize w3.heap.size=g4 at *
  clear hw4;obtain⟨y0,y1,y2,y3,y4,y5,y6,y7⟩:=row4 (HB4.out.row (g:=g4) (o:=uO hw) (by simp));have hz:=QV.u4 HB4.out (g:=w.heap.size) (x:=(0,0,0,0)) (by simp);obtain⟨z0,z1,z2,z3,z4,z5,z6,z7⟩:=row4 hz;have HZ:=zh (put4 hz hw);have HBB:=zh (z09 (BV.bl HB4.out) (Nat.le_refl _) (.int .u64 hw.1) (.int .u64 hw.2.1) (.int .u64 hw.2.2.1) (.int .u64 hw.2.2.2));clear hz HB4;go_wp2_with fail;refine bodyPost_ret (z00 rfl _ _ w.heap.size 24 (uL hw) (0,0) _ rfl HZ.out Tryz.underlying24 rfl (by kernel_rfl)) rfl ?_;exact⟨rfl,HBB.out⟩
def lsc(p:Nat->Bool):Nat->Nat->Nat
 | 0,k=>k
 | m+1,k=>if p k then lsc p m (k+1)else k
theorem zsm(p:Nat->Bool){k n:Nat}(h:k<n):lsc p (n-k) k=if p k then lsc p (n-(k+1)) (k+1)else k:=by
 obtain⟨m,hm⟩:∃ m,n-k=m+1:=⟨n-k-1,by omega⟩;rw[hm,show n-(k+1)=m by omega]
 rfl
def nz(k:Nat):Bool:=decide (k≠0)
def St.rpos(s:St)(t:Nat)(l:List Int)(b:Int):Nat:=lsc (fun i=>decide (((s.hpI t l (i:Nat)).1:Int)<=b)) (s.hlen t l) 0
def St.rcur(s:St)(t:Nat)(l:List Int)(k:Nat):W4:=if k=0 then(0,0,0,0)else(s.hpI t l ((k:Nat)-1)).2
def St.rat(s:St)(t:Nat)(l:List Int)(b:Int):W4:=s.rcur t l (s.rpos t l b)
theorem zzd(w:World)(b:Nat)(s:St)(L:List Nat)(f:Nat)(t:Nat)(ht1:1<=t)(ht2:t<=255)(y:Value)(l:List Int)(bb:Int)(hi:z0w w y l)(hl:IdOk l)(hq:RRep w b s L)(hf:s.Fit f)(hm:f<100000000000)(hn62:s.hlen t l<4611686018427387904) :
  Calls Tryz.prog 124 #[.pointer (some ⟨b,0,none⟩),.int .i64 t,y,.int .i64 bb] w fun e w'=>e= .returned (.tuple #[uV (s.rat t l bb),.bool (nz (s.rpos t l bb))])/\Below w.heap.size w w':=by
 have hB:=((BV.start w).alloc zO).alloc zO;rw[World.size_alloc]at hB;have HLN:Hid (∀ rs W,BV w rs W->Calls Tryz.prog 192 #[.pointer (some ⟨b,0,none⟩),.int .i64 t,y] W fun e w'=>e= .returned (.int .i64 (s.hlen t l))/\BV w rs w'):=fun rs W hW =>
  hW.reads (ziu W b s L f t ht1 ht2 y l (hi.below (BV.bl hW)) hl (hq.below (BV.bl hW)) hf hm)
 have HRD:Hid (∀ k:Nat,k<s.hlen t l->∀ rs W,BV w rs W->Calls Tryz.prog 193 #[.pointer (some ⟨b,0,none⟩),.int .i64 t,y,.int .i64 k] W fun e w'=>e= .returned (.tuple #[.int .i64 (s.hpI t l k).1,uV (s.hpI t l k).2])/\BV w rs w'):=fun k hk rs W hW =>
  hW.reads (zj8 W b s L f t ht1 ht2 y l (k:Int) (hi.below (BV.bl hW)) hl (by unfold I63;omega) (hq.below (BV.bl hW)) hf hm)
 have hcur:s.rcur t l 0=(0,0,0,0)/\∀ k:Nat,s.rcur t l (k+1)=(s.hpI t l (k:Nat)).2:=by
  refine⟨rfl,fun k => ?_⟩;unfold St.rcur;rw[if_neg (by omega),show(((k+1:Nat):Int))-1=((k:Nat):Int)by omega]
 have hst:∀ k,k<s.hlen t l->lsc (fun i=>decide (((s.hpI t l (i:Nat)).1:Int)<=bb)) (s.hlen t l-k) k=if ((s.hpI t l (k:Nat)).1:Int)<=bb then lsc (fun i=>decide (((s.hpI t l (i:Nat)).1:Int)<=bb)) (s.hlen t l-(k+1)) (k+1)else k:=fun k hk=>by
  rw[zsm _ hk]
  by_cases h:((s.hpI t l (k:Nat)).1:Int)<=bb
  ·rw[if_pos h,if_pos (by simpa using h)]
  ·rw[if_neg h,if_neg (by simpa using h)]
 have hrat:s.rat t l bb=s.rcur t l (lsc (fun i=>decide (((s.hpI t l (i:Nat)).1:Int)<=bb)) (s.hlen t l-0) 0):=rfl;have hrp:s.rpos t l bb=lsc (fun i=>decide (((s.hpI t l (i:Nat)).1:Int)<=bb)) (s.hlen t l-0) 0:=rfl;have hend:∀ k,lsc (fun i=>decide (((s.hpI t l (i:Nat)).1:Int)<=bb)) (s.hlen t l-k) k=k\/k<s.hlen t l:=fun k=>by
  by_cases h:k<s.hlen t l
  ·exact .inr h
  ·left;rw[show s.hlen t l-k=0 by omega];rfl
 rw[hrat,hrp];have HCU:=zh hcur;have HST:=zh hst;have HEN:=zh hend;have HB:=zh hB;clear hi hl hq hf hB hrat hrp hcur hst hend ht1 ht2;generalize hbs:lsc (fun i=>decide (((s.hpI t l (i:Nat)).1:Int)<=bb))=bs at *
 generalize s.rcur t l=cu at *
 generalize s.hpI t l=pt at *
 generalize s.hlen t l=n at *
 clear hbs;generalize ((t:Nat):Int)=tt at *
 generalize hr:bs (n-0) 0=r at *
 have HR:=zh hr;clear hr;go_enter Tryz.func124,Tryz.ntmps124;go_upto_region 3 with fail;generalize hw1:(w.alloc zO).alloc zO=w1 at *
 clear hw1;go_wp2_with fail
 go_loopw [11,12] (fun s11 s12 wr=>∃ k:Nat,s11= .bool (nz k)/\s12= .int .i64 k/\k<=n/\bs (n-k) k=r/\BV w [(w.heap.size+1,uO (cu k)),(w.heap.size,zO)] wr) (fun _ s12 _=>n-(intOf s12).toNat)
 case atStart=>exact⟨0,rfl,rfl,by omega,HR.out,by rw[HCU.out.1];exact HB.out⟩
 case round =>
  obtain⟨k,rfl,rfl,h1,h3,h4⟩:=hrel;have HH:=zh h3;have HL:=zh (HLN.out _ _ h4);clear h3 h4 HB HLN HR;have hk62:k<4611686018427387904:=Nat.lt_of_le_of_lt h1 hn62;have hwr:IntKind.i64.wrap ((k:Int)+1)=((k+1:Nat):Int):=by rw[IntKind.wrap_i64];omega
  have hwr2:wrap64 ((k:Int)+1)=((k+1:Nat):Int):=by unfold wrap64;omega
  by_cases hlt:k<n
  ·have hltI:((k:Int)<(n:Int))=True:=eq_true (Int.ofNat_lt.2 hlt);have hltN:(k<n)=True:=eq_true hlt;have hs:=HST.out k hlt;rw[HH.out]at hs;have HS:=zh hs;have HG:=zh (HRD.out k hlt);have HM:=zh hlt;clear HRD HST HEN hs hlt h1 hn62 hk62;go_wp2_with fail;refine zm HL.out ?_;rintro e w3 ⟨rfl,h5⟩;have HG3:=zh (HG.out _ _ h5);clear h5 HL HG;go_wp2_with fail;refine zm HG3.out ?_;rintro e w4 ⟨rfl,h6⟩;have H7:=zh (h6.alloc (uO (pt (k:Int)).2));clear h6 HG3;go_upto_region 7 with fail;generalize hw5:w4.alloc (uO (pt (k:Int)).2)=w5 at *
   generalize w4.heap.size=g5 at *
   clear hw5
   by_cases hp:((pt (k:Int)).1:Int)<=bb
   ·have hs:=HS.out;rw[if_pos hp]at hs;have HS2:=zh hs;have hp2:(bb<((pt (k:Int)).1:Int))=False:=eq_false (Int.not_lt.2 hp);obtain⟨y0,y1,y2,y3,y4,y5,y6,y7⟩:=row4 (H7.out.row (g:=g5) (o:=uO (pt (k:Int)).2) (by simp));obtain⟨z0,z1,z2,z3,z4,z5,z6,z7⟩:=row4 (H7.out.row (g:=w.heap.size+1) (o:=uO (cu k)) (by simp));have hP:=H7.out.put4 (g:=w.heap.size+1) (y:=cu k) (pt (k:Int)).2 (by simp) [(w.heap.size,zO)] (fun x hx=>by rw[List.mem_singleton]at hx;subst hx;exact⟨by simp,by simp⟩);rw[<- HCU.out.2 k]at hP;have HP:=zh hP;clear hP hs HS hp H7;rw[<- HCU.out.2 k]at y0 y1 y2 y3;go_wp2_with fail;clear y0 y1 y2 y3 y4 y5 y6 y7 z0 z1 z2 z3 z4 z5 z6 z7;go_roundw
    case rel=>exact⟨k+1,by first | rfl | simp[nz],by first | rfl | go_num,HM.out,HS2.out.symm,HP.out⟩
    case measure=>have:=HM.out;simp[intOf];omega
   ·have hs:=HS.out;rw[if_neg hp]at hs;have hp2:(bb<((pt (k:Int)).1:Int))=True:=eq_true (Int.not_le.1 hp);subst hs;obtain⟨y0,y1,y2,y3,y4,y5,y6,y7⟩:=row4 (H7.out.row (g:=w.heap.size+1) (o:=uO (cu r)) (by simp));have hz:=H7.out.row (g:=w.heap.size) (o:=zO) (by simp);obtain⟨z0,z1,z2,z3,z4,z5,z6,z7⟩:=row4 (x:=(0,0,0,0)) hz;have HZ:=zh (put4 (x:=(0,0,0,0)) hz (cu r));have HBB:=zh (z09 (BV.bl H7.out) (Nat.le_refl _) (.int .u64 (cu r).1) (.int .u64 (cu r).2.1) (.int .u64 (cu r).2.2.1) (.int .u64 (cu r).2.2.2));clear hz HS hp H7 HH HCU HM;go_wp2_with fail
    try rw[Exit.noGoto_ret]
    refine bodyPost_ret (z00 rfl _ _ w.heap.size 24 (uL (cu r)) (0,0) _ rfl HZ.out Tryz.underlying24 rfl (by kernel_rfl)) rfl ?_;exact⟨rfl,HBB.out⟩
  ·have hltI:((k:Int)<(n:Int))=False:=eq_false (by omega);have hltN:(k<n)=False:=eq_false hlt;obtain rfl:k=r:=((HEN.out k).resolve_right hlt).symm.trans HH.out;clear HRD HST HEN hlt h1 hn62 hk62 HH HCU;go_wp2_with fail;refine zm HL.out ?_;rintro e w3 ⟨rfl,h5⟩;obtain⟨y0,y1,y2,y3,y4,y5,y6,y7⟩:=row4 (h5.row (g:=w.heap.size+1) (o:=uO (cu k)) (by simp));have hz:=h5.row (g:=w.heap.size) (o:=zO) (by simp);obtain⟨z0,z1,z2,z3,z4,z5,z6,z7⟩:=row4 (x:=(0,0,0,0)) hz;have HZ:=zh (put4 (x:=(0,0,0,0)) hz (cu k));have HBB:=zh (z09 (BV.bl h5) (Nat.le_refl _) (.int .u64 (cu k).1) (.int .u64 (cu k).2.1) (.int .u64 (cu k).2.2.1) (.int .u64 (cu k).2.2.2));clear hz h5 HL;go_wp2_with fail
   try rw[Exit.noGoto_ret]
   refine bodyPost_ret (z00 rfl _ _ w.heap.size 24 (uL (cu k)) (0,0) _ rfl HZ.out Tryz.underlying24 rfl (by kernel_rfl)) rfl ?_;exact⟨rfl,HBB.out⟩
def St.zb8(s:St)(t:Nat)(l:List Int)(b:Nat)(a:W4):St:=(s.set (keyL t (l ++ [((s.hlen t l:Nat):Int)])) (ptB b a)).z0m (keyL t l) (((s.hlen t l:Nat):Int)+1)
def z4x(s:St)(t:Nat)(l:List Int)(b:Nat)(a:W4):St:=if 0<s.hlen t l then(if b<(s.hpL t l).1 then s else if b=(s.hpL t l).1 then s.set (keyL t (l ++ [((s.hlen t l:Nat):Int)-1])) (ptB b a)else if a=(s.hpL t l).2 then s else s.zb8 t l b a)else s.zb8 t l b a
theorem zt9(w:World)(b:Nat)(L:List Nat)(s:St)(f t:Nat)(ht1:1<=t)(ht2:t<=255)(y:Value)(l:List Int)(k:Nat)(a:W4)(hI:∀ W L',Step w L W L'->z0w W y l)(hl:IdOk l)(hpos:∀ x∈l,0<=x)(hbM:k<=1099511627776)(hq:RRep w b s L)(hf:s.Fit f)(hm:f<1000000000)(hnm:s.hlen t l<9223372036854775807) :
  Calls Tryz.prog 184 #[.pointer (some ⟨b,0,none⟩),.int .i64 t,y,.int .i64 k,uV a] w fun e w'=>e= .returned (.int .i64 (hpuE s t l k))/\ROn w b L (z4x s t l k a) w':=by
 have hB:=(FV.start hq).alloc (uO a);have hmm:f<100000000000:=by omega
 have hz:s.size<1000000000000:=Nat.lt_of_le_of_lt hf.size (by omega);have hkk:keyL t l≠z0d:=z3o t hpos;have hn63:=z7y s (keyL t l);have hnn:s.hlen t l<9223372036854775808:=hn63;have hIV:∀ rs W,FV b w L s rs W->z0w W y l:=fun rs W hV=>by
  obtain⟨L0,_,st,_⟩:=hV.on;exact hI W L0 st
 have HKY:Hid (∀ rs W,FV b w L s rs W->Calls Tryz.prog 95 #[.int .i64 t,y] W fun e w'=>e= .returned (.string (keyL t l))/\FV b w L s rs w'):=fun rs W hV =>
  (z9t t ht1 ht2 y l W (hIV rs W hV) (by have:=hl.len;omega) hl.lt).mono fun e w' ⟨he,hb⟩=>⟨he,QV.below hV hb⟩
 have HLN:Hid (∀ rs W,FV b w L s rs W->Calls Tryz.prog 192 #[.pointer (some ⟨b,0,none⟩),.int .i64 t,y] W fun e w'=>e= .returned (.int .i64 (s.hlen t l))/\FV b w L s rs w'):=fun rs W hV =>
  hV.reads fun L' h1=>ziu W b s L' f t ht1 ht2 y l (hIV rs W hV) hl h1 hf hmm
 have HRD:Hid (0<s.hlen t l->∀ rs W,FV b w L s rs W->Calls Tryz.prog 193 #[.pointer (some ⟨b,0,none⟩),.int .i64 t,y,.int .i64 (((s.hlen t l:Nat):Int)-1)] W fun e w'=>e= .returned (.tuple #[.int .i64 (s.hpL t l).1,uV (s.hpL t l).2])/\FV b w L s rs w'):=fun h0 rs W hV =>
  hV.reads fun L' h1=>zj8 W b s L' f t ht1 ht2 y l (((s.hlen t l:Nat):Int)-1) (hIV rs W hV) hl (by show((s.hlen t l:Nat):Int)-1<9223372036854775808;omega) h1 hf hmm
 have HCA:Hid (0<s.hlen t l->∀ rs W,FV b w L s rs W->Calls Tryz.prog 230 #[.pointer (some ⟨b,0,none⟩),.int .i64 t,y,.int .i64 (((s.hlen t l:Nat):Int)-1),.int .i64 k,uV a] W fun e w'=>e= .returned (.tuple #[])/\FV b w L (s.set (keyL t (l ++ [((s.hlen t l:Nat):Int)-1])) (ptB k a)) rs w'):=fun h0 rs W hV =>
  QV.call hV fun L' h1=>zoe W b L' s t ht1 ht2 y l _ k a (hIV rs W hV) hl (by show((s.hlen t l:Nat):Int)-1<9223372036854775808;omega) (by omega) h1 hz (kpos t hpos (by omega))
 have HCB:Hid (∀ rs W,FV b w L s rs W->Calls Tryz.prog 230 #[.pointer (some ⟨b,0,none⟩),.int .i64 t,y,.int .i64 ((s.hlen t l:Nat):Int),.int .i64 k,uV a] W fun e w'=>e= .returned (.tuple #[])/\FV b w L (s.set (keyL t (l ++ [((s.hlen t l:Nat):Int)])) (ptB k a)) rs w'):=fun rs W hV =>
  QV.call hV fun L' h1=>zoe W b L' s t ht1 ht2 y l _ k a (hIV rs W hV) hl (by show((s.hlen t l:Nat):Int)<9223372036854775808;omega) (by omega) h1 hz (kpos t hpos (by omega))
 have h40:∀ b a,(ptB b a).size<=1000000:=fun b a=>by
  unfold ptB;rw[ByteArray.size_append,show(numB b).size=8 from rfl,show(amtB a).size=32 by show(amtL a).toArray.size=32;simp[amtL]]
  omega
 have hz1:(s.set (keyL t (l ++ [((s.hlen t l:Nat):Int)])) (ptB k a)).size<1000000000000:=Nat.lt_of_le_of_lt (hf.set _ (h40 _ _)).size (by omega);have HSI:Hid (∀ rs W,FV b w L (s.set (keyL t (l ++ [((s.hlen t l:Nat):Int)])) (ptB k a)) rs W->Calls Tryz.prog 189 #[.pointer (some ⟨b,0,none⟩),.string (keyL t l),.int .i64 (((s.hlen t l:Nat):Int)+1)] W fun e w'=>e= .returned (.tuple #[])/\FV b w L (s.zb8 t l k a) rs w'):=fun rs W hV=>hV.z0m hz1 _ _ (by omega)
 have hE0:hpuE s t l k=(if 0<s.hlen t l/\k<(s.hpL t l).1 then 10 else 0):=rfl;have hS0:z4x s t l k a=(if 0<s.hlen t l then(if k<(s.hpL t l).1 then s else if k=(s.hpL t l).1 then s.set (keyL t (l ++ [((s.hlen t l:Nat):Int)-1])) (ptB k a)else if a=(s.hpL t l).2 then s else s.zb8 t l k a)else s.zb8 t l k a):=rfl;have HLAW:=zh (And.intro hE0 hS0);have HB:=zh hB;obtain⟨n1,hn1⟩:∃ n1:Int,n1=((s.hlen t l:Nat):Int)-1:=⟨_,rfl⟩;obtain⟨n2,hn2⟩:∃ n2:Int,n2=((s.hlen t l:Nat):Int)+1:=⟨_,rfl⟩;have hw1:0<s.hlen t l->IntKind.i64.wrap (((s.hlen t l:Nat):Int)-1)=n1:=fun h=>by rw[hn1,IntKind.wrap_i64];omega
 have hw1':0<s.hlen t l->wrap64 (((s.hlen t l:Nat):Int)-1)=n1:=fun h=>by rw[hn1];unfold wrap64;omega
 have hw2:IntKind.i64.wrap (((s.hlen t l:Nat):Int)+1)=n2:=by rw[hn2,IntKind.wrap_i64];omega
 have hw2':wrap64 (((s.hlen t l:Nat):Int)+1)=n2:=by rw[hn2];unfold wrap64;omega
 have hb0:((k:Int)<0)=False:=by simp
 have hbm:((1099511627776:Int)<(k:Int))=False:=by simp;omega
 clear hE0 hS0 hIV;rw[<- hn1]at HRD HCA HLAW;rw[<- hn2]at HSI;generalize hpuE s t l k=rE at *
 generalize z4x s t l k a=rS at *
 generalize s.set (keyL t (l ++ [n1])) (ptB k a)=sA at *
 generalize s.set (keyL t (l ++ [((s.hlen t l:Nat):Int)])) (ptB k a)=sB at *
 generalize s.zb8 t l k a=sC at *
 obtain⟨⟨p1,p2⟩,hp⟩:∃ p,p=s.hpL t l:=⟨_,rfl⟩;rw[<- hp]at HRD HLAW;generalize s.hlen t l=n at *
 generalize keyL t l=kk at *
 clear hB hI hl hpos hq hf hm hmm hz hn63 hnn hz1 hp ht1 ht2 hbM hn1 hn2 h40 hnm;generalize ((t:Nat):Int)=tt at *
 have hke:=z9i hkk;go_enter Tryz.func184,Tryz.ntmps184;go_upto_region 1 with fail;generalize hwA:w.alloc (uO a)=wA at *
 clear hwA;have HK1:=zh (HKY.out _ _ HB.out);clear HB HKY;go_wp2_with fail;refine zm HK1.out ?_;rintro e w2 ⟨rfl,hB2⟩;have HL2:=zh (HLN.out _ _ hB2);clear hB2 HLN HK1;go_wp2_with fail;refine zm HL2.out ?_;rintro e w3 ⟨rfl,hB3⟩;have HB:=zh hB3;clear hB3 HL2 hb0 hbm hke
 by_cases h0:0<n
 ·have hR:=zh (HRD.out h0 _ _ HB.out);have hA:=zh (HCA.out h0);have hd:(0<n)=True:=eq_true h0;have hd2:((0:Int)<(n:Int))=True:=eq_true (by omega);have hw:=hw1 h0;have hw':=hw1' h0;clear HRD HCA hw1 hw1' HB;go_wp2_with fail;refine zm hR.out ?_;rintro e w5 ⟨rfl,hB5⟩;have HB6:=zh (hB5.alloc (uO p2));clear hB5 hR;go_upto_region 7 with fail;generalize hW6:w5.alloc (uO p2)=w6 at *
  generalize w5.heap.size=g1 at *
  clear hW6;obtain⟨a0,a1,a2,a3,a4,a5,a6,a7⟩:=row4 (HB6.out.row (g:=w.heap.size) (o:=uO a) (by simp));obtain⟨z0,z1,z2,z3,z4,z5,z6,z7⟩:=row4 (HB6.out.row (g:=g1) (o:=uO p2) (by simp))
  by_cases hlt:k<p1
  ·have hL:rE=10/\rS=s:=by
    have:=HLAW.out;rw[if_pos ⟨h0,hlt⟩,if_pos h0,if_pos hlt]at this;exact this
   obtain⟨rfl,rfl⟩:=hL;have hlt2:(k<p1)=True:=eq_true hlt;have hlt3:((k:Int)<(p1:Int))=True:=eq_true (by omega);clear HLAW hA hlt h0;go_wp2_with fail;go_ret;exact⟨rfl,FV.done HB6.out⟩
  ·have hlt2:(k<p1)=False:=eq_false hlt;have hlt3:((k:Int)<(p1:Int))=False:=eq_false (by omega)
   by_cases hbe:k=p1
   ·have hL:rE=0/\rS=sA:=by
     have:=HLAW.out;rw[if_neg (fun h=>hlt h.2),if_pos h0,if_neg hlt,if_pos hbe]at this;exact this
    obtain⟨rfl,rfl⟩:=hL;have hbe2:(k==p1)=true:=by rw[beq_iff_eq];exact hbe
    have hbe3:((k:Int)==(p1:Int))=true:=by rw[beq_iff_eq,hbe]
    have HA6:=zh (hA.out _ _ HB6.out);clear HLAW hA hlt hbe h0 HB6;go_wp2_with fail;refine zm HA6.out ?_;rintro e w7 ⟨rfl,hB7⟩;have HB7:=zh hB7;clear hB7 HA6;go_wp2_with fail;go_ret;exact⟨rfl,FV.done HB7.out⟩
   ·have hbe2:(k==p1)=false:=by rw[beq_eq_false_iff_ne];exact hbe
    have hbe3:((k:Int)==(p1:Int))=false:=by rw[beq_eq_false_iff_ne];omega
    by_cases hap:a=p2
    ·have hL:rE=0/\rS=s:=by
      have:=HLAW.out;rw[if_neg (fun h=>hlt h.2),if_pos h0,if_neg hlt,if_neg hbe,if_pos hap]at this;exact this
     obtain⟨rfl,rfl⟩:=hL;have hE:∀ w,(Op.equalIn 10000 24 (.agg #[.int .u64 p2.1,.int .u64 p2.2.1,.int .u64 p2.2.2.1,.int .u64 p2.2.2.2]) (.agg #[.int .u64 a.1,.int .u64 a.2.1,.int .u64 a.2.2.1,.int .u64 a.2.2.2])).run Tryz.prog w= .ok true w:=fun w=>by
      have:=eqU p2 a w;rw[decide_eq_true hap.symm]at this;exact this
     clear HLAW hA hlt hbe h0 hap;go_wp2_with fail;go_ret;exact⟨rfl,FV.done HB6.out⟩
    ·have hL:rE=0/\rS=sC:=by
      have:=HLAW.out;rw[if_neg (fun h=>hlt h.2),if_pos h0,if_neg hlt,if_neg hbe,if_neg hap]at this;exact this
     obtain⟨rfl,rfl⟩:=hL;have hE:∀ w,(Op.equalIn 10000 24 (.agg #[.int .u64 p2.1,.int .u64 p2.2.1,.int .u64 p2.2.2.1,.int .u64 p2.2.2.2]) (.agg #[.int .u64 a.1,.int .u64 a.2.1,.int .u64 a.2.2.1,.int .u64 a.2.2.2])).run Tryz.prog w= .ok false w:=fun w=>by
      have:=eqU p2 a w;rw[decide_eq_false (fun h=>hap h.symm)]at this;exact this
     have HS4:=zh (HCB.out _ _ HB6.out);clear HB6 HLAW hA hlt hbe h0 hap HCB;go_wp2_with fail;refine zm HS4.out ?_;rintro e w7 ⟨rfl,hB7⟩;have H7:=zh (HSI.out _ _ hB7);clear hB7 HS4 HSI a0 a1 a2 a3 a4 a5 a6 a7 z0 z1 z2 z3 z4 z5 z6 z7 hE;go_wp2_with fail;refine zm H7.out ?_;rintro e w8 ⟨rfl,hB8⟩;have HB8:=zh hB8;clear hB8 H7;go_wp2_with fail;go_ret;exact⟨rfl,FV.done HB8.out⟩
 ·have hd:(0<n)=False:=eq_false h0;have hd2:((0:Int)<(n:Int))=False:=eq_false (by omega);have hL:rE=0/\rS=sC:=by
   have:=HLAW.out;rw[if_neg (fun h=>h0 h.1),if_neg h0]at this;exact this
  obtain⟨rfl,rfl⟩:=hL;clear HLAW HRD HCA h0 hw1 hw1';obtain⟨a0,a1,a2,a3,a4,a5,a6,a7⟩:=row4 (HB.out.row (g:=w.heap.size) (o:=uO a) (by simp));have HS4:=zh (HCB.out _ _ HB.out);clear HCB HB;go_wp2_with fail;refine zm HS4.out ?_;rintro e w5 ⟨rfl,hB5⟩;have H5:=zh (HSI.out _ _ hB5);clear hB5 HS4 HSI a0 a1 a2 a3 a4 a5 a6 a7;go_wp2_with fail;refine zm H5.out ?_;rintro e w6 ⟨rfl,hB6⟩;have HB6:=zh hB6;clear hB6 H5;go_wp2_with fail;go_ret;exact⟨rfl,FV.done HB6.out⟩
end Go.Proofs.YtnkilceibkkjlaaGreat
