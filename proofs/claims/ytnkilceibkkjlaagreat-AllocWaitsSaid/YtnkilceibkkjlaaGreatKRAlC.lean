/- What is proved here: the reference's Cut. Conditions: int -/
import Derived.Test.YtnkilceibkkjlaaGreatKRPaU
set_option maxRecDepth 100000
set_option maxHeartbeats 16000000
namespace Go.Proofs.YtnkilceibkkjlaaGreat
open Go.RowKit
theorem zog{b:Nat}{w W:World}{L:List Nat}{s:St}{rs:List (Nat × Obj)}(hV:FV b w L s rs W){g:Nat}{y:W4}(hm:(g,uO y)∈rs)(r:W4):((((W.setCell ⟨g,0,none⟩ (.int .u64 r.1)).setCell ⟨g,1,none⟩ (.int .u64 r.2.1)).setCell ⟨g,2,none⟩ (.int .u64 r.2.2.1)).setCell ⟨g,3,none⟩ (.int .u64 r.2.2.2)).heap[g]?=some (.cells (uL r) 24 (0,0))/\ROn w b L s ((((W.setCell ⟨g,0,none⟩ (.int .u64 r.1)).setCell ⟨g,1,none⟩ (.int .u64 r.2.1)).setCell ⟨g,2,none⟩ (.int .u64 r.2.2.1)).setCell ⟨g,3,none⟩ (.int .u64 r.2.2.2)):=
 ⟨Proofs.YtnkilceibkkjlaaGreat.put4 (hV.row hm) r,FV.done (QV.put4 hV r hm [] (by simp))⟩
def zit(s:St)(x:I4)(f:W4):St:=s.z09 (aKey 29 x) (z1b (cur s x) (puW (cur s x) f))
def z1d(s:St)(x:I4)(f:W4):St:=(zit s x f).z09 (aAll x) (subW (s.amt (aAll x)) (puW (cur s x) f))
def zhq(s:St)(x:I4)(f:W4):St:=if (pend (z1d s x f) x).1=2 then(z1d s x f).z09 (aKey 31 x) (z1b (pend (z1d s x f) x).2.1 (puW (pend (z1d s x f) x).2.1 f))else z1d s x f
def z98(s:St)(x:I4)(f:W4):St:=if ctE s x f=0 then zhq s x f else s
theorem zya(w:World)(b:Nat)(L:List Nat)(s:St)(f0:Nat)(x:I4)(f:W4)(hx:x.Ok)(hfo:f.Ok)(hq:RRep w b s L)(hf:s.Fit f0)(hm:f0<100000000) :
  Calls Tryz.prog 62 #[.pointer (some ⟨b,0,none⟩),idV x,uV f] w fun e w'=>e= .returned (.tuple #[uV (ctW s x f),.int .i64 (ctE s x f)])/\ROn w b L (z98 s x f) w':=by
 have hB:=(((FV.start hq).alloc (riO x)).alloc (uO f)).alloc zO;simp only[World.size_alloc]at hB;have hcu:(cur s x).Ok:=z4z _;have hpuo:=zhx (cur s x) f;have hf1:(zit s x f).Fit (f0+2):=hf.z09 _ _;have hf2:(z1d s x f).Fit (f0+4):=hf1.z09 _ _;have hz:s.size<1000000000000:=Nat.lt_of_le_of_lt hf.size (by omega);have hz1:(zit s x f).size<1000000000000:=Nat.lt_of_le_of_lt hf1.size (by omega);have hz2:(z1d s x f).size<1000000000000:=Nat.lt_of_le_of_lt hf2.size (by omega);have hpo:=zda (z1d s x f) x;have HGD:Hid (∀ rs W,FV b w L s rs W->Calls Tryz.prog 130 #[uV f] W fun e w'=>e= .returned (.bool (decide (uCmp f oneW<=0)))/\FV b w L s rs w'):=fun rs W hV=>hV.reads fun L' h1=>ze8 f hfo W
 have HCU:Hid (∀ rs W,FV b w L s rs W->Calls Tryz.prog 28 #[.pointer (some ⟨b,0,none⟩),idV x] W fun e w'=>e= .returned (uV (cur s x))/\FV b w L s rs w'):=fun rs W hV=>hV.cur hf (by omega) x hx
 have HPU:Hid (∀ rs W,FV b w L s rs W->Calls Tryz.prog 137 #[uV (cur s x),uV f] W fun e w'=>e= .returned (.tuple #[uV (puW (cur s x) f),.bool (puB (cur s x) f)])/\FV b w L s rs w'):=fun rs W hV=>hV.reads fun L' h1=>zd0 _ f hcu hfo W
 have HLS:Hid (∀ rs W,FV b w L s rs W->Calls Tryz.prog 22 #[uV (cur s x),uV (puW (cur s x) f)] W fun e w'=>e= .returned (.tuple #[uV (z1b (cur s x) (puW (cur s x) f)),.bool (subB (cur s x) (puW (cur s x) f))])/\FV b w L s rs w'):=fun rs W hV=>by
  rw[zbc hcu hpuo];exact hV.reads fun L' h1=>za5 _ _ hcu hpuo W
 have HL2:Hid (∀ W,Calls Tryz.prog 22 #[uV (s.amt (aAll x)),uV (puW (cur s x) f)] W fun e w'=>e= .returned (.tuple #[uV (subW (s.amt (aAll x)) (puW (cur s x) f)),.bool (subB (s.amt (aAll x)) (puW (cur s x) f))])/\Below W.heap.size W w'):=fun W=>za5 _ _ (zb1 _ _) hpuo W
 have HEN:Hid (∀ rs W,FV b w L s rs W->Calls Tryz.prog 29 #[.pointer (some ⟨b,0,none⟩),.int .i64 x.1,.int .i64 x.2.1] W fun e w'=>e= .returned (uV (s.amt (aAll x)))/\Below W.heap.size W w'):=fun rs W hV=>by
  obtain⟨L',h1,_⟩:=hV.on;exact z4d W b L' s f0 x.1 x.2.1 (hx _ (by simp)) (hx _ (by simp)) h1 hf (by omega)
 have HOF:Hid (∀ W,Calls Tryz.prog 93 #[.int .i64 x.1,.int .i64 x.2.1] W fun e w'=>e= .returned (.string (aAll x))/\Below W.heap.size W w'):=fun W=>z9b x.1 x.2.1 (hx _ (by simp)) (hx _ (by simp)) W
 have HK29:Hid (∀ W,Calls Tryz.prog 92 #[.int .i64 29,idV x] W fun e w'=>e= .returned (.string (aKey 29 x))/\Below W.heap.size W w'):=fun W=>z4b 29 (by decide) (by decide) x hx W
 have HK31:Hid (∀ W,Calls Tryz.prog 92 #[.int .i64 31,idV x] W fun e w'=>e= .returned (.string (aKey 31 x))/\Below W.heap.size W w'):=fun W=>z4b 31 (by decide) (by decide) x hx W
 have HS29:Hid (∀ rs W,FV b w L s rs W->Calls Tryz.prog 134 #[.pointer (some ⟨b,0,none⟩),.string (aKey 29 x),uV (z1b (cur s x) (puW (cur s x) f))] W fun e w'=>e= .returned (.tuple #[])/\FV b w L (zit s x f) rs w'):=fun rs W hV=>hV.cset hz (aKey 29 x) _
 have HSA:Hid (∀ rs W,FV b w L (zit s x f) rs W->Calls Tryz.prog 134 #[.pointer (some ⟨b,0,none⟩),.string (aAll x),uV (subW (s.amt (aAll x)) (puW (cur s x) f))] W fun e w'=>e= .returned (.tuple #[])/\FV b w L (z1d s x f) rs w'):=fun rs W hV=>hV.cset hz1 (aAll x) _
 have HPD:Hid (∀ rs W,FV b w L (z1d s x f) rs W->Calls Tryz.prog 32 #[.pointer (some ⟨b,0,none⟩),idV x] W fun e w'=>e= .returned (.tuple #[.int .i64 (pend (z1d s x f) x).1,uV (pend (z1d s x f) x).2.1,.int .i64 (pend (z1d s x f) x).2.2])/\FV b w L (z1d s x f) rs w'):=fun rs W hV=>hV.pend hf2 (by omega) x hx
 have HP2:Hid (∀ rs W,FV b w L (z1d s x f) rs W->Calls Tryz.prog 137 #[uV (pend (z1d s x f) x).2.1,uV f] W fun e w'=>e= .returned (.tuple #[uV (puW (pend (z1d s x f) x).2.1 f),.bool (puB (pend (z1d s x f) x).2.1 f)])/\FV b w L (z1d s x f) rs w'):=fun rs W hV=>hV.reads fun L' h1=>zd0 _ f hpo hfo W
 have HLS2:Hid (∀ rs W,FV b w L (z1d s x f) rs W->Calls Tryz.prog 22 #[uV (pend (z1d s x f) x).2.1,uV (puW (pend (z1d s x f) x).2.1 f)] W fun e w'=>e= .returned (.tuple #[uV (z1b (pend (z1d s x f) x).2.1 (puW (pend (z1d s x f) x).2.1 f)),.bool (subB (pend (z1d s x f) x).2.1 (puW (pend (z1d s x f) x).2.1 f))])/\FV b w L (z1d s x f) rs w'):=fun rs W hV=>by
  rw[zbc hpo (zhx _ _)];exact hV.reads fun L' h1=>za5 _ _ hpo (zhx _ _) W
 have HSA2:Hid (∀ rs W,FV b w L (z1d s x f) rs W->Calls Tryz.prog 134 #[.pointer (some ⟨b,0,none⟩),.string (aKey 31 x),uV (z1b (pend (z1d s x f) x).2.1 (puW (pend (z1d s x f) x).2.1 f))] W fun e w'=>e= .returned (.tuple #[])/\FV b w L ((z1d s x f).z09 (aKey 31 x) (z1b (pend (z1d s x f) x).2.1 (puW (pend (z1d s x f) x).2.1 f))) rs w'):=fun rs W hV=>hV.cset hz2 (aKey 31 x) _
 have hlaw2:ctC f=true->ctE s x f=2/\ctW s x f=(0,0,0,0)/\z98 s x f=s:=fun hc=>by
  have he:ctE s x f=2:=by unfold ctE;rw[if_pos hc]
  unfold ctW z98;rw[he,if_neg (by decide),if_neg (by decide)];exact⟨rfl,rfl,rfl⟩
 have hlaw3:ctC f=false->(subB (s.amt (aAll x)) (puW (cur s x) f)=false->ctE s x f=13/\ctW s x f=(0,0,0,0)/\z98 s x f=s)/\(subB (s.amt (aAll x)) (puW (cur s x) f)=true->ctE s x f=0/\ctW s x f=puW (cur s x) f/\z98 s x f=zhq s x f):=fun hc=>by
  have he:ctE s x f=z2t (s.amt (aAll x)) (puW (cur s x) f):=by unfold ctE;rw[if_neg (by rw[hc];decide)]
  unfold ctW z98;rw[he];unfold subB z2t;refine⟨fun h1 => ?_,fun h1 => ?_⟩
  ·rw[if_neg (by simpa using h1)];exact⟨rfl,by rw[if_neg (by decide)],by rw[if_neg (by decide)]⟩
  ·rw[if_pos (by simpa using h1)];exact⟨rfl,by rw[if_pos rfl],by rw[if_pos rfl]⟩
 have HS3:Hid (((pend (z1d s x f) x).1=2->zhq s x f=(z1d s x f).z09 (aKey 31 x) (z1b (pend (z1d s x f) x).2.1 (puW (pend (z1d s x f) x).2.1 f)))/\((pend (z1d s x f) x).1≠2->zhq s x f=z1d s x f)):=by
  unfold zhq;exact⟨fun h=>by rw[if_pos h],fun h=>by rw[if_neg h]⟩
 have HLW2:=zh hlaw2;have HLW3:=zh hlaw3;have HB:=zh hB;have HCC:Hid (ctC f=(decide (f=(0,0,0,0)) || !decide (uCmp f oneW<=0))):=rfl;clear hlaw2 hlaw3 hB hcu hpuo hf1 hf2 hz hz1 hz2 hpo hq hf hx hfo hm;generalize ctE s x f=rE at *
 generalize ctW s x f=rW at *
 generalize z98 s x f=rS at *
 generalize zhq s x f=s3 at *
 generalize (z1d s x f).z09 (aKey 31 x) (z1b (pend (z1d s x f) x).2.1 (puW (pend (z1d s x f) x).2.1 f))=s4 at *
 generalize z1b (pend (z1d s x f) x).2.1 (puW (pend (z1d s x f) x).2.1 f)=lv2 at *
 generalize subB (pend (z1d s x f) x).2.1 (puW (pend (z1d s x f) x).2.1 f)=lc2 at *
 generalize puW (pend (z1d s x f) x).2.1 f=pq at *
 generalize puB (pend (z1d s x f) x).2.1 f=pqb at *
 generalize (pend (z1d s x f) x).2.2=bb at *
 generalize (pend (z1d s x f) x).2.1=pv at *
 generalize (pend (z1d s x f) x).1=wy at *
 generalize z1d s x f=s2 at *
 generalize zit s x f=s1 at *
 generalize z1b (cur s x) (puW (cur s x) f)=lv at *
 generalize subB (cur s x) (puW (cur s x) f)=lc at *
 generalize subW (s.amt (aAll x)) (puW (cur s x) f)=ev at *
 generalize subB (s.amt (aAll x)) (puW (cur s x) f)=eb at *
 generalize s.amt (aAll x)=eA at *
 generalize puW (cur s x) f=pu at *
 generalize puB (cur s x) f=pub at *
 generalize cur s x=cu at *
 generalize aAll x=kA at *
 generalize aKey 29 x=k29 at *
 generalize aKey 31 x=k31 at *
 generalize ctC f=cc at *
 have HEQ:Hid (∀ w,(Op.equalIn 10000 24 (.agg #[.int .u64 f.1,.int .u64 f.2.1,.int .u64 f.2.2.1,.int .u64 f.2.2.2]) (.agg #[.int .u64 0,.int .u64 0,.int .u64 0,.int .u64 0])).run Tryz.prog w= .ok (decide (f=(0,0,0,0))) w):=fun w=>eqU f (0,0,0,0) w
 have hq0:Program.eqGuardType Tryz.prog Tryz.prog.depth 24=false:=by kernel_rfl
 generalize hgA:decide (uCmp f oneW<=0)=gd at *
 by_cases hf0:f=(0,0,0,0)
 ·have hE:=HEQ.out;rw[decide_eq_true hf0]at hE HCC;obtain⟨r1,r2,r3⟩:=HLW2.out (by rw[HCC.out];rfl);have HR3:=zh (And.intro r1 (And.intro r2 r3));clear r1 r2 r3 HLW2 HLW3 hf0 HEQ;go_enter Tryz.func62,Tryz.ntmps62;go_upto_region 1 with fail;generalize ((w.alloc (riO x)).alloc (uO f)).alloc zO=w1 at *
  obtain⟨f0',f1,f2,f3,_⟩:=row4 (HB.out.row (g:=w.heap.size+1) (o:=uO f) (by simp));obtain⟨z0,z1,z2,z3,zf⟩:=row4 (x:=(0,0,0,0)) (HB.out.row (g:=w.heap.size+1+1) (o:=zO) (by simp));have HF:=zh (zog HB.out (g:=w.heap.size+1+1) (y:=(0,0,0,0)) (by simp) (0,0,0,0));go_wp2_with fail;refine bodyPost_ret (z03 rfl _ _ (w.heap.size+1+1) 24 (uL (0,0,0,0)) (0,0) _ rfl HF.out.1 Tryz.underlying24 rfl (by kernel_rfl)) rfl ?_;exact⟨by rw[HR3.out.1,HR3.out.2.1];rfl,by rw[HR3.out.2.2];exact HF.out.2⟩
 ·have hE:=HEQ.out;rw[decide_eq_false hf0]at hE HCC;cases gd with
  | false =>
   obtain⟨r1,r2,r3⟩:=HLW2.out (by rw[HCC.out];rfl);have HR3:=zh (And.intro r1 (And.intro r2 r3));clear r1 r2 r3 HLW2 HLW3 hf0 HEQ hgA;go_enter Tryz.func62,Tryz.ntmps62;go_upto_region 1 with fail;generalize ((w.alloc (riO x)).alloc (uO f)).alloc zO=w1 at *
   obtain⟨f0',f1,f2,f3,_⟩:=row4 (HB.out.row (g:=w.heap.size+1) (o:=uO f) (by simp));go_wp2_with fail;refine zm (HGD.out _ _ HB.out) ?_;rintro e w2 ⟨rfl,hB2⟩;obtain⟨z0,z1,z2,z3,zf⟩:=row4 (x:=(0,0,0,0)) (hB2.row (g:=w.heap.size+1+1) (o:=zO) (by simp));have HF:=zh (zog hB2 (g:=w.heap.size+1+1) (y:=(0,0,0,0)) (by simp) (0,0,0,0));clear HGD hB2 HB f0' f1 f2 f3;go_wp2_with fail;refine bodyPost_ret (z03 rfl _ _ (w.heap.size+1+1) 24 (uL (0,0,0,0)) (0,0) _ rfl HF.out.1 Tryz.underlying24 rfl (by kernel_rfl)) rfl ?_;exact⟨by rw[HR3.out.1,HR3.out.2.1];rfl,by rw[HR3.out.2.2];exact HF.out.2⟩
  | true =>
   have HR3:=zh (HLW3.out (by rw[HCC.out];rfl));clear HLW2 HLW3 hf0 HEQ hgA;go_enter Tryz.func62,Tryz.ntmps62;go_upto_region 1 with fail;generalize ((w.alloc (riO x)).alloc (uO f)).alloc zO=w1 at *
   obtain⟨g,hg⟩:∃ g,g=w.heap.size:=⟨_,rfl⟩;rw[<- hg]at HB ⊢;clear hg;obtain⟨f0',f1,f2,f3,_⟩:=row4 (HB.out.row (g:=g+1) (o:=uO f) (by simp));go_wp2_with fail;refine zm (HGD.out _ _ HB.out) ?_;rintro e w2 ⟨rfl,hB2⟩;obtain⟨i0,i1,i2,i3⟩:=z0g (x:=x) (hB2.row (g:=g) (o:=riO x) (by simp));have HB2:=zh hB2;clear HGD hB2 HB f0' f1 f2 f3;go_wp2_with fail;refine zm (HCU.out _ _ HB2.out) ?_;rintro e w3 ⟨rfl,hB3⟩;have hB4:=hB3.alloc (uO cu);clear HCU hB3 HB2 i0 i1 i2 i3;go_upto_region 4 with fail;generalize w3.alloc (uO cu)=w4 at *
   generalize w3.heap.size=g8 at *
   obtain⟨f0',f1,f2,f3,_⟩:=row4 (hB4.row (g:=g+1) (o:=uO f) (by simp));obtain⟨c0,c1,c2,c3,_⟩:=row4 (hB4.row (g:=g8) (o:=uO cu) (by simp));have HB4:=zh hB4;clear hB4;go_wp2_with fail;refine zm (HPU.out _ _ HB4.out) ?_;rintro e w5 ⟨rfl,hB5⟩;have hB6:=hB5.alloc (uO pu);clear HPU HB4 hB5 f0' f1 f2 f3 c0 c1 c2 c3;go_upto_region 5 with fail;generalize w5.alloc (uO pu)=w6 at *
   generalize w5.heap.size=g9 at *
   obtain⟨c0,c1,c2,c3,_⟩:=row4 (hB6.row (g:=g8) (o:=uO cu) (by simp));obtain⟨p0,p1,p2,p3,_⟩:=row4 (hB6.row (g:=g9) (o:=uO pu) (by simp));have HB6:=zh hB6;clear hB6;go_wp2_with fail;refine zm (HLS.out _ _ HB6.out) ?_;rintro e w7 ⟨rfl,hB7⟩;have hB8:=hB7.alloc (uO lv);clear HLS HB6 hB7 c0 c1 c2 c3 p0 p1 p2 p3;go_upto_region 6 with fail;generalize w7.alloc (uO lv)=wA at *
   generalize w7.heap.size=ga at *
   have HB:Hid (FV b w L s [(ga,uO lv),(g9,uO pu),(g8,uO cu),(g+1+1,zO),(g+1,uO f),(g,riO x)] wA):=hB8;clear hB8;have HB0:=zh (z0h (Below.refl wA.heap.size wA));refine z1g [[],[],[1],[],[3],[0,1,2,3,4],[],[0,1,2,3,4,5,6],[0,1,2,3,4,5,6,7],[0,1,2,3,4,5,6,7,8],[0,1,2,3,4,5,6,7,8],[],[0,1,2,3,4,5,6,7,8,9,11],[0,1,2,3,4,5,6,7,8,9,10,11,12]]
    [rgC (Below wA.heap.size wA),rgV 0 (.pointer (some ⟨b,0,none⟩)),rgV 1 (.pointer (some ⟨g,0,none⟩)),rgV 2 (.int .i64 x.1),rgV 3 (.pointer (some ⟨g,1,none⟩)),rgV 4 (.int .i64 x.2.1),rgV 5 (uV eA),rgV 6 (uV pu),rgV 7 (.tuple #[uV ev,.bool eb]),rgV 8 (.tuple #[uV ev,.bool eb]),rgV 9 (uV ev),rgV 10 (.bool eb),rgP 11 (wA.heap.size),rgV 13 (.bool eb),rgS 11 12 (ev)] _ (by kernel_rfl) (by kernel_rfl) (by kernel_rfl)
    (fun vs=>by simp only[z14,z1a,List.setIfInBounds_toArray,List.set_cons_zero,List.set_cons_succ];exact rfl)
    ⟨fun _ _ _ hb h=>z0b h hb,z0e,z0e,z0e,z0e,z0e,z0e,z0e,z0e,z0e,z0e,z0e,zay,z0e,zb4,trivial⟩ ?_ ?_ ?_
   ·refine z3k rfl HB0.out ?_;iterate 14 refine z4l rfl ?_
    exact trivial
   ·refine⟨?_,?_,?_,?_,?_,?_,?_,?_,?_,?_,?_,?_,?_,?_,trivial⟩
    ·intro vs w2 hA K hK;obtain⟨_,_⟩:=hA;refine z0a rfl (.inl rfl) rfl (hK _ _ (.inl zb) ?_);exact z07 1
    ·intro vs w2 hA K hK;obtain⟨_,_⟩:=hA;refine z8s rfl rfl rfl (hK _ _ (.inl zb) ?_);exact z07 2
    ·intro vs w2 hA K hK;obtain⟨hC,e1,_⟩:=hA;refine z0u rfl rfl (rg1 e1) (z0g ((HB.out.below hC).row (g:=g) (o:=riO x) (by simp))).1 (hK _ _ (.inl zb) ?_);exact z07 3
    ·intro vs w2 hA K hK;obtain⟨_,_⟩:=hA;refine z8n rfl rfl rfl (hK _ _ (.inl zb) ?_);exact z07 4
    ·intro vs w2 hA K hK;obtain⟨hC,e3,_⟩:=hA;refine z0u rfl rfl (rg1 e3) (z0g ((HB.out.below hC).row (g:=g) (o:=riO x) (by simp))).2.1 (hK _ _ (.inl zb) ?_);exact z07 5
    ·intro vs w2 hA K hK;obtain⟨hC,e0,_,e2,_,e4,_⟩:=hA;refine z4w rfl rfl rfl (by kernel_rfl) (show [vs 0,vs 2,vs 4]=_ from by rw[rg1 e0,rg1 e2,rg1 e4]) (zm (HEN.out _ _ (HB.out.below hC)) ?_);rintro e w2 ⟨rfl,hb⟩;refine⟨_,rfl,hK _ _ (.inl hb) ?_⟩;exact z07 6
    ·intro vs w2 hA K hK;obtain⟨hC,_⟩:=hA;refine z0p rfl rfl rfl ((HB.out.below hC).u4 (g:=g9) (x:=pu) (by simp)) (hK _ _ (.inl zb) ?_);exact z07 7
    ·intro vs w2 hA K hK;obtain⟨_,_,_,_,_,_,e5,e6,_⟩:=hA;refine z4w rfl rfl rfl (by kernel_rfl) (show [vs 5,vs 6]=_ from by rw[rg1 e5,rg1 e6]) (zm (HL2.out _) ?_);rintro e w2 ⟨rfl,hb⟩;refine⟨_,rfl,hK _ _ (.inl hb) ?_⟩;exact z07 8
    ·intro vs w2 hA K hK;obtain⟨_,_,_,_,_,_,_,_,e7,_⟩:=hA;refine z0a rfl (.inl rfl) (rg1 e7) (hK _ _ (.inl zb) ?_);exact z07 9
    ·intro vs w2 hA K hK;obtain⟨_,_,_,_,_,_,_,_,_,e8,_⟩:=hA;refine z0x rfl rfl (rg1 e8) rfl (hK _ _ (.inl zb) ?_);exact z07 10
    ·intro vs w2 hA K hK;obtain⟨_,_,_,_,_,_,_,_,_,e8,_⟩:=hA;refine z0x rfl rfl (rg1 e8) rfl (hK _ _ (.inl zb) ?_);exact z07 11
    ·intro vs w2 hA K hK;obtain⟨hC,_⟩:=hA;refine z4n rfl rfl (hK _ _ (.inl (z00 zb _)) ?_);iterate 12 refine z0v rfl ?_
     refine z18 rfl (fun _=>⟨_,_,rfl,hC.size,heap_alloc_new _ _⟩) ?_;iterate 2 refine z0v rfl ?_
     exact trivial
    ·intro vs w2 hA K hK;obtain⟨hC,_,_,_,_,_,_,_,_,_,e9,⟨_,_,e11,h11,g11⟩,_⟩:=hA;refine z2v rfl rfl (rg1 e11) (rg1 e9) g11 (hK _ _ (.inr ?_) ?_)
     ·refine z0k rfl (fun hC _=>bput hC h11) ?_;iterate 11 refine z0k rfl (fun h _=>h) ?_
      refine z0k rfl (fun h _=>z5y h) ?_;iterate 2 refine z2y rfl ?_
      exact trivial
     ·iterate 14 refine z0v rfl ?_
      refine z18 rfl (fun _=>⟨_,_,by show [vs 11,undef]=_;rw[rg1 e11],setRow_heap _ _ _ _ _ _ g11⟩) ?_;exact trivial
    ·intro vs w2 hA K hK;obtain⟨_,_,_,_,_,_,_,_,_,_,_,e10,_,_,_⟩:=hA;refine z0a rfl (.inr rfl) (rg1 e10) (hK _ _ (.inl zb) ?_);exact z07 13
   ·intro vs w2 hA;obtain⟨hC,e0,e1,e2,e3,e4,e5,e6,e7,e8,e9,e10,⟨p11,_,e11,h11,g11⟩,e13,s12,_⟩:=hA;have e0:=rg1 e0;have e1:=rg1 e1;have e2:=rg1 e2;have e3:=rg1 e3;have e4:=rg1 e4;have e5:=rg1 e5;have e6:=rg1 e6;have e7:=rg1 e7;have e8:=rg1 e8;have e9:=rg1 e9;have e10:=rg1 e10;have e11:=rg1 e11;have e13:=rg1 e13;have s12:=zb6 s12 e11;simp only[e0,e1,e2,e3,e4,e5,e6,e7,e8,e9,e10,e11,e13];have HB2:=zh (HB.out.add1 hC h11 s12);clear e0 e1 e2 e3 e4 e5 e6 e7 e8 e9 e10 e13 g11 s12 h11 hC HEN HL2 HB0 HB;cases eb with
    | false =>
     obtain⟨q1,q2,q3⟩:=HR3.out.1 rfl;have HQ3:=zh (And.intro q1 (And.intro q2 q3));obtain⟨z0,z1,z2,z3,zf⟩:=row4 (x:=(0,0,0,0)) (HB2.out.row (g:=g+1+1) (o:=zO) (by simp));have HF:=zh (zog HB2.out (g:=g+1+1) (y:=(0,0,0,0)) (by simp) (0,0,0,0));clear q1 q2 q3 HR3 HB2;go_wp2_with fail;refine bodyPost_ret (z03 rfl _ _ (g+1+1) 24 (uL (0,0,0,0)) (0,0) _ rfl HF.out.1 Tryz.underlying24 rfl (by kernel_rfl)) rfl ?_;exact⟨by rw[HQ3.out.1,HQ3.out.2.1];rfl,by rw[HQ3.out.2.2];exact HF.out.2⟩
    | true =>
     have HQ3:=zh (HR3.out.2 rfl);clear HR3;go_upto_region 9 with fail;have HP0:Hid (FSq b w L s s1 [(p11,uO ev),(ga,uO lv),(g9,uO pu),(g8,uO cu),(g+1+1,zO),(g+1,uO f),(g,riO x)] 0 _):=HB2.out.drew;clear HB2;refine z06 [[],[],[1],[],[0,2,3]]
      [.pointer (some ⟨b,0,none⟩),idV x,.string k29,uV lv,.tuple #[]]
      [4] (FSq b w L s s1 [(p11,uO ev),(ga,uO lv),(g9,uO pu),(g8,uO cu),(g+1+1,zO),(g+1,uO f),(g,riO x)]) _ (by kernel_rfl) (by kernel_rfl) (by kernel_rfl)
      (fun vs=>by simp only[z14,z1a,List.setIfInBounds_toArray,List.set_cons_zero,List.set_cons_succ];exact rfl)
      (by simp only[List.getD_cons_zero,List.getD_cons_succ];exact rfl) HP0.out ?_ ?_
     ·exact⟨
      fun _ _ _ _ hP _=>z0a rfl (.inl rfl) rfl ⟨rfl,hP⟩,
      fun _ _ _ _ hP _=>z3g rfl rfl rfl (FSq.row (g:=g) (o:=riO x) hP (by simp)) ⟨rfl,hP⟩,
      fun _ _ w1 hA hP _=>z0m rfl rfl rfl (by kernel_rfl) (rgL2 rfl hA.1) ((HK29.out w1).mono fun _ _ hh=>And.intro hh.1 (FSq.below hP hh.2)) fun _ hP2=>⟨rfl,hP2⟩,
      fun _ _ _ _ hP _=>z0p rfl rfl rfl (FSq.row (g:=ga) (o:=uO lv) hP (by simp)) ⟨rfl,hP⟩,
      fun _ _ _ hA hP hq=>by cases hq 0 rfl;exact z0m rfl rfl rfl (by kernel_rfl) (rgL3 hA.1 hA.2.1 hA.2.2.1) (HS29.out _ _ hP) fun _ hP2=>⟨rfl,hP2⟩,
      trivial⟩
     ·intro W4 hW4;have HV4:Hid (FV b w L s1 [(p11,uO ev),(ga,uO lv),(g9,uO pu),(g8,uO cu),(g+1+1,zO),(g+1,uO f),(g,riO x)] W4):=hW4;clear hW4 HP0 HS29 HK29;go_upto_region 10 with fail;have HP1:Hid (FSq b w L s1 s2 [(p11,uO ev),(ga,uO lv),(g9,uO pu),(g8,uO cu),(g+1+1,zO),(g+1,uO f),(g,riO x)] 0 W4.drew):=HV4.out.drew;clear HV4;refine z06 [[],[],[1],[],[3],[2,4],[],[0,5,6]]
       [.pointer (some ⟨b,0,none⟩),.pointer (some ⟨g,0,none⟩),.int .i64 x.1,.pointer (some ⟨g,1,none⟩),.int .i64 x.2.1,.string kA,uV ev,.tuple #[]]
       [7] (FSq b w L s1 s2 [(p11,uO ev),(ga,uO lv),(g9,uO pu),(g8,uO cu),(g+1+1,zO),(g+1,uO f),(g,riO x)]) _ (by kernel_rfl) (by kernel_rfl) (by kernel_rfl)
       (fun vs=>by simp only[z14,z1a,List.setIfInBounds_toArray,List.set_cons_zero,List.set_cons_succ];exact rfl)
       (by simp only[List.getD_cons_zero,List.getD_cons_succ];exact rfl) HP1.out ?_ ?_
      ·exact⟨
       fun _ _ _ _ hP _=>z0a rfl (.inl rfl) rfl ⟨rfl,hP⟩,
       fun _ _ _ _ hP _=>z8s rfl rfl rfl ⟨rfl,hP⟩,
       fun _ _ _ hA hP _=>z0u rfl rfl hA.1 (z0g (FSq.row (g:=g) (o:=riO x) hP (by simp))).1 ⟨rfl,hP⟩,
       fun _ _ _ _ hP _=>z8n rfl rfl rfl ⟨rfl,hP⟩,
       fun _ _ _ hA hP _=>z0u rfl rfl hA.1 (z0g (FSq.row (g:=g) (o:=riO x) hP (by simp))).2.1 ⟨rfl,hP⟩,
       fun _ _ w1 hA hP _=>z0m rfl rfl rfl (by kernel_rfl) (rgL2 hA.1 hA.2.1) ((HOF.out w1).mono fun _ _ hh=>And.intro hh.1 (FSq.below hP hh.2)) fun _ hP2=>⟨rfl,hP2⟩,
       fun _ _ _ _ hP _=>z0p rfl rfl rfl (FSq.row (g:=p11) (o:=uO ev) hP (by simp)) ⟨rfl,hP⟩,
       fun _ _ _ hA hP hq=>by cases hq 0 rfl;exact z0m rfl rfl rfl (by kernel_rfl) (rgL3 hA.1 hA.2.1 hA.2.2.1) (HSA.out _ _ hP) fun _ hP2=>⟨rfl,hP2⟩,
       trivial⟩
      ·intro W5 hW5;have hV5:FV b w L s2 [(p11,uO ev),(ga,uO lv),(g9,uO pu),(g8,uO cu),(g+1+1,zO),(g+1,uO f),(g,riO x)] W5:=hW5;obtain⟨i0,i1,i2,i3⟩:=z0g (x:=x) (hV5.row (g:=g) (o:=riO x) (by simp));have HV5:=zh hV5;clear hW5 hV5 HP1 HSA HOF;go_wp2_with fail;refine zm (HPD.out _ _ HV5.out) ?_;rintro e w9 ⟨rfl,hV9⟩;have hV10:=hV9.alloc (uO pv);clear HV5 hV9 i0 i1 i2 i3;go_upto_region 12 with fail;generalize w9.alloc (uO pv)=w10 at *
       generalize w9.heap.size=g16 at *
       have HV10:Hid (FV b w L s2 [(g16,uO pv),(p11,uO ev),(ga,uO lv),(g9,uO pu),(g8,uO cu),(g+1+1,zO),(g+1,uO f),(g,riO x)] w10):=hV10;clear hV10
       by_cases hwy:wy=2
       ·have hb1:((wy:Int)==2)=true:=by simp[hwy]
        have hb2:(wy==2)=true:=by simp[hwy]
        have HS3e:=zh (HS3.out.1 hwy);subst hwy;obtain⟨f0',f1,f2,f3,_⟩:=row4 (HV10.out.row (g:=g+1) (o:=uO f) (by simp));obtain⟨v0,v1,v2,v3,_⟩:=row4 (HV10.out.row (g:=g16) (o:=uO pv) (by simp));clear HS3;go_wp2_with fail;refine zm (HP2.out _ _ HV10.out) ?_;rintro e w11 ⟨rfl,hV11⟩;have hV12:=hV11.alloc (uO pq);clear HV10 hV11 f0' f1 f2 f3 v0 v1 v2 v3 HP2;go_upto_region 14 with fail;generalize w11.alloc (uO pq)=w12 at *
        generalize w11.heap.size=g18 at *
        obtain⟨v0,v1,v2,v3,_⟩:=row4 (hV12.row (g:=g16) (o:=uO pv) (by simp));obtain⟨k0,k1,k2,k3,_⟩:=row4 (hV12.row (g:=g18) (o:=uO pq) (by simp));have HV12:=zh hV12;clear hV12;go_wp2_with fail;refine zm (HLS2.out _ _ HV12.out) ?_;rintro e w13 ⟨rfl,hV13⟩;have hV14:=hV13.alloc (uO lv2);clear HV12 hV13 v0 v1 v2 v3 k0 k1 k2 k3 HLS2;go_upto_region 15 with fail;generalize w13.alloc (uO lv2)=w14 at *
        generalize w13.heap.size=g20 at *
        have HP2:Hid (FSq b w L s2 s4 [(g20,uO lv2),(g18,uO pq),(g16,uO pv),(p11,uO ev),(ga,uO lv),(g9,uO pu),(g8,uO cu),(g+1+1,zO),(g+1,uO f),(g,riO x)] 0 w14.drew):=hV14.drew;clear hV14;refine z06 [[],[],[1],[],[0,2,3]]
         [.pointer (some ⟨b,0,none⟩),idV x,.string k31,uV lv2,.tuple #[]]
         [4] (FSq b w L s2 s4 [(g20,uO lv2),(g18,uO pq),(g16,uO pv),(p11,uO ev),(ga,uO lv),(g9,uO pu),(g8,uO cu),(g+1+1,zO),(g+1,uO f),(g,riO x)]) _ (by kernel_rfl) (by kernel_rfl) (by kernel_rfl)
         (fun vs=>by simp only[z14,z1a,List.setIfInBounds_toArray,List.set_cons_zero,List.set_cons_succ];exact rfl)
         (by simp only[List.getD_cons_zero,List.getD_cons_succ];exact rfl) HP2.out ?_ ?_
        ·exact⟨
         fun _ _ _ _ hP _=>z0a rfl (.inl rfl) rfl ⟨rfl,hP⟩,
         fun _ _ _ _ hP _=>z3g rfl rfl rfl (FSq.row (g:=g) (o:=riO x) hP (by simp)) ⟨rfl,hP⟩,
         fun _ _ w1 hA hP _=>z0m rfl rfl rfl (by kernel_rfl) (rgL2 rfl hA.1) ((HK31.out w1).mono fun _ _ hh=>And.intro hh.1 (FSq.below hP hh.2)) fun _ hP2=>⟨rfl,hP2⟩,
         fun _ _ _ _ hP _=>z0p rfl rfl rfl (FSq.row (g:=g20) (o:=uO lv2) hP (by simp)) ⟨rfl,hP⟩,
         fun _ _ _ hA hP hq=>by cases hq 0 rfl;exact z0m rfl rfl rfl (by kernel_rfl) (rgL3 hA.1 hA.2.1 hA.2.2.1) (HSA2.out _ _ hP) fun _ hP2=>⟨rfl,hP2⟩,
         trivial⟩
        ·intro W13 hW13;have hV13:FV b w L s4 [(g20,uO lv2),(g18,uO pq),(g16,uO pv),(p11,uO ev),(ga,uO lv),(g9,uO pu),(g8,uO cu),(g+1+1,zO),(g+1,uO f),(g,riO x)] W13:=hW13;obtain⟨p0,p1,p2,p3,_⟩:=row4 (hV13.row (g:=g9) (o:=uO pu) (by simp));obtain⟨z0,z1,z2,z3,zf⟩:=row4 (x:=(0,0,0,0)) (hV13.row (g:=g+1+1) (o:=zO) (by simp));have HF:=zh (zog hV13 (g:=g+1+1) (y:=(0,0,0,0)) (by simp) pu);clear hV13 hW13;go_wp2_with fail;refine bodyPost_ret (z03 rfl _ _ (g+1+1) 24 (uL pu) (0,0) _ rfl HF.out.1 Tryz.underlying24 rfl (by kernel_rfl)) rfl ?_;exact⟨by rw[HQ3.out.1,HQ3.out.2.1];rfl,by rw[HQ3.out.2.2,HS3e.out];exact HF.out.2⟩
       ·have hb1:((wy:Int)==2)=false:=by simpa using (by omega:¬ (wy:Int)=2)
        have hb2:(wy==2)=false:=by simpa using hwy
        have HS3e:=zh (HS3.out.2 hwy);have hV13:=HV10.out;clear HS3;obtain⟨p0,p1,p2,p3,_⟩:=row4 (hV13.row (g:=g9) (o:=uO pu) (by simp));obtain⟨z0,z1,z2,z3,zf⟩:=row4 (x:=(0,0,0,0)) (hV13.row (g:=g+1+1) (o:=zO) (by simp));have HF:=zh (zog hV13 (g:=g+1+1) (y:=(0,0,0,0)) (by simp) pu);clear hV13 HV10;go_wp2_with fail;refine bodyPost_ret (z03 rfl _ _ (g+1+1) 24 (uL pu) (0,0) _ rfl HF.out.1 Tryz.underlying24 rfl (by kernel_rfl)) rfl ?_;exact⟨by rw[HQ3.out.1,HQ3.out.2.1];rfl,by rw[HQ3.out.2.2,HS3e.out];exact HF.out.2⟩
end Go.Proofs.YtnkilceibkkjlaaGreat
