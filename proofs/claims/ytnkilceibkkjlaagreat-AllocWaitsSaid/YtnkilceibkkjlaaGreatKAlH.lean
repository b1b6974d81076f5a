/- What is proved here: alloc's shrink, over a store behind  -/
import Derived.Test.YtnkilceibkkjlaaGreatKAlG
set_option maxRecDepth 100000
set_option maxHeartbeats 16000000
namespace Go.Proofs.YtnkilceibkkjlaaGreat
open Go.RowKit
theorem zy0{ops:Array Oper}{o:Oper}{a:Act}{w:World}{K:Value->World->Prop}{x:Operand}{g:Nat}(hg:Region.wanted o (yielded ops a.tmps)=true)(ho:o.op= .fieldAddr 34 x 2)(hx:a.eval x= .pointer (some ⟨g,0,none⟩))(hk:K (.pointer (some ⟨g,2,none⟩)) w):rgDo Tryz.prog ops o a w K:=by
 refine z0n hg ?_ hk;unfold execOp;simp only[ho,hx]
 go_simp
theorem zxv{ops:Array Oper}{o:Oper}{a:Act}{w:World}{K:Value->World->Prop}{x:Operand}{g:Nat}(hg:Region.wanted o (yielded ops a.tmps)=true)(ho:o.op= .fieldAddr 34 x 3)(hx:a.eval x= .pointer (some ⟨g,0,none⟩))(hk:K (.pointer (some ⟨g,3,none⟩)) w):rgDo Tryz.prog ops o a w K:=by
 refine z0n hg ?_ hk;unfold execOp;simp only[ho,hx]
 go_simp
def shW(sl:Bool)(tl:Nat):Bool:=sl&&decide (0<tl)
def shPE(s:St)(x:I4):Int:=z9d s 33 [x.1,x.2.1] 8
def shP(s:St)(x:I4):St:=z2s s 33 [x.1,x.2.1] 8 [x.2.2.1,x.2.2.2]
def shSE(s:St)(x:I4)(y:W4):Int:=z2t (s.amt (aAll x)) y
def shS1(s:St)(x:I4)(y:W4):St:=if shSE s x y=0 then s.z09 (aAll x) (subW (s.amt (aAll x)) y)else s
def shN(s:St)(x:I4)(bk tl:Nat)(sl:Bool):Nat:=if shW sl tl then(if shPE s x=0 then bk+tl else 0)else 0
def shE(s:St)(x:I4)(y:W4)(bk tl:Nat)(sl:Bool):Int:=if shW sl tl then(if shPE s x=0 then z3h (bk+tl)else shPE s x)else shSE s x y
def shSt(s:St)(x:I4)(tt y:W4)(bk tl:Nat)(sl:Bool):St:=if shW sl tl then(if shPE s x=0 then z19 (shP s x) x 2 y (bk+tl)else shP s x)else(if shSE s x y=0 then(shS1 s x y).z09 (aKey 29 x) tt else shS1 s x y)
theorem zmh{s:St}{f:Nat}(hf:s.Fit f)(t:Nat)(l:List Int)(a b:Int):(z1m s t l a b).Fit (f+2):=by
 unfold z1m;refine hf.put _ ?_;split
 ·exact z15 _ (by simp)
 ·exact z15 _ (by simp)
theorem zf4{s:St}{f:Nat}(hf:s.Fit f)(t:Nat)(l:List Int)(most:Nat)(r:List Int)(hr:r.length<=100000):(z2s s t l most r).Fit (f+4):=by
 unfold z2s;split
 ·exact hf.mono (by omega)
 ·exact zmh (hf.put _ (z15 _ hr)) _ _ _ _
def ShI(h:Hand)(w wA:World)(x:I4)(s1:St)(rs:List (Nat × Obj))(b2 b7 b8:Bool)(v2 v7:Value)(W:World):Prop:=
 (b8=false->Below wA.heap.size wA W/\(b2=true->∃ q,v2= .slice (some ⟨q,0,none⟩) 2 2/\wA.heap.size<=q/\W.heap[q]?=some (q2O x))/\(b7=true->∃ q,v7= .slice (some ⟨q,0,none⟩) 2 2/\wA.heap.size<=q/\W.heap[q]?=some (.cells #[.int .i64 x.2.2.1,.int .i64 x.2.2.2] 3)))/\(b8=true->HV h w s1 rs W)
theorem ShI.to{h:Hand}{w wA W W':World}{x:I4}{s1:St}{rs:List (Nat × Obj)}{b2 b7 b8 c2 c7:Bool}{v2 v7 u2 u7:Value}(hI:ShI h w wA x s1 rs b2 b7 b8 v2 v7 W)(h8:b8=false)(hb:Below W.heap.size W W')(k2:c2=true->(b2=true/\u2=v2)\/∃ q,u2= .slice (some ⟨q,0,none⟩) 2 2/\wA.heap.size<=q/\W'.heap[q]?=some (q2O x))
  (k7:c7=true->(b7=true/\u7=v7)\/∃ q,u7= .slice (some ⟨q,0,none⟩) 2 2/\wA.heap.size<=q/\W'.heap[q]?=some (.cells #[.int .i64 x.2.2.1,.int .i64 x.2.2.2] 3)):ShI h w wA x s1 rs c2 c7 b8 u2 u7 W':=by
 refine⟨fun _ => ?_,fun e=>by rw[h8]at e;cases e⟩;obtain⟨h1,h2,h7⟩:=hI.1 h8;refine⟨z0b h1 hb,fun e => ?_,fun e => ?_⟩
 ·rcases k2 e with⟨e2,rfl⟩ | k
  ·obtain⟨q,e1,e3,e4⟩:=h2 e2;exact⟨q,e1,e3,(hb.block q (z02 e4)).trans e4⟩
  ·exact k
 ·rcases k7 e with⟨e2,rfl⟩ | k
  ·obtain⟨q,e1,e3,e4⟩:=h7 e2;exact⟨q,e1,e3,(hb.block q (z02 e4)).trans e4⟩
  ·exact k
theorem lie2{w:World}{g:Nat}{a b:Int}(h:w.heap[g]?=some (.cells #[.int .i64 a,.int .i64 b] 3 (0,0))):zce w g [a,b]:=fun j z hj=>by
 rw[cell_of_row _ _ _ _ _ _ h]
 match j,hj with
 | 0,hj=>cases hj;rfl
 | 1,hj=>cases hj;rfl
theorem ztz(w:World)(h:Hand)(s:St)(f bk tl:Nat)(dl:Int)(x:I4)(tt mx y:W4)(sl:Bool)(hon:h.on=true)(hx:∀ n∈x.l,0<=n/\n<9223372036854775808)(hyo:y.Ok)(hq:QSt w h s)(hf:s.Fit f)(hm:f<10000000)(hbk:bk<=1099511627776)(htl:tl<=1099511627776)
  (heb:(ends s 33 [x.1,x.2.1]).2<4611686018427387904) (hkey:∀ z∈(z0t (shP s x) x 2 y (bk+tl)).ents,z.1.size<1000000000000) (h27:(z1z (z0t (shP s x) x 2 y (bk+tl)) (bk+tl) x.l).int K27<1000000000000) :
  Calls Tryz.prog 72 #[idV x,.pointer h.ptr,chV tt mx bk dl tl sl,uV y] w fun e w'=>e= .returned (.tuple #[.int .i64 (shN s x bk tl sl),.int .i64 (shE s x y bk tl sl)])/\QOn w h (shSt s x tt y bk tl sl) w':=by
 have hxo:x.Ok:=fun n hn=>(hx n hn).2
 have hB:=(((HV.start hq).alloc (aO x)).alloc (chO tt mx bk dl tl sl)).alloc (uO y);simp only[World.size_alloc]at hB;have hst:∀ s1 s2:St,h.st s1 s2=s2:=fun s1 s2=>by unfold Hand.st;rw[hon];rfl
 have hfP:(shP s x).Fit (f+4):=zf4 hf _ _ _ _ (by simp);have hf1:(shS1 s x y).Fit (f+2):=by
  unfold shS1;split
  ·exact hf.z09 _ _
  ·exact hf.mono (by omega)
 have hz1:(shS1 s x y).size<1000000000000:=Nat.lt_of_le_of_lt hf1.size (by omega)
 have hl2:IdOk [x.1,x.2.1]:=⟨by simp,fun n hn=>hxo n (by
  simp only[List.mem_cons,List.not_mem_nil,or_false]at hn ⊢
  rcases hn with rfl | rfl<;>simp)⟩
 have hl0:∀ n∈[x.1,x.2.1],0<=n:=fun n hn=>(hx n (by
  simp only[List.mem_cons,List.not_mem_nil,or_false]at hn ⊢
  rcases hn with rfl | rfl<;>simp)).1
 have hr0:∀ n∈[x.2.2.1,x.2.2.2],0<=n/\n<9223372036854775808:=fun n hn=>hx n (by
  simp only[List.mem_cons,List.not_mem_nil,or_false]at hn ⊢
  rcases hn with rfl | rfl<;>simp)
 have HAL:Hid (∀ W,Calls Tryz.prog 82 #[idV x] W fun e w'=>e= .returned (.string (aAll x))/\Below W.heap.size W w'):=fun W=>zbn x hxo W
 have HQU:Hid (∀ W,Calls Tryz.prog 84 #[idV x] W fun e w'=>e= .returned (.slice (some ⟨W.heap.size+1,0,none⟩) 2 2)/\w'=(W.alloc (aO x)).alloc (q2O x)):=fun W=>ze7 x W
 have HPU:Hid (∀ rs wA W q2 q7,HV h w s rs wA->Below wA.heap.size wA W->wA.heap.size<=q2->W.heap[q2]?=some (q2O x)->wA.heap.size<=q7->W.heap[q7]?=some (.cells #[.int .i64 x.2.2.1,.int .i64 x.2.2.2] 3)->Calls Tryz.prog 145 #[.pointer h.ptr,.int .i64 33,.slice (some ⟨q2,0,none⟩) 2 2,.int .i64 8,.slice (some ⟨q7,0,none⟩) 2 2] W fun e w'=>e= .returned (.int .i64 (shPE s x))/\HV h w (shP s x) rs w'):=fun rs wA W q2 q7 hV hb h2 r2 h7 r7=>by
  have hV2:HV h w s ([(q2,q2O x),(q7,.cells #[.int .i64 x.2.2.1,.int .i64 x.2.2.2] 3)]++rs) W:=hV.addl hb _ (fun g o hm=>by
   simp only[List.mem_cons,List.not_mem_nil,or_false,Prod.mk.injEq]at hm;rcases hm with⟨rfl,rfl⟩ | ⟨rfl,rfl⟩
   ·exact⟨h2,r2⟩
   ·exact⟨h7,r7⟩)
  refine(QV.zmf hV2 (s':=shP s x) (f:=145) (args:=#[.pointer h.ptr,.int .i64 33,.slice (some ⟨q2,0,none⟩) 2 2,.int .i64 8,.slice (some ⟨q7,0,none⟩) 2 2]) (E:=fun e=>e= .returned (.int .i64 (shPE s x))) fun L' h1 hn => ?_).mono fun e w' ⟨he,hV3⟩=>⟨he,hV3.less fun y hy=>by simp[hy]⟩
  exact zrp 33 (by decide) (by decide) W ⟨h.ptr,h.on,L'⟩ s f (some ⟨q2,0,none⟩) 2 [x.1,x.2.1] 8 q7 2 [x.2.2.1,x.2.2.2] hon h1 hf (by omega) (zkl r2) hl2 hl0 (fun k hk=>by
   have hk':q2=k:=by simpa [Value.ownBlock]using hk
   subst hk'
   exact hn _ (q2O x) (by simp)) (lie2 r7) (hn _ (.cells #[.int .i64 x.2.2.1,.int .i64 x.2.2.2] 3) (by simp)) (by simp) (by simp) hr0 (by decide) heb
 have HWT:Hid (∀ rs W,HV h w (shP s x) rs W->Calls Tryz.prog 143 #[idV x,.pointer h.ptr,.int .i64 2,uV y,.int .i64 ((bk+tl:Nat):Int)] W fun e w'=>e= .returned (.int .i64 (z3h (bk+tl)))/\HV h w (z19 (shP s x) x 2 y (bk+tl)) rs w'):=fun rs W hV =>
  QV.call hV fun L' h1=>zuf W ⟨h.ptr,h.on,L'⟩ (shP s x) (f+4) 2 (bk+tl) x y hon hx h1 hfP (by omega) (by decide) (by omega) hkey h27
 have HSB:Hid (∀ rs W,HV h w s rs W->Calls Tryz.prog 88 #[.pointer h.ptr,.string (aAll x),uV y] W fun e w'=>e= .returned (.int .i64 (shSE s x y))/\HV h w (shS1 s x y) rs w'):=fun rs W hV=>by
  have:=hV.csub hf (by omega) (aAll x) hyo;unfold Hand.ze0 at this;rw[hst]at this;exact this
 have HK29:Hid (∀ W,Calls Tryz.prog 65 #[idV x,.int .i64 29] W fun e w'=>e= .returned (.string (aKey 29 x))/\Below W.heap.size W w'):=fun W=>z5v 29 (by decide) (by decide) x hxo W
 have HS29:Hid (∀ rs W,HV h w (shS1 s x y) rs W->Calls Tryz.prog 81 #[.pointer h.ptr,.string (aKey 29 x),uV tt] W fun e w'=>e= .returned (.tuple #[])/\HV h w ((shS1 s x y).z09 (aKey 29 x) tt) rs w'):=fun rs W hV=>by
  have:=hV.cset hz1 (aKey 29 x) tt;rw[hst]at this;exact this
 have HLAW:Hid ((shW sl tl=true->(shPE s x=0->((shN s x bk tl sl:Nat):Int)=((bk+tl:Nat):Int)/\shE s x y bk tl sl=z3h (bk+tl)/\shSt s x tt y bk tl sl=z19 (shP s x) x 2 y (bk+tl))/\(shPE s x≠0->shN s x bk tl sl=0/\shE s x y bk tl sl=shPE s x/\shSt s x tt y bk tl sl=shP s x)) /\
   (shW sl tl=false->(shSE s x y=0->shN s x bk tl sl=0/\shE s x y bk tl sl=0/\shSt s x tt y bk tl sl=(shS1 s x y).z09 (aKey 29 x) tt)/\(shSE s x y≠0->shN s x bk tl sl=0/\shE s x y bk tl sl=shSE s x y/\shSt s x tt y bk tl sl=shS1 s x y))):=by
  unfold shN shE shSt;refine⟨fun hb=>⟨fun h0 => ?_,fun h0 => ?_⟩,fun hb=>⟨fun h0 => ?_,fun h0 => ?_⟩⟩<;>simp[hb,h0]
 have HWW:Hid (shW sl tl=(sl&&decide (0<tl))):=rfl;have hsum:wrap64 ((bk:Int)+(tl:Int))=((bk+tl:Nat):Int):=by unfold wrap64;omega
 have HB:=zh hB;clear hB hst hfP hf1 hz1 hl2 hl0 hr0 hq hf hx hxo hyo hm hon hbk htl hkey h27 heb;generalize shN s x bk tl sl=rN at *
 generalize shE s x y bk tl sl=rE at *
 generalize shSt s x tt y bk tl sl=rS at *
 generalize z19 (shP s x) x 2 y (bk+tl)=sW at *
 generalize z3h (bk+tl)=we at *
 generalize ((bk+tl:Nat):Int)=bd at *
 generalize (shS1 s x y).z09 (aKey 29 x) tt=s29 at *
 generalize shS1 s x y=s1 at *
 generalize shSE s x y=se at *
 generalize shPE s x=pe at *
 generalize shP s x=sP at *
 generalize shW sl tl=wb at *
 generalize aAll x=kA at *
 generalize aKey 29 x=k29 at *
 go_enter Tryz.func72,Tryz.ntmps72;go_upto_region 1 with fail;generalize ((w.alloc (aO x)).alloc (chO tt mx bk dl tl sl)).alloc (uO y)=wA at *
 obtain⟨g,hg⟩:∃ g,g=w.heap.size:=⟨_,rfl⟩;rw[<- hg]at HB ⊢;clear hg;obtain⟨a0,a1,a2,a3,b0,b1,b2,b3,x8,y9,za,tb⟩:=z3e (HB.out.row (g:=g+1) (o:=chO tt mx bk dl tl sl) (by simp))
 by_cases hsw:sl=true/\0<tl
 ·obtain⟨hsl,htl⟩:=hsw;rw[hsl]at tb;have hgt:decide ((0:Int)<(tl:Int))=true:=decide_eq_true (by omega);have hgn:(0<tl)=True:=eq_true htl;have hgd:decide (0<tl)=true:=decide_eq_true htl;have HL:=zh (HLAW.out.1 (by rw[HWW.out,hsl,decide_eq_true htl];rfl));clear HLAW HWW htl HSB HK29 HS29 HAL;go_upto_region 2 with fail;have H0:Hid (ShI h w wA x sP [(g+1+1,uO y),(g+1,chO tt mx bk dl tl sl),(g,aO x)] false false false undef undef wA.drew):=⟨fun _=>⟨z0h zb,fun e=>(by cases e),fun e=>(by cases e)⟩,fun e=>(by cases e)⟩;have HRW:Hid (∀ W,Below wA.heap.size wA W->W.heap[g]?=some (aO x)):=fun W hb=>(HB.out.below hb).row (by simp)
  refine z8q [[],[],[1],[],[3],[],[5],[3,4,5,6],[0,1,2,3,4,5,6,7],[0,1,2,3,4,5,6,7,8]]
   [.pointer h.ptr,idV x,undef,.pointer (some ⟨g,2,none⟩),.int .i64 x.2.2.1,.pointer (some ⟨g,3,none⟩),.int .i64 x.2.2.2,undef,.int .i64 pe,.int .i64 pe] [2,7]
   (fun L vs W=>ShI h w wA x sP [(g+1+1,uO y),(g+1,chO tt mx bk dl tl sl),(g,aO x)] (L 2) (L 7) (L 8) (vs 2) (vs 7) W) _ (by kernel_rfl) (by kernel_rfl) (by kernel_rfl)
   (fun vs=>by simp only[z14,z1a,List.setIfInBounds_toArray,List.set_cons_zero,List.set_cons_succ];exact rfl)
   (fun vs=>by exact rfl) H0.out ?_ ?_
  ·refine⟨?_,?_,?_,?_,?_,?_,?_,?_,?_,?_,trivial⟩
   ·intro L vs W hA hI hp hk hq;exact z0a rfl (.inl rfl) rfl ⟨rfl,hI⟩
   ·intro L vs W hA hI hp hk hq;exact z1u rfl rfl rfl (HRW.out W (hI.1 (hq 8 rfl)).1) ⟨rfl,hI⟩
   ·intro L vs W hA hI hp hk hq;obtain⟨e1,_⟩:=hA;have e1:vs 1=idV x:=e1;have h8:L 8=false:=hq 8 rfl;refine z4w rfl rfl rfl (by kernel_rfl) (show [vs 1]=_ from by rw[e1]) (zm (HQU.out W) ?_);rintro e w2 ⟨rfl,rfl⟩;have hb:=z00 (z00 (Below.refl W.heap.size W) (aO x)) (q2O x);have hn:=heap_alloc_new (W.alloc (aO x)) (q2O x);rw[World.size_alloc]at hn;exact⟨_,rfl,trivial,hI.to h8 hb (fun _ => .inr ⟨_,rfl,Nat.le_trans (hI.1 h8).1.size (Nat.le_succ _),hn⟩) (fun e => .inl ⟨e,rfl⟩)⟩
   ·intro L vs W hA hI hp hk hq;exact zy0 rfl rfl rfl ⟨rfl,hI⟩
   ·intro L vs W hA hI hp hk hq;obtain⟨e3,_⟩:=hA;have e3:vs 3= .pointer (some ⟨g,2,none⟩):=e3;exact zko rfl rfl e3 (z0g (HRW.out W (hI.1 (hq 8 rfl)).1)).2.2.1 ⟨rfl,hI⟩
   ·intro L vs W hA hI hp hk hq;exact zxv rfl rfl rfl ⟨rfl,hI⟩
   ·intro L vs W hA hI hp hk hq;obtain⟨e5,_⟩:=hA;have e5:vs 5= .pointer (some ⟨g,3,none⟩):=e5;exact zko rfl rfl e5 (z0g (HRW.out W (hI.1 (hq 8 rfl)).1)).2.2.2 ⟨rfl,hI⟩
   ·intro L vs W hA hI hp hk hq;obtain⟨_,e4,_,e6,_⟩:=hA;have e4:vs 4= .int .i64 x.2.2.1:=e4;have e6:vs 6= .int .i64 x.2.2.2:=e6;have h8:L 8=false:=hq 8 rfl;exact zs9 rfl rfl e4 e6 ⟨trivial,hI.to h8 (z00 (Below.refl _ W) _) (fun e => .inl ⟨e,rfl⟩) (fun _ => .inr ⟨_,rfl,(hI.1 h8).1.size,heap_alloc_new W _⟩)⟩
   ·intro L vs W hA hI hp hk hq;have h8:L 8=false:=hk;obtain⟨hb,k2,k7⟩:=hI.1 h8;obtain⟨q2,e2,z2,r2⟩:=k2 (hp 2 rfl);obtain⟨q7,e7,z7,r7⟩:=k7 (hp 7 rfl);obtain⟨e0,_⟩:=hA;have e0:vs 0= .pointer h.ptr:=e0;refine z4w rfl rfl rfl (by kernel_rfl) (show [vs 0,.int .i64 33,vs 2,.int .i64 8,vs 7]=_ from by rw[e0,e2,e7]) (zm (HPU.out [(g+1+1,uO y),(g+1,chO tt mx bk dl tl sl),(g,aO x)] wA W q2 q7 HB.out hb z2 r2 z7 r7) ?_);rintro e w2 ⟨rfl,hV⟩;exact⟨_,rfl,rfl,fun e=>absurd (show true=false from e) (by decide),fun _=>hV⟩
   ·intro L vs W hA hI hp hk hq;obtain⟨_,_,_,_,_,_,_,_,e8,_⟩:=hA;have e8:vs 8= .int .i64 pe:=e8;exact z0a rfl (.inr rfl) e8 ⟨rfl,hI⟩
  ·intro L vs W5 hI hL;have hV5:HV h w sP [(g+1+1,uO y),(g+1,chO tt mx bk dl tl sl),(g,aO x)] W5:=hI.2 (hL 8 (by decide));have HV5:=zh hV5;clear hV5 hI hL H0 HPU HQU HRW HB a0 a1 a2 a3 b0 b1 b2 b3 x8 y9 za tb hsl hgt
   by_cases he:pe=0
   ·have hb1:(pe==0)=true:=by simpa using he
    have HLL:=zh (HL.out.1 he);obtain⟨a0,a1,a2,a3,b0,b1,b2,b3,x8,y9,za,tb⟩:=z3e (HV5.out.row (g:=g+1) (o:=chO tt mx bk dl tl sl) (by simp));obtain⟨i0,i1,i2,i3⟩:=z0g (x:=x) (HV5.out.row (g:=g) (o:=aO x) (by simp));obtain⟨y0,y1,y2,y3,_⟩:=row4 (HV5.out.u4 (g:=g+1+1) (x:=y) (by simp));clear HL he;go_wp2_with fail;refine zm (HWT.out _ _ HV5.out) ?_;rintro e W6 ⟨rfl,hV6⟩;have HR:=zh (HV.done hV6);clear hV6 HV5 HWT;go_wp2_with fail;exact bodyPost_ret_by (results_tmp2 rfl _ _ _) rfl ⟨by rw[HLL.out.1,HLL.out.2.1];rfl,by rw[HLL.out.2.2];exact HR.out⟩
   ·have hb1:(pe==0)=false:=by simpa using he
    have HLL:=zh (HL.out.2 he);have HR:=zh (HV.done HV5.out);clear HL he HV5 HWT hsum;go_wp2_with fail;exact bodyPost_ret_by (results_tmp2 rfl _ _ _) rfl ⟨by rw[HLL.out.1,HLL.out.2.1];rfl,by rw[HLL.out.2.2];exact HR.out⟩
 ·by_cases hsl:sl=true
  ·have htl:¬ 0<tl:=fun h=>hsw ⟨hsl,h⟩
   rw[hsl]at tb;have hgt:decide ((0:Int)<(tl:Int))=false:=decide_eq_false (by omega);have hgn:(0<tl)=False:=eq_false htl;have hgd:decide (0<tl)=false:=decide_eq_false htl;clear hsw;have HL:=zh (HLAW.out.2 (by rw[HWW.out,decide_eq_false htl,Bool.and_false]));clear HLAW HWW HWT HPU HQU hsum;go_upto_region 7 with fail;have HP0:Hid (SqPh h w s s1 [(g+1+1,uO y),(g+1,chO tt mx bk dl tl sl),(g,aO x)] 0 wA.drew):=HB.out.drew;clear HB a0 a1 a2 a3 b0 b1 b2 b3 x8 y9 za tb;refine z06 [[],[],[1],[],[0,2,3],[4]]
    [.pointer h.ptr,idV x,.string kA,uV y,.int .i64 se,.int .i64 se]
    [4] (SqPh h w s s1 [(g+1+1,uO y),(g+1,chO tt mx bk dl tl sl),(g,aO x)]) _ (by kernel_rfl) (by kernel_rfl) (by kernel_rfl)
    (fun vs=>by simp only[z14,z1a,List.setIfInBounds_toArray,List.set_cons_zero,List.set_cons_succ];exact rfl)
    (by simp only[List.getD_cons_zero,List.getD_cons_succ];exact rfl) HP0.out ?_ ?_
   ·exact⟨
    fun _ _ _ _ hP _=>z0a rfl (.inl rfl) rfl ⟨rfl,hP⟩,
    fun _ _ _ _ hP _=>z1u rfl rfl rfl (SqPh.row (g:=g) (o:=aO x) hP (by simp)) ⟨rfl,hP⟩,
    fun _ _ w1 hA hP _=>z0m rfl rfl rfl (by kernel_rfl) (rgL1 hA.1) ((HAL.out w1).mono fun _ _ hh=>And.intro hh.1 (SqPh.below hP hh.2)) fun _ hP2=>⟨rfl,hP2⟩,
    fun _ _ _ _ hP _=>z0p rfl rfl rfl (SqPh.row (g:=g+1+1) (o:=uO y) hP (by simp)) ⟨rfl,hP⟩,
    fun _ _ _ hA hP hq=>by cases hq 0 rfl;exact z0m rfl rfl rfl (by kernel_rfl) (rgL3 hA.1 hA.2.1 hA.2.2.1) (HSB.out _ _ hP) fun _ hP2=>⟨rfl,hP2⟩,
    fun _ _ _ hA hP _=>z0a rfl (.inr rfl) hA.1 ⟨rfl,hP⟩,
    trivial⟩
   ·intro W4 hW4;have HV4:Hid (HV h w s1 [(g+1+1,uO y),(g+1,chO tt mx bk dl tl sl),(g,aO x)] W4):=hW4;clear hW4 HP0 HSB HAL
    by_cases he:se=0
    ·have hb1:(se==0)=true:=by simpa using he
     have HLL:=zh (HL.out.1 he);clear HL he;go_upto_region 10 with fail;have HP1:Hid (SqPh h w s1 s29 [(g+1+1,uO y),(g+1,chO tt mx bk dl tl sl),(g,aO x)] 0 W4.drew):=HV4.out.drew;clear HV4;refine z06 [[],[],[1],[],[3],[0,2,4]]
      [.pointer h.ptr,idV x,.string k29,.pointer (some ⟨g+1,0,none⟩),uV tt,.tuple #[]]
      [5] (SqPh h w s1 s29 [(g+1+1,uO y),(g+1,chO tt mx bk dl tl sl),(g,aO x)]) _ (by kernel_rfl) (by kernel_rfl) (by kernel_rfl)
      (fun vs=>by simp only[z14,z1a,List.setIfInBounds_toArray,List.set_cons_zero,List.set_cons_succ];exact rfl)
      (by simp only[List.getD_cons_zero,List.getD_cons_succ];exact rfl) HP1.out ?_ ?_
     ·exact⟨
      fun _ _ _ _ hP _=>z0a rfl (.inl rfl) rfl ⟨rfl,hP⟩,
      fun _ _ _ _ hP _=>z1u rfl rfl rfl (SqPh.row (g:=g) (o:=aO x) hP (by simp)) ⟨rfl,hP⟩,
      fun _ _ w1 hA hP _=>z0m rfl rfl rfl (by kernel_rfl) (rgL2 hA.1 rfl) ((HK29.out w1).mono fun _ _ hh=>And.intro hh.1 (SqPh.below hP hh.2)) fun _ hP2=>⟨rfl,hP2⟩,
      fun _ _ _ _ hP _=>zp9 rfl rfl rfl ⟨rfl,hP⟩,
      fun _ _ _ hA hP _=>zf7 rfl rfl hA.1 (SqPh.row (g:=g+1) (o:=chO tt mx bk dl tl sl) hP (by simp)) ⟨rfl,hP⟩,
      fun _ _ _ hA hP hq=>by cases hq 0 rfl;exact z0m rfl rfl rfl (by kernel_rfl) (rgL3 hA.1 hA.2.1 hA.2.2.1) (HS29.out _ _ hP) fun _ hP2=>⟨rfl,hP2⟩,
      trivial⟩
     ·intro W5 hW5;have HR:Hid (QOn w h s29 W5):=HV.done (rs:=[(g+1+1,uO y),(g+1,chO tt mx bk dl tl sl),(g,aO x)]) hW5
      clear hW5 HP1 HK29 HS29;go_wp2_with fail;exact bodyPost_ret_by (results_tmp2 rfl _ _ _) rfl ⟨by rw[HLL.out.1,HLL.out.2.1];rfl,by rw[HLL.out.2.2];exact HR.out⟩
    ·have hb1:(se==0)=false:=by simpa using he
     have HLL:=zh (HL.out.2 he);have HR:=zh (HV.done HV4.out);clear HL he HV4 HK29 HS29;go_wp2_with fail;exact bodyPost_ret_by (results_tmp2 rfl _ _ _) rfl ⟨by rw[HLL.out.1,HLL.out.2.1];rfl,by rw[HLL.out.2.2];exact HR.out⟩
  ·have hsl2:sl=false:=by simpa using hsl
   rw[hsl2]at tb;clear hsw hsl;have HL:=zh (HLAW.out.2 (by rw[HWW.out,hsl2,Bool.false_and]));clear HLAW HWW HWT HPU HQU hsum;go_upto_region 7 with fail;have HP0:Hid (SqPh h w s s1 [(g+1+1,uO y),(g+1,chO tt mx bk dl tl sl),(g,aO x)] 0 wA.drew):=HB.out.drew;clear HB a0 a1 a2 a3 b0 b1 b2 b3 x8 y9 za tb;refine z06 [[],[],[1],[],[0,2,3],[4]]
    [.pointer h.ptr,idV x,.string kA,uV y,.int .i64 se,.int .i64 se]
    [4] (SqPh h w s s1 [(g+1+1,uO y),(g+1,chO tt mx bk dl tl sl),(g,aO x)]) _ (by kernel_rfl) (by kernel_rfl) (by kernel_rfl)
    (fun vs=>by simp only[z14,z1a,List.setIfInBounds_toArray,List.set_cons_zero,List.set_cons_succ];exact rfl)
    (by simp only[List.getD_cons_zero,List.getD_cons_succ];exact rfl) HP0.out ?_ ?_
   ·exact⟨
    fun _ _ _ _ hP _=>z0a rfl (.inl rfl) rfl ⟨rfl,hP⟩,
    fun _ _ _ _ hP _=>z1u rfl rfl rfl (SqPh.row (g:=g) (o:=aO x) hP (by simp)) ⟨rfl,hP⟩,
    fun _ _ w1 hA hP _=>z0m rfl rfl rfl (by kernel_rfl) (rgL1 hA.1) ((HAL.out w1).mono fun _ _ hh=>And.intro hh.1 (SqPh.below hP hh.2)) fun _ hP2=>⟨rfl,hP2⟩,
    fun _ _ _ _ hP _=>z0p rfl rfl rfl (SqPh.row (g:=g+1+1) (o:=uO y) hP (by simp)) ⟨rfl,hP⟩,
    fun _ _ _ hA hP hq=>by cases hq 0 rfl;exact z0m rfl rfl rfl (by kernel_rfl) (rgL3 hA.1 hA.2.1 hA.2.2.1) (HSB.out _ _ hP) fun _ hP2=>⟨rfl,hP2⟩,
    fun _ _ _ hA hP _=>z0a rfl (.inr rfl) hA.1 ⟨rfl,hP⟩,
    trivial⟩
   ·intro W4 hW4;have HV4:Hid (HV h w s1 [(g+1+1,uO y),(g+1,chO tt mx bk dl tl sl),(g,aO x)] W4):=hW4;clear hW4 HP0 HSB HAL
    by_cases he:se=0
    ·have hb1:(se==0)=true:=by simpa using he
     have HLL:=zh (HL.out.1 he);clear HL he;go_upto_region 10 with fail;have HP1:Hid (SqPh h w s1 s29 [(g+1+1,uO y),(g+1,chO tt mx bk dl tl sl),(g,aO x)] 0 W4.drew):=HV4.out.drew;clear HV4;refine z06 [[],[],[1],[],[3],[0,2,4]]
      [.pointer h.ptr,idV x,.string k29,.pointer (some ⟨g+1,0,none⟩),uV tt,.tuple #[]]
      [5] (SqPh h w s1 s29 [(g+1+1,uO y),(g+1,chO tt mx bk dl tl sl),(g,aO x)]) _ (by kernel_rfl) (by kernel_rfl) (by kernel_rfl)
      (fun vs=>by simp only[z14,z1a,List.setIfInBounds_toArray,List.set_cons_zero,List.set_cons_succ];exact rfl)
      (by simp only[List.getD_cons_zero,List.getD_cons_succ];exact rfl) HP1.out ?_ ?_
     ·exact⟨
      fun _ _ _ _ hP _=>z0a rfl (.inl rfl) rfl ⟨rfl,hP⟩,
      fun _ _ _ _ hP _=>z1u rfl rfl rfl (SqPh.row (g:=g) (o:=aO x) hP (by simp)) ⟨rfl,hP⟩,
      fun _ _ w1 hA hP _=>z0m rfl rfl rfl (by kernel_rfl) (rgL2 hA.1 rfl) ((HK29.out w1).mono fun _ _ hh=>And.intro hh.1 (SqPh.below hP hh.2)) fun _ hP2=>⟨rfl,hP2⟩,
      fun _ _ _ _ hP _=>zp9 rfl rfl rfl ⟨rfl,hP⟩,
      fun _ _ _ hA hP _=>zf7 rfl rfl hA.1 (SqPh.row (g:=g+1) (o:=chO tt mx bk dl tl sl) hP (by simp)) ⟨rfl,hP⟩,
      fun _ _ _ hA hP hq=>by cases hq 0 rfl;exact z0m rfl rfl rfl (by kernel_rfl) (rgL3 hA.1 hA.2.1 hA.2.2.1) (HS29.out _ _ hP) fun _ hP2=>⟨rfl,hP2⟩,
      trivial⟩
     ·intro W5 hW5;have HR:Hid (QOn w h s29 W5):=HV.done (rs:=[(g+1+1,uO y),(g+1,chO tt mx bk dl tl sl),(g,aO x)]) hW5
      clear hW5 HP1 HK29 HS29;go_wp2_with fail;exact bodyPost_ret_by (results_tmp2 rfl _ _ _) rfl ⟨by rw[HLL.out.1,HLL.out.2.1];rfl,by rw[HLL.out.2.2];exact HR.out⟩
    ·have hb1:(se==0)=false:=by simpa using he
     have HLL:=zh (HL.out.2 he);have HR:=zh (HV.done HV4.out);clear HL he HV4 HK29 HS29;go_wp2_with fail;exact bodyPost_ret_by (results_tmp2 rfl _ _ _) rfl ⟨by rw[HLL.out.1,HLL.out.2.1];rfl,by rw[HLL.out.2.2];exact HR.out⟩
end Go.Proofs.YtnkilceibkkjlaaGreat
