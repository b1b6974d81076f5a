/- What is proved here: the reference's shrink. Conditions:  -/
import Derived.Test.YtnkilceibkkjlaaGreatKRAlG
set_option maxRecDepth 100000
set_option maxHeartbeats 16000000
namespace Go.Proofs.YtnkilceibkkjlaaGreat
open Go.RowKit
theorem FV.zmf{b:Nat}{w W:World}{L:List Nat}{s s':St}{rs:List (Nat × Obj)}(hV:FV b w L s rs W){f:FuncId}{args:Array Value}{E:Ending->Prop}(hC:∀ L',RRep W b s L'->(∀ g o,(g,o)∈rs->g∉L')->Calls Tryz.prog f args W fun e W'=>E e/\ROn W b L' s' W'):Calls Tryz.prog f args W fun e W'=>E e/\FV b w L s' rs W':=by
 obtain⟨L',h1,h2,h3⟩:=hV.on;refine(hC L' h1 h3).mono fun e W' ⟨he,L2,hR2,st⟩=>⟨he,hV.ok,⟨L2,hR2,h2.trans st,fun g o hm hk => ?_⟩,fun g o hm=>⟨hV.le hm,(st.fr.block g (z02 (hV.row hm)) (h3 g o hm)).trans (hV.row hm)⟩⟩
 rcases st.own g hk with h4 | h4
 ·exact h3 g o hm h4
 ·exact absurd (z02 (hV.row hm)) (Nat.not_lt.2 h4)
theorem zq9(w:World)(b:Nat)(L:List Nat)(s:St)(f bk tl:Nat)(dl:Int)(x:I4)(tt mx y:W4)(sl:Bool)(hx:∀ n∈x.l,0<=n/\n<9223372036854775808)(hyo:y.Ok)(hq:RRep w b s L)(hf:s.Fit f)(hm:f<10000000)(hbk:bk<=1099511627776)(htl:tl<=1099511627776)(heb:(ends s 33 [x.1,x.2.1]).2<4611686018427387904)
  (hkey:∀ z∈(z0t (shP s x) x 2 y (bk+tl)).ents,z.1.size<1000000000000) (hN:z6k ((bk+tl:Nat):Int) (dueE (keyL 26 []) (z0t (shP s x) x 2 y (bk+tl)))=dueN (z0t (shP s x) x 2 y (bk+tl)) (bk+tl)) (h27:(z1z (z0t (shP s x) x 2 y (bk+tl)) (bk+tl) x.l).int K27<1000000000000) :
  Calls Tryz.prog 132 #[.pointer (some ⟨b,0,none⟩),idV x,chV tt mx bk dl tl sl,uV y] w fun e w'=>e= .returned (.tuple #[.int .i64 (shN s x bk tl sl),.int .i64 (shE s x y bk tl sl)])/\ROn w b L (shSt s x tt y bk tl sl) w':=by
 have hxo:x.Ok:=fun n hn=>(hx n hn).2
 have hB:=(((FV.start hq).alloc (riO x)).alloc (rchO tt mx bk dl tl sl)).alloc (uO y);simp only[World.size_alloc]at hB;have hfP:(shP s x).Fit (f+4):=zf4 hf _ _ _ _ (by simp);have hf1:(s.z09 (aAll x) (subW (s.amt (aAll x)) y)).Fit (f+2):=hf.z09 _ _;have hz:s.size<1000000000000:=Nat.lt_of_le_of_lt hf.size (by omega);have hz1:(s.z09 (aAll x) (subW (s.amt (aAll x)) y)).size<1000000000000:=Nat.lt_of_le_of_lt hf1.size (by omega)
 have hl2:IdOk [x.1,x.2.1]:=⟨by simp,fun n hn=>hxo n (by
  simp only[List.mem_cons,List.not_mem_nil,or_false]at hn ⊢
  rcases hn with rfl | rfl<;>simp)⟩
 have hl0:∀ n∈[x.1,x.2.1],0<=n:=fun n hn=>(hx n (by
  simp only[List.mem_cons,List.not_mem_nil,or_false]at hn ⊢
  rcases hn with rfl | rfl<;>simp)).1
 have hr0:∀ n∈[x.2.2.1,x.2.2.2],0<=n/\n<9223372036854775808:=fun n hn=>hx n (by
  simp only[List.mem_cons,List.not_mem_nil,or_false]at hn ⊢
  rcases hn with rfl | rfl<;>simp)
 have HEN:Hid (∀ rs W,FV b w L s rs W->Calls Tryz.prog 29 #[.pointer (some ⟨b,0,none⟩),.int .i64 x.1,.int .i64 x.2.1] W fun e w'=>e= .returned (uV (s.amt (aAll x)))/\Below W.heap.size W w'):=fun rs W hV=>by
  obtain⟨L',h1,_⟩:=hV.on;exact z4d W b L' s f x.1 x.2.1 (hxo _ (by simp)) (hxo _ (by simp)) h1 hf (by omega)
 have HOF:Hid (∀ W,Calls Tryz.prog 93 #[.int .i64 x.1,.int .i64 x.2.1] W fun e w'=>e= .returned (.string (aAll x))/\Below W.heap.size W w'):=fun W=>z9b x.1 x.2.1 (hxo _ (by simp)) (hxo _ (by simp)) W
 have HSB:Hid (∀ W,Calls Tryz.prog 22 #[uV (s.amt (aAll x)),uV y] W fun e w'=>e= .returned (.tuple #[uV (subW (s.amt (aAll x)) y),.bool (subB (s.amt (aAll x)) y)])/\Below W.heap.size W w'):=fun W=>za5 _ _ (zb1 _ _) hyo W
 have HSA:Hid (∀ rs W,FV b w L s rs W->Calls Tryz.prog 134 #[.pointer (some ⟨b,0,none⟩),.string (aAll x),uV (subW (s.amt (aAll x)) y)] W fun e w'=>e= .returned (.tuple #[])/\FV b w L (s.z09 (aAll x) (subW (s.amt (aAll x)) y)) rs w'):=fun rs W hV=>hV.cset hz (aAll x) _
 have HK29:Hid (∀ W,Calls Tryz.prog 92 #[.int .i64 29,idV x] W fun e w'=>e= .returned (.string (aKey 29 x))/\Below W.heap.size W w'):=fun W=>z4b 29 (by decide) (by decide) x hxo W
 have HS29:Hid (∀ rs W,FV b w L (s.z09 (aAll x) (subW (s.amt (aAll x)) y)) rs W->Calls Tryz.prog 134 #[.pointer (some ⟨b,0,none⟩),.string (aKey 29 x),uV tt] W fun e w'=>e= .returned (.tuple #[])/\FV b w L ((s.z09 (aAll x) (subW (s.amt (aAll x)) y)).z09 (aKey 29 x) tt) rs w'):=fun rs W hV=>hV.cset hz1 (aKey 29 x) tt
 have HPU:Hid (∀ rs W,FV b w L s rs W->Calls Tryz.prog 196 #[.pointer (some ⟨b,0,none⟩),.int .i64 33,.slice (some ⟨W.heap.size,0,none⟩) 2 2,.int .i64 8,.slice (some ⟨W.heap.size+1,0,none⟩) 2 2] ((W.alloc (.cells #[.int .i64 x.1,.int .i64 x.2.1] 3)).alloc (.cells #[.int .i64 x.2.2.1,.int .i64 x.2.2.2] 3)) fun e w'=>e= .returned (.int .i64 (shPE s x))/\FV b w L (shP s x) rs w'):=fun rs W hV=>by
  have hV2:=(hV.alloc (.cells #[.int .i64 x.1,.int .i64 x.2.1] 3)).alloc (.cells #[.int .i64 x.2.2.1,.int .i64 x.2.2.2] 3);have hr1:=heap_alloc_new W (.cells #[.int .i64 x.1,.int .i64 x.2.1] 3);have hr2:=heap_alloc_new (W.alloc (.cells #[.int .i64 x.1,.int .i64 x.2.1] 3)) (.cells #[.int .i64 x.2.2.1,.int .i64 x.2.2.2] 3);have hr1':((W.alloc (.cells #[.int .i64 x.1,.int .i64 x.2.1] 3)).alloc (.cells #[.int .i64 x.2.2.1,.int .i64 x.2.2.2] 3)).heap[W.heap.size]?=some (.cells #[.int .i64 x.1,.int .i64 x.2.1] 3):=by
   rw[heap_alloc_old _ _ (by simp)];exact hr1
  rw[World.size_alloc]at hr2 hV2;have hC:=FV.zmf hV2 (s':=shP s x) (f:=196) (args:=#[.pointer (some ⟨b,0,none⟩),.int .i64 33,.slice (some ⟨W.heap.size,0,none⟩) 2 2,.int .i64 8,.slice (some ⟨W.heap.size+1,0,none⟩) 2 2]) (E:=fun e=>e= .returned (.int .i64 (shPE s x))) fun L' h1 hn =>
   zrv _ b L' s f 33 (by decide) (by decide) (.slice (some ⟨W.heap.size,0,none⟩) 2 2) (.slice (some ⟨W.heap.size+1,0,none⟩) 2 2) [x.1,x.2.1] [x.2.2.1,x.2.2.2] 8 (z2u _ _ _ _ hr1') (fun k hk=>by
    have hk':W.heap.size=k:=by simpa [Value.ownBlock]using hk
    subst hk'
    exact hn _ (.cells #[.int .i64 x.1,.int .i64 x.2.1] 3) (by simp)) hl2 hl0 (z2u _ _ _ _ hr2) (fun k hk=>by
    have hk':W.heap.size+1=k:=by simpa [Value.ownBlock]using hk
    subst hk'
    exact hn _ (.cells #[.int .i64 x.2.2.1,.int .i64 x.2.2.2] 3) (by simp)) (by simp) (by simp) hr0 (by decide) heb h1 hf (by omega)
  exact hC.mono fun e w' ⟨he,hv⟩=>⟨he,QV.less hv fun _ hm=>List.mem_cons_of_mem _ (List.mem_cons_of_mem _ hm)⟩
 have HWT:Hid (∀ rs W,FV b w L (shP s x) rs W->Calls Tryz.prog 195 #[.pointer (some ⟨b,0,none⟩),idV x,.int .i64 2,uV y,.int .i64 ((bk+tl:Nat):Int)] W fun e w'=>e= .returned (.int .i64 (z3h (bk+tl)))/\FV b w L (z19 (shP s x) x 2 y (bk+tl)) rs w'):=fun rs W hV =>
  QV.call hV fun L' h1=>zoy W b L' (shP s x) (f+4) 2 (bk+tl) x y hx h1 hfP (by omega) (by decide) (by omega) hkey hN h27
 have hE:(subB (s.amt (aAll x)) y=false->shSE s x y=13)/\(subB (s.amt (aAll x)) y=true->shSE s x y=0):=by
  unfold shSE subB z2t;refine⟨fun h => ?_,fun h => ?_⟩
  ·rw[if_neg (by simpa using h)]
  ·rw[if_pos (by simpa using h)]
 have HLAW:Hid ((shW sl tl=true->(shPE s x=0->((shN s x bk tl sl:Nat):Int)=((bk+tl:Nat):Int)/\shE s x y bk tl sl=z3h (bk+tl)/\shSt s x tt y bk tl sl=z19 (shP s x) x 2 y (bk+tl))/\(shPE s x≠0->shN s x bk tl sl=0/\shE s x y bk tl sl=shPE s x/\shSt s x tt y bk tl sl=shP s x)) /\
   (shW sl tl=false->(subB (s.amt (aAll x)) y=true->shN s x bk tl sl=0/\shE s x y bk tl sl=0/\shSt s x tt y bk tl sl=(s.z09 (aAll x) (subW (s.amt (aAll x)) y)).z09 (aKey 29 x) tt)/\(subB (s.amt (aAll x)) y=false->shN s x bk tl sl=0/\shE s x y bk tl sl=13/\shSt s x tt y bk tl sl=s))):=by
  unfold shN shE shSt;refine⟨fun hb=>⟨fun h0 => ?_,fun h0 => ?_⟩,fun hb=>⟨fun h0 => ?_,fun h0 => ?_⟩⟩
  ·simp[hb,h0]
  ·simp[hb,h0]
  ·simp[hb,hE.2 h0,shS1]
  ·simp[hb,hE.1 h0,shS1]
 have HWW:Hid (shW sl tl=(sl&&decide (0<tl))):=rfl;have hsum:wrap64 ((bk:Int)+(tl:Int))=((bk+tl:Nat):Int):=by unfold wrap64;omega
 have HSUM:=zh hsum;have HB:=zh hB;clear hE hB hfP hf1 hz hz1 hl2 hl0 hr0 hq hf hx hxo hyo hm hbk htl hkey hN h27 heb hsum;generalize shN s x bk tl sl=rN at *
 generalize shE s x y bk tl sl=rE at *
 generalize shSt s x tt y bk tl sl=rS at *
 generalize z19 (shP s x) x 2 y (bk+tl)=sW at *
 generalize z3h (bk+tl)=we at *
 generalize ((bk+tl:Nat):Int)=bd at *
 generalize (s.z09 (aAll x) (subW (s.amt (aAll x)) y)).z09 (aKey 29 x) tt=s29 at *
 generalize s.z09 (aAll x) (subW (s.amt (aAll x)) y)=s1 at *
 generalize shPE s x=pe at *
 generalize shP s x=sP at *
 generalize shW sl tl=wb at *
 generalize subW (s.amt (aAll x)) y=sm at *
 generalize subB (s.amt (aAll x)) y=sb at *
 generalize s.amt (aAll x)=eA at *
 generalize aAll x=kA at *
 generalize aKey 29 x=k29 at *
 go_enter Tryz.func132,Tryz.ntmps132;go_upto_region 1 with fail;generalize ((w.alloc (riO x)).alloc (rchO tt mx bk dl tl sl)).alloc (uO y)=wA at *
 obtain⟨g,hg⟩:∃ g,g=w.heap.size:=⟨_,rfl⟩;rw[<- hg]at HB ⊢;clear hg;obtain⟨a0,a1,a2,a3,b0,b1,b2,b3,x8,y9,za,tb⟩:=z1f (HB.out.row (g:=g+1) (o:=rchO tt mx bk dl tl sl) (by simp));obtain⟨i0,i1,i2,i3⟩:=z0g (x:=x) (HB.out.row (g:=g) (o:=riO x) (by simp))
 by_cases hsw:sl=true/\0<tl
 ·obtain⟨hsl,htl⟩:=hsw;rw[hsl]at tb;have hgt:decide ((0:Int)<(tl:Int))=true:=decide_eq_true (by omega);have hgn:(0<tl)=True:=eq_true htl;have HL:=zh (HLAW.out.1 (by rw[HWW.out,hsl,decide_eq_true htl];rfl));have HPU2:=zh (HPU.out _ _ HB.out);obtain⟨_,_,j2,j3⟩:=z0g (x:=x) ((HB.out.alloc (.cells #[.int .i64 x.1,.int .i64 x.2.1] 3)).row (g:=g) (o:=riO x) (by simp));clear HLAW HWW htl HSB HK29 HS29 HOF HEN HSA HPU;go_wp2_with fail;refine zm HPU2.out ?_;rintro e w3 ⟨rfl,hB3⟩;have HB3:=zh hB3;clear hB3 HPU2 HB a0 a1 a2 a3 b0 b1 b2 b3 x8 y9 za tb i0 i1 i2 i3 j2 j3
  by_cases hpe:pe=0
  ·have hp0:(pe != 0)=false:=by simp[hpe]
   have HLL:=zh (HL.out.1 hpe);clear HL hpe;go_upto_region 5 with fail;have HP1:Hid (FSq b w L sP sW [(g+1+1,uO y),(g+1,rchO tt mx bk dl tl sl),(g,riO x)] 0 w3.drew):=HB3.out.drew;clear HB3;refine z06 [[],[0],[],[2],[1,3],[],[],[],[],[8],[],[10],[9,11],[5,6,7,12],[4],[13]]
    [.pointer (some ⟨g+1,8,none⟩),.int .i64 (bk:Int),.pointer (some ⟨g+1,10,none⟩),.int .i64 (tl:Int),.int .i64 bd,.pointer (some ⟨b,0,none⟩),idV x,uV y,.pointer (some ⟨g+1,8,none⟩),.int .i64 (bk:Int),.pointer (some ⟨g+1,10,none⟩),.int .i64 (tl:Int),.int .i64 bd,.int .i64 we,.int .i64 bd,.int .i64 we]
    [13] (FSq b w L sP sW [(g+1+1,uO y),(g+1,rchO tt mx bk dl tl sl),(g,riO x)]) _ (by kernel_rfl) (by kernel_rfl) (by kernel_rfl)
    (fun vs=>by simp only[z14,z1a,List.setIfInBounds_toArray,List.set_cons_zero,List.set_cons_succ];exact rfl)
    (by simp only[List.getD_cons_zero,List.getD_cons_succ];exact rfl) HP1.out ?_ ?_
   ·exact⟨
    fun _ _ _ _ hP _=>zl5 rfl rfl rfl ⟨rfl,hP⟩,
    fun _ _ _ hA hP _=>z0u rfl rfl hA.1 (z1f (FSq.row (g:=g+1) (o:=rchO tt mx bk dl tl sl) hP (by simp))).x8 ⟨rfl,hP⟩,
    fun _ _ _ _ hP _=>zul rfl rfl rfl ⟨rfl,hP⟩,
    fun _ _ _ hA hP _=>z0u rfl rfl hA.1 (z1f (FSq.row (g:=g+1) (o:=rchO tt mx bk dl tl sl) hP (by simp))).za ⟨rfl,hP⟩,
    fun _ _ _ hA hP _=>zfa rfl rfl hA.1 hA.2.1 HSUM.out ⟨rfl,hP⟩,
    fun _ _ _ _ hP _=>z0a rfl (.inl rfl) rfl ⟨rfl,hP⟩,
    fun _ _ _ _ hP _=>z3g rfl rfl rfl (FSq.row (g:=g) (o:=riO x) hP (by simp)) ⟨rfl,hP⟩,
    fun _ _ _ _ hP _=>z0p rfl rfl rfl (FSq.row (g:=g+1+1) (o:=uO y) hP (by simp)) ⟨rfl,hP⟩,
    fun _ _ _ _ hP _=>zl5 rfl rfl rfl ⟨rfl,hP⟩,
    fun _ _ _ hA hP _=>z0u rfl rfl hA.1 (z1f (FSq.row (g:=g+1) (o:=rchO tt mx bk dl tl sl) hP (by simp))).x8 ⟨rfl,hP⟩,
    fun _ _ _ _ hP _=>zul rfl rfl rfl ⟨rfl,hP⟩,
    fun _ _ _ hA hP _=>z0u rfl rfl hA.1 (z1f (FSq.row (g:=g+1) (o:=rchO tt mx bk dl tl sl) hP (by simp))).za ⟨rfl,hP⟩,
    fun _ _ _ hA hP _=>zfa rfl rfl hA.1 hA.2.1 HSUM.out ⟨rfl,hP⟩,
    fun _ _ _ hA hP hq=>by cases hq 0 rfl;exact z0m rfl rfl rfl (by kernel_rfl) (rgL5 hA.1 hA.2.1 rfl hA.2.2.1 hA.2.2.2.1) (HWT.out _ _ hP) fun _ hP2=>⟨rfl,hP2⟩,
    fun _ _ _ hA hP _=>z0a rfl (.inr rfl) hA.1 ⟨rfl,hP⟩,
    fun _ _ _ hA hP _=>z0a rfl (.inr rfl) hA.1 ⟨rfl,hP⟩,
    trivial⟩
   ·intro W5 hW5;have HR:Hid (ROn w b L sW W5):=FV.done (rs:=[(g+1+1,uO y),(g+1,rchO tt mx bk dl tl sl),(g,riO x)]) hW5
    clear hW5 HP1 HWT;go_wp2_with fail;exact bodyPost_ret_by (results_tmp2 rfl _ _ _) rfl ⟨by rw[HLL.out.1,HLL.out.2.1];rfl,by rw[HLL.out.2.2];exact HR.out⟩
  ·have hp0:(pe != 0)=true:=by simp[hpe]
   have HLL:=zh (HL.out.2 hpe);clear HL hpe;go_wp2_with fail;exact bodyPost_ret_by (results_tmp2 rfl _ _ _) rfl ⟨by rw[HLL.out.1,HLL.out.2.1];rfl,by rw[HLL.out.2.2];exact FV.done HB3.out⟩
 ·have HL:Hid ((sb=true->rN=0/\rE=0/\rS=s29)/\(sb=false->rN=0/\rE=13/\rS=s)):=HLAW.out.2 (by
   rw[HWW.out];cases hs:sl with
   | false=>rfl
   | true=>rw[decide_eq_false (fun h=>hsw ⟨hs,h⟩)];rfl)
  have HB9:=zh (z0h (Below.refl wA.heap.size wA));clear HLAW HWW HPU HWT;have hgo:(sl=false)\/(sl=true/\decide ((0:Int)<(tl:Int))=false/\(0<tl)=False):=by
   cases hs:sl with
   | false=>exact .inl rfl
   | true=>exact .inr ⟨rfl,decide_eq_false (fun h=>hsw ⟨hs,by omega⟩),eq_false (fun h=>hsw ⟨hs,h⟩)⟩
  clear hsw;go_upto_region 1 with fail;rcases hgo with hs | ⟨hs,hgt,hgn⟩
  ·rw[hs]at tb;go_upto_region 6 with fail;clear a0 a1 a2 a3 b0 b1 b2 b3 x8 y9 za tb i0 i1 i2 i3;refine z1g [[],[],[1],[],[3],[0,1,2,3,4],[],[0,1,2,3,4,5,6],[0,1,2,3,4,5,6,7],[0,1,2,3,4,5,6,7,8],[0,1,2,3,4,5,6,7,8],[],[0,1,2,3,4,5,6,7,8,9,11],[0,1,2,3,4,5,6,7,8,9,10,11,12]]
    [rgC (Below wA.heap.size wA),rgV 0 (.pointer (some ⟨b,0,none⟩)),rgV 1 (.pointer (some ⟨g,0,none⟩)),rgV 2 (.int .i64 x.1),rgV 3 (.pointer (some ⟨g,1,none⟩)),rgV 4 (.int .i64 x.2.1),rgV 5 (uV eA),rgV 6 (uV y),rgV 7 (.tuple #[uV sm,.bool sb]),rgV 8 (.tuple #[uV sm,.bool sb]),rgV 9 (uV sm),rgV 10 (.bool sb),rgP 11 (wA.heap.size),rgV 13 (.bool sb),rgS 11 12 (sm)] _ (by kernel_rfl) (by kernel_rfl) (by kernel_rfl)
    (fun vs=>by simp only[z14,z1a,List.setIfInBounds_toArray,List.set_cons_zero,List.set_cons_succ];exact rfl)
    ⟨fun _ _ _ hb h=>z0b h hb,z0e,z0e,z0e,z0e,z0e,z0e,z0e,z0e,z0e,z0e,z0e,zay,z0e,zb4,trivial⟩ ?_ ?_ ?_
   ·refine z3k rfl HB9.out ?_;iterate 14 refine z4l rfl ?_
    exact trivial
   ·refine⟨?_,?_,?_,?_,?_,?_,?_,?_,?_,?_,?_,?_,?_,?_,trivial⟩
    ·intro vs w2 hA K hK;obtain⟨_,_⟩:=hA;refine z0a rfl (.inl rfl) rfl (hK _ _ (.inl zb) ?_);exact z07 1
    ·intro vs w2 hA K hK;obtain⟨_,_⟩:=hA;refine z8s rfl rfl rfl (hK _ _ (.inl zb) ?_);exact z07 2
    ·intro vs w2 hA K hK;obtain⟨hC,e1,_⟩:=hA;refine z0u rfl rfl (rg1 e1) (z0g ((HB.out.below hC).row (g:=g) (o:=riO x) (by simp))).1 (hK _ _ (.inl zb) ?_);exact z07 3
    ·intro vs w2 hA K hK;obtain⟨_,_⟩:=hA;refine z8n rfl rfl rfl (hK _ _ (.inl zb) ?_);exact z07 4
    ·intro vs w2 hA K hK;obtain⟨hC,e3,_⟩:=hA;refine z0u rfl rfl (rg1 e3) (z0g ((HB.out.below hC).row (g:=g) (o:=riO x) (by simp))).2.1 (hK _ _ (.inl zb) ?_);exact z07 5
    ·intro vs w2 hA K hK;obtain⟨hC,e0,_,e2,_,e4,_⟩:=hA;refine z4w rfl rfl rfl (by kernel_rfl) (show [vs 0,vs 2,vs 4]=_ from by rw[rg1 e0,rg1 e2,rg1 e4]) (zm (HEN.out _ _ (HB.out.below hC)) ?_);rintro e w2 ⟨rfl,hb⟩;refine⟨_,rfl,hK _ _ (.inl hb) ?_⟩;exact z07 6
    ·intro vs w2 hA K hK;obtain⟨hC,_⟩:=hA;refine z0p rfl rfl rfl ((HB.out.below hC).u4 (g:=g+1+1) (x:=y) (by simp)) (hK _ _ (.inl zb) ?_);exact z07 7
    ·intro vs w2 hA K hK;obtain⟨_,_,_,_,_,_,e5,e6,_⟩:=hA;refine z4w rfl rfl rfl (by kernel_rfl) (show [vs 5,vs 6]=_ from by rw[rg1 e5,rg1 e6]) (zm (HSB.out _) ?_);rintro e w2 ⟨rfl,hb⟩;refine⟨_,rfl,hK _ _ (.inl hb) ?_⟩;exact z07 8
    ·intro vs w2 hA K hK;obtain⟨_,_,_,_,_,_,_,_,e7,_⟩:=hA;refine z0a rfl (.inl rfl) (rg1 e7) (hK _ _ (.inl zb) ?_);exact z07 9
    ·intro vs w2 hA K hK;obtain⟨_,_,_,_,_,_,_,_,_,e8,_⟩:=hA;refine z0x rfl rfl (rg1 e8) rfl (hK _ _ (.inl zb) ?_);exact z07 10
    ·intro vs w2 hA K hK;obtain⟨_,_,_,_,_,_,_,_,_,e8,_⟩:=hA;refine z0x rfl rfl (rg1 e8) rfl (hK _ _ (.inl zb) ?_);exact z07 11
    ·intro vs w2 hA K hK;obtain⟨hC,_⟩:=hA;refine z4n rfl rfl (hK _ _ (.inl (z00 zb _)) ?_);iterate 12 refine z0v rfl ?_
     refine z18 rfl (fun _=>⟨_,_,rfl,hC.size,heap_alloc_new _ _⟩) ?_;iterate 2 refine z0v rfl ?_
     exact trivial
    ·intro vs w2 hA K hK;obtain⟨hC,_,_,_,_,_,_,_,_,_,e9,⟨_,_,e11,h11,g11⟩,_⟩:=hA;refine z2v rfl rfl (rg1 e11) (rg1 e9) g11 (hK _ _ (.inr ?_) ?_)
     ·refine z0k rfl (fun hC _=>bput hC h11) ?_;iterate 11 refine z0k rfl (fun h _=>h) ?_
      refine z0k rfl (fun h _=>z5y h) ?_;iterate 2 refine z2y rfl ?_
      exact trivial
     ·iterate 14 refine z0v rfl ?_
      refine z18 rfl (fun _=>⟨_,_,by show [vs 11,undef]=_;rw[rg1 e11],setRow_heap _ _ _ _ _ _ g11⟩) ?_;exact trivial
    ·intro vs w2 hA K hK;obtain⟨_,_,_,_,_,_,_,_,_,_,_,e10,_,_,_⟩:=hA;refine z0a rfl (.inr rfl) (rg1 e10) (hK _ _ (.inl zb) ?_);exact z07 13
   ·intro vs w2 hA;obtain⟨hC,e0,e1,e2,e3,e4,e5,e6,e7,e8,e9,e10,⟨p11,_,e11,h11,g11⟩,e13,s12,_⟩:=hA;have e0:=rg1 e0;have e1:=rg1 e1;have e2:=rg1 e2;have e3:=rg1 e3;have e4:=rg1 e4;have e5:=rg1 e5;have e6:=rg1 e6;have e7:=rg1 e7;have e8:=rg1 e8;have e9:=rg1 e9;have e10:=rg1 e10;have e11:=rg1 e11;have e13:=rg1 e13;have s12:=zb6 s12 e11;simp only[e0,e1,e2,e3,e4,e5,e6,e7,e8,e9,e10,e11,e13];have HB2:=zh (HB.out.add1 hC h11 s12);clear e0 e1 e2 e3 e4 e5 e6 e7 e8 e9 e10 e13 g11 s12 h11 hC HEN HSB HB9 HB;cases sb with
    | false =>
     have HLL:=zh (HL.out.2 rfl);clear HL HSA HK29 HS29 HOF;go_wp2_with fail;exact bodyPost_ret_by (results_tmp2 rfl _ _ _) rfl ⟨by rw[HLL.out.1,HLL.out.2.1];rfl,by rw[HLL.out.2.2];exact FV.done HB2.out⟩
    | true =>
     have HLL:=zh (HL.out.1 rfl);clear HL;go_upto_region 9 with fail;have HP0:Hid (FSq b w L s s1 [(p11,uO sm),(g+1+1,uO y),(g+1,rchO tt mx bk dl tl sl),(g,riO x)] 0 _):=HB2.out.drew;clear HB2;refine z06 [[],[],[1],[],[3],[2,4],[],[0,5,6]]
      [.pointer (some ⟨b,0,none⟩),.pointer (some ⟨g,0,none⟩),.int .i64 x.1,.pointer (some ⟨g,1,none⟩),.int .i64 x.2.1,.string kA,uV sm,.tuple #[]]
      [7] (FSq b w L s s1 [(p11,uO sm),(g+1+1,uO y),(g+1,rchO tt mx bk dl tl sl),(g,riO x)]) _ (by kernel_rfl) (by kernel_rfl) (by kernel_rfl)
      (fun vs=>by simp only[z14,z1a,List.setIfInBounds_toArray,List.set_cons_zero,List.set_cons_succ];exact rfl)
      (by simp only[List.getD_cons_zero,List.getD_cons_succ];exact rfl) HP0.out ?_ ?_
     ·exact⟨
      fun _ _ _ _ hP _=>z0a rfl (.inl rfl) rfl ⟨rfl,hP⟩,
      fun _ _ _ _ hP _=>z8s rfl rfl rfl ⟨rfl,hP⟩,
      fun _ _ _ hA hP _=>z0u rfl rfl hA.1 (z0g (FSq.row (g:=g) (o:=riO x) hP (by simp))).1 ⟨rfl,hP⟩,
      fun _ _ _ _ hP _=>z8n rfl rfl rfl ⟨rfl,hP⟩,
      fun _ _ _ hA hP _=>z0u rfl rfl hA.1 (z0g (FSq.row (g:=g) (o:=riO x) hP (by simp))).2.1 ⟨rfl,hP⟩,
      fun _ _ w1 hA hP _=>z0m rfl rfl rfl (by kernel_rfl) (rgL2 hA.1 hA.2.1) ((HOF.out w1).mono fun _ _ hh=>And.intro hh.1 (FSq.below hP hh.2)) fun _ hP2=>⟨rfl,hP2⟩,
      fun _ _ _ _ hP _=>z0p rfl rfl rfl (FSq.row (g:=p11) (o:=uO sm) hP (by simp)) ⟨rfl,hP⟩,
      fun _ _ _ hA hP hq=>by cases hq 0 rfl;exact z0m rfl rfl rfl (by kernel_rfl) (rgL3 hA.1 hA.2.1 hA.2.2.1) (HSA.out _ _ hP) fun _ hP2=>⟨rfl,hP2⟩,
      trivial⟩
     ·intro W4 hW4;have HV4:Hid (FV b w L s1 [(p11,uO sm),(g+1+1,uO y),(g+1,rchO tt mx bk dl tl sl),(g,riO x)] W4):=hW4;clear hW4 HP0 HSA HOF;go_upto_region 10 with fail;have HP1:Hid (FSq b w L s1 s29 [(p11,uO sm),(g+1+1,uO y),(g+1,rchO tt mx bk dl tl sl),(g,riO x)] 0 W4.drew):=HV4.out.drew;clear HV4;refine z06 [[],[],[1],[],[3],[0,2,4]]
       [.pointer (some ⟨b,0,none⟩),idV x,.string k29,.pointer (some ⟨g+1,0,none⟩),uV tt,.tuple #[]]
       [5] (FSq b w L s1 s29 [(p11,uO sm),(g+1+1,uO y),(g+1,rchO tt mx bk dl tl sl),(g,riO x)]) _ (by kernel_rfl) (by kernel_rfl) (by kernel_rfl)
       (fun vs=>by simp only[z14,z1a,List.setIfInBounds_toArray,List.set_cons_zero,List.set_cons_succ];exact rfl)
       (by simp only[List.getD_cons_zero,List.getD_cons_succ];exact rfl) HP1.out ?_ ?_
      ·exact⟨
       fun _ _ _ _ hP _=>z0a rfl (.inl rfl) rfl ⟨rfl,hP⟩,
       fun _ _ _ _ hP _=>z3g rfl rfl rfl (FSq.row (g:=g) (o:=riO x) hP (by simp)) ⟨rfl,hP⟩,
       fun _ _ w1 hA hP _=>z0m rfl rfl rfl (by kernel_rfl) (rgL2 rfl hA.1) ((HK29.out w1).mono fun _ _ hh=>And.intro hh.1 (FSq.below hP hh.2)) fun _ hP2=>⟨rfl,hP2⟩,
       fun _ _ _ _ hP _=>zo4 rfl rfl rfl ⟨rfl,hP⟩,
       fun _ _ _ hA hP _=>zcc rfl rfl hA.1 (FSq.row (g:=g+1) (o:=rchO tt mx bk dl tl sl) hP (by simp)) ⟨rfl,hP⟩,
       fun _ _ _ hA hP hq=>by cases hq 0 rfl;exact z0m rfl rfl rfl (by kernel_rfl) (rgL3 hA.1 hA.2.1 hA.2.2.1) (HS29.out _ _ hP) fun _ hP2=>⟨rfl,hP2⟩,
       trivial⟩
      ·intro W5 hW5;have HR:Hid (ROn w b L s29 W5):=FV.done (rs:=[(p11,uO sm),(g+1+1,uO y),(g+1,rchO tt mx bk dl tl sl),(g,riO x)]) hW5
       clear hW5 HP1 HK29 HS29;go_wp2_with fail;exact bodyPost_ret_by (results_tmp2 rfl _ _ _) rfl ⟨by rw[HLL.out.1,HLL.out.2.1];rfl,by rw[HLL.out.2.2];exact HR.out⟩
  ·rw[hs]at tb;go_upto_region 6 with fail;clear a0 a1 a2 a3 b0 b1 b2 b3 x8 y9 za tb i0 i1 i2 i3;refine z1g [[],[],[1],[],[3],[0,1,2,3,4],[],[0,1,2,3,4,5,6],[0,1,2,3,4,5,6,7],[0,1,2,3,4,5,6,7,8],[0,1,2,3,4,5,6,7,8],[],[0,1,2,3,4,5,6,7,8,9,11],[0,1,2,3,4,5,6,7,8,9,10,11,12]]
    [rgC (Below wA.heap.size wA),rgV 0 (.pointer (some ⟨b,0,none⟩)),rgV 1 (.pointer (some ⟨g,0,none⟩)),rgV 2 (.int .i64 x.1),rgV 3 (.pointer (some ⟨g,1,none⟩)),rgV 4 (.int .i64 x.2.1),rgV 5 (uV eA),rgV 6 (uV y),rgV 7 (.tuple #[uV sm,.bool sb]),rgV 8 (.tuple #[uV sm,.bool sb]),rgV 9 (uV sm),rgV 10 (.bool sb),rgP 11 (wA.heap.size),rgV 13 (.bool sb),rgS 11 12 (sm)] _ (by kernel_rfl) (by kernel_rfl) (by kernel_rfl)
    (fun vs=>by simp only[z14,z1a,List.setIfInBounds_toArray,List.set_cons_zero,List.set_cons_succ];exact rfl)
    ⟨fun _ _ _ hb h=>z0b h hb,z0e,z0e,z0e,z0e,z0e,z0e,z0e,z0e,z0e,z0e,z0e,zay,z0e,zb4,trivial⟩ ?_ ?_ ?_
   ·refine z3k rfl HB9.out ?_;iterate 14 refine z4l rfl ?_
    exact trivial
   ·refine⟨?_,?_,?_,?_,?_,?_,?_,?_,?_,?_,?_,?_,?_,?_,trivial⟩
    ·intro vs w2 hA K hK;obtain⟨_,_⟩:=hA;refine z0a rfl (.inl rfl) rfl (hK _ _ (.inl zb) ?_);exact z07 1
    ·intro vs w2 hA K hK;obtain⟨_,_⟩:=hA;refine z8s rfl rfl rfl (hK _ _ (.inl zb) ?_);exact z07 2
    ·intro vs w2 hA K hK;obtain⟨hC,e1,_⟩:=hA;refine z0u rfl rfl (rg1 e1) (z0g ((HB.out.below hC).row (g:=g) (o:=riO x) (by simp))).1 (hK _ _ (.inl zb) ?_);exact z07 3
    ·intro vs w2 hA K hK;obtain⟨_,_⟩:=hA;refine z8n rfl rfl rfl (hK _ _ (.inl zb) ?_);exact z07 4
    ·intro vs w2 hA K hK;obtain⟨hC,e3,_⟩:=hA;refine z0u rfl rfl (rg1 e3) (z0g ((HB.out.below hC).row (g:=g) (o:=riO x) (by simp))).2.1 (hK _ _ (.inl zb) ?_);exact z07 5
    ·intro vs w2 hA K hK;obtain⟨hC,e0,_,e2,_,e4,_⟩:=hA;refine z4w rfl rfl rfl (by kernel_rfl) (show [vs 0,vs 2,vs 4]=_ from by rw[rg1 e0,rg1 e2,rg1 e4]) (zm (HEN.out _ _ (HB.out.below hC)) ?_);rintro e w2 ⟨rfl,hb⟩;refine⟨_,rfl,hK _ _ (.inl hb) ?_⟩;exact z07 6
    ·intro vs w2 hA K hK;obtain⟨hC,_⟩:=hA;refine z0p rfl rfl rfl ((HB.out.below hC).u4 (g:=g+1+1) (x:=y) (by simp)) (hK _ _ (.inl zb) ?_);exact z07 7
    ·intro vs w2 hA K hK;obtain⟨_,_,_,_,_,_,e5,e6,_⟩:=hA;refine z4w rfl rfl rfl (by kernel_rfl) (show [vs 5,vs 6]=_ from by rw[rg1 e5,rg1 e6]) (zm (HSB.out _) ?_);rintro e w2 ⟨rfl,hb⟩;refine⟨_,rfl,hK _ _ (.inl hb) ?_⟩;exact z07 8
    ·intro vs w2 hA K hK;obtain⟨_,_,_,_,_,_,_,_,e7,_⟩:=hA;refine z0a rfl (.inl rfl) (rg1 e7) (hK _ _ (.inl zb) ?_);exact z07 9
    ·intro vs w2 hA K hK;obtain⟨_,_,_,_,_,_,_,_,_,e8,_⟩:=hA;refine z0x rfl rfl (rg1 e8) rfl (hK _ _ (.inl zb) ?_);exact z07 10
    ·intro vs w2 hA K hK;obtain⟨_,_,_,_,_,_,_,_,_,e8,_⟩:=hA;refine z0x rfl rfl (rg1 e8) rfl (hK _ _ (.inl zb) ?_);exact z07 11
    ·intro vs w2 hA K hK;obtain⟨hC,_⟩:=hA;refine z4n rfl rfl (hK _ _ (.inl (z00 zb _)) ?_);iterate 12 refine z0v rfl ?_
     refine z18 rfl (fun _=>⟨_,_,rfl,hC.size,heap_alloc_new _ _⟩) ?_;iterate 2 refine z0v rfl ?_
     exact trivial
    ·intro vs w2 hA K hK;obtain⟨hC,_,_,_,_,_,_,_,_,_,e9,⟨_,_,e11,h11,g11⟩,_⟩:=hA;refine z2v rfl rfl (rg1 e11) (rg1 e9) g11 (hK _ _ (.inr ?_) ?_)
     ·refine z0k rfl (fun hC _=>bput hC h11) ?_;iterate 11 refine z0k rfl (fun h _=>h) ?_
      refine z0k rfl (fun h _=>z5y h) ?_;iterate 2 refine z2y rfl ?_
      exact trivial
     ·iterate 14 refine z0v rfl ?_
      refine z18 rfl (fun _=>⟨_,_,by show [vs 11,undef]=_;rw[rg1 e11],setRow_heap _ _ _ _ _ _ g11⟩) ?_;exact trivial
    ·intro vs w2 hA K hK;obtain⟨_,_,_,_,_,_,_,_,_,_,_,e10,_,_,_⟩:=hA;refine z0a rfl (.inr rfl) (rg1 e10) (hK _ _ (.inl zb) ?_);exact z07 13
   ·intro vs w2 hA;obtain⟨hC,e0,e1,e2,e3,e4,e5,e6,e7,e8,e9,e10,⟨p11,_,e11,h11,g11⟩,e13,s12,_⟩:=hA;have e0:=rg1 e0;have e1:=rg1 e1;have e2:=rg1 e2;have e3:=rg1 e3;have e4:=rg1 e4;have e5:=rg1 e5;have e6:=rg1 e6;have e7:=rg1 e7;have e8:=rg1 e8;have e9:=rg1 e9;have e10:=rg1 e10;have e11:=rg1 e11;have e13:=rg1 e13;have s12:=zb6 s12 e11;simp only[e0,e1,e2,e3,e4,e5,e6,e7,e8,e9,e10,e11,e13];have HB2:=zh (HB.out.add1 hC h11 s12);clear e0 e1 e2 e3 e4 e5 e6 e7 e8 e9 e10 e13 g11 s12 h11 hC HEN HSB HB9 HB;cases sb with
    | false =>
     have HLL:=zh (HL.out.2 rfl);clear HL HSA HK29 HS29 HOF;go_wp2_with fail;exact bodyPost_ret_by (results_tmp2 rfl _ _ _) rfl ⟨by rw[HLL.out.1,HLL.out.2.1];rfl,by rw[HLL.out.2.2];exact FV.done HB2.out⟩
    | true =>
     have HLL:=zh (HL.out.1 rfl);clear HL;go_upto_region 9 with fail;have HP0:Hid (FSq b w L s s1 [(p11,uO sm),(g+1+1,uO y),(g+1,rchO tt mx bk dl tl sl),(g,riO x)] 0 _):=HB2.out.drew;clear HB2;refine z06 [[],[],[1],[],[3],[2,4],[],[0,5,6]]
      [.pointer (some ⟨b,0,none⟩),.pointer (some ⟨g,0,none⟩),.int .i64 x.1,.pointer (some ⟨g,1,none⟩),.int .i64 x.2.1,.string kA,uV sm,.tuple #[]]
      [7] (FSq b w L s s1 [(p11,uO sm),(g+1+1,uO y),(g+1,rchO tt mx bk dl tl sl),(g,riO x)]) _ (by kernel_rfl) (by kernel_rfl) (by kernel_rfl)
      (fun vs=>by simp only[z14,z1a,List.setIfInBounds_toArray,List.set_cons_zero,List.set_cons_succ];exact rfl)
      (by simp only[List.getD_cons_zero,List.getD_cons_succ];exact rfl) HP0.out ?_ ?_
     ·exact⟨
      fun _ _ _ _ hP _=>z0a rfl (.inl rfl) rfl ⟨rfl,hP⟩,
      fun _ _ _ _ hP _=>z8s rfl rfl rfl ⟨rfl,hP⟩,
      fun _ _ _ hA hP _=>z0u rfl rfl hA.1 (z0g (FSq.row (g:=g) (o:=riO x) hP (by simp))).1 ⟨rfl,hP⟩,
      fun _ _ _ _ hP _=>z8n rfl rfl rfl ⟨rfl,hP⟩,
      fun _ _ _ hA hP _=>z0u rfl rfl hA.1 (z0g (FSq.row (g:=g) (o:=riO x) hP (by simp))).2.1 ⟨rfl,hP⟩,
      fun _ _ w1 hA hP _=>z0m rfl rfl rfl (by kernel_rfl) (rgL2 hA.1 hA.2.1) ((HOF.out w1).mono fun _ _ hh=>And.intro hh.1 (FSq.below hP hh.2)) fun _ hP2=>⟨rfl,hP2⟩,
      fun _ _ _ _ hP _=>z0p rfl rfl rfl (FSq.row (g:=p11) (o:=uO sm) hP (by simp)) ⟨rfl,hP⟩,
      fun _ _ _ hA hP hq=>by cases hq 0 rfl;exact z0m rfl rfl rfl (by kernel_rfl) (rgL3 hA.1 hA.2.1 hA.2.2.1) (HSA.out _ _ hP) fun _ hP2=>⟨rfl,hP2⟩,
      trivial⟩
     ·intro W4 hW4;have HV4:Hid (FV b w L s1 [(p11,uO sm),(g+1+1,uO y),(g+1,rchO tt mx bk dl tl sl),(g,riO x)] W4):=hW4;clear hW4 HP0 HSA HOF;go_upto_region 10 with fail;have HP1:Hid (FSq b w L s1 s29 [(p11,uO sm),(g+1+1,uO y),(g+1,rchO tt mx bk dl tl sl),(g,riO x)] 0 W4.drew):=HV4.out.drew;clear HV4;refine z06 [[],[],[1],[],[3],[0,2,4]]
       [.pointer (some ⟨b,0,none⟩),idV x,.string k29,.pointer (some ⟨g+1,0,none⟩),uV tt,.tuple #[]]
       [5] (FSq b w L s1 s29 [(p11,uO sm),(g+1+1,uO y),(g+1,rchO tt mx bk dl tl sl),(g,riO x)]) _ (by kernel_rfl) (by kernel_rfl) (by kernel_rfl)
       (fun vs=>by simp only[z14,z1a,List.setIfInBounds_toArray,List.set_cons_zero,List.set_cons_succ];exact rfl)
       (by simp only[List.getD_cons_zero,List.getD_cons_succ];exact rfl) HP1.out ?_ ?_
      ·exact⟨
       fun _ _ _ _ hP _=>z0a rfl (.inl rfl) rfl ⟨rfl,hP⟩,
       fun _ _ _ _ hP _=>z3g rfl rfl rfl (FSq.row (g:=g) (o:=riO x) hP (by simp)) ⟨rfl,hP⟩,
       fun _ _ w1 hA hP _=>z0m rfl rfl rfl (by kernel_rfl) (rgL2 rfl hA.1) ((HK29.out w1).mono fun _ _ hh=>And.intro hh.1 (FSq.below hP hh.2)) fun _ hP2=>⟨rfl,hP2⟩,
       fun _ _ _ _ hP _=>zo4 rfl rfl rfl ⟨rfl,hP⟩,
       fun _ _ _ hA hP _=>zcc rfl rfl hA.1 (FSq.row (g:=g+1) (o:=rchO tt mx bk dl tl sl) hP (by simp)) ⟨rfl,hP⟩,
       fun _ _ _ hA hP hq=>by cases hq 0 rfl;exact z0m rfl rfl rfl (by kernel_rfl) (rgL3 hA.1 hA.2.1 hA.2.2.1) (HS29.out _ _ hP) fun _ hP2=>⟨rfl,hP2⟩,
       trivial⟩
      ·intro W5 hW5;have HR:Hid (ROn w b L s29 W5):=FV.done (rs:=[(p11,uO sm),(g+1+1,uO y),(g+1,rchO tt mx bk dl tl sl),(g,riO x)]) hW5
       clear hW5 HP1 HK29 HS29;go_wp2_with fail;exact bodyPost_ret_by (results_tmp2 rfl _ _ _) rfl ⟨by rw[HLL.out.1,HLL.out.2.1];rfl,by rw[HLL.out.2.2];exact HR.out⟩
end Go.Proofs.YtnkilceibkkjlaaGreat
