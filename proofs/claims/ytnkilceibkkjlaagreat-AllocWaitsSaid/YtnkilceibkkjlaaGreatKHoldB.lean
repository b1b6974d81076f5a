/- What is proved here: factor.Grow and factor.Move of the p -/
import Derived.Test.YtnkilceibkkjlaaGreatKFacT
import Derived.Test.YtnkilceibkkjlaaGreatKHandG
set_option maxRecDepth 100000
set_option maxHeartbeats 16000000
namespace Go.Proofs.YtnkilceibkkjlaaGreat
open Go.RowKit
def zy3(d f m x:W4):Bool:=q07 d f m&&(decide (uN m≠0)&&(decide (uN x≠0)&&(decide (uN d+uN x<M128)&&facB (uOf (zuh d f m+uN x)) (uOf (uN d+uN x)) m)))
def zzj(d f m x:W4):W4:=if zy3 d f m x then facW (uOf (zuh d f m+uN x)) (uOf (uN d+uN x)) m else(0,0,0,0)
def z1b(x y:W4):W4:=if z3l x y=0 then z3s x y else(0,0,0,0)
def zjn(x y:W4):Int:=if z3l x y=0 then 0 else 13
theorem zea(w:World)(x y z:W4):Below w.heap.size w (((w.alloc (.cells (uL x) 24)).alloc (.cells (uL y) 24)).alloc (.cells (uL z) 24))/\Cel4 w.heap.size x (((w.alloc (.cells (uL x) 24)).alloc (.cells (uL y) 24)).alloc (.cells (uL z) 24))/\Cel4 (w.heap.size+1) y (((w.alloc (.cells (uL x) 24)).alloc (.cells (uL y) 24)).alloc (.cells (uL z) 24))/\(((w.alloc (.cells (uL x) 24)).alloc (.cells (uL y) 24)).alloc (.cells (uL z) 24)).heap[w.heap.size+2]?=some (.cells (uL z) 24 (0,0)):=by
 refine⟨z00 (z00 (z00 (Below.refl _ w) _) _) _,z1t ?_,z1t ?_,?_⟩
 ·rw[heap_alloc_old _ _ (by first | (simp;done)|(simp;omega)),heap_alloc_old _ _ (by simp)];exact heap_alloc_new w (.cells (uL x) 24)
 ·rw[heap_alloc_old _ _ (by simp)];have:=heap_alloc_new (w.alloc (.cells (uL x) 24)) (.cells (uL y) 24);rw[World.size_alloc]at this;exact this
 ·have:=heap_alloc_new ((w.alloc (.cells (uL x) 24)).alloc (.cells (uL y) 24)) (.cells (uL z) 24);rw[World.size_alloc,World.size_alloc]at this;exact this
theorem zsc(x y:W4)(hx:x.Ok)(hy:y.Ok)(w:World):Calls Tryz.prog 157 #[uV x,uV y] w fun e w'=>e= .returned (.tuple #[uV (z1b x y),.int .i64 (zjn x y)])/\Below w.heap.size w w':=by
 obtain⟨hb,⟨a0,a1,a2,a3⟩,⟨b0,b1,b2,b3⟩,hr⟩:=zea w x y (0,0,0,0);have HS:Hid (Calls Tryz.prog 71 #[uV x,uV y] (((w.alloc (.cells (uL x) 24)).alloc (.cells (uL y) 24)).alloc (.cells (uL (0,0,0,0)) 24)) fun e w'=>e= .returned (.tuple #[uV (z1b x y),.bool (z3l x y==0)])/\Below w.heap.size w w'/\w'.heap[w.heap.size+2]?=some (.cells (uL (0,0,0,0)) 24 (0,0))):=(z9v x y hx hy _).mono fun e w' ⟨he,h1⟩=>⟨he,z0b hb h1,(h1.block _ (Array.getElem?_eq_some_iff.1 hr).1).trans hr⟩
 clear hb hr
 by_cases h0:z3l x y=0
 ·have h1:zjn x y=0:=by unfold zjn;rw[if_pos h0]
  rw[h1];have hc:(z3l x y==0)=true:=beq_iff_eq.2 h0;rw[hc]at HS;clear hc h0 h1;generalize z1b x y=v at *
  go_enter Tryz.func157,Tryz.ntmps157;go_wp2_with fail;refine HS.out.mono ?_;rintro e w3 ⟨rfl,hb3,hrow⟩;have HR:=zh hrow;obtain⟨_,_,_,_,r0,r1,r2,r3⟩:=row4 hrow;have hn3:w.heap.size+2<w3.heap.size:=(Array.getElem?_eq_some_iff.1 hrow).1;have hne:w3.heap.size≠w.heap.size+2:=by omega
  have hne2:=Ne.symm hne;clear hrow HS;go_wp2_with fail;refine bodyPost_ret (z03 rfl _ _ (w.heap.size+2) 24 (uL v) (0,0) _ rfl ?_ Tryz.underlying24 rfl (by kernel_rfl)) rfl ?_
  ·rw[heap_alloc_old _ _ (by simpa using hn3)];exact put4 HR.out v
  ·exact⟨rfl,z00 (z0f hb3 (by omega) _ _ _ _) _⟩
 ·have h1:zjn x y=13:=by unfold zjn;rw[if_neg h0]
  have h2:z1b x y=(0,0,0,0):=by unfold z1b;rw[if_neg h0]
  rw[h1,h2];have hc:(z3l x y==0)=false:=beq_eq_false_iff_ne.2 h0;rw[hc,h2]at HS;clear hc h0 h1 h2;go_enter Tryz.func157,Tryz.ntmps157;go_wp2_with fail;refine HS.out.mono ?_;rintro e w3 ⟨rfl,hb3,hrow⟩;have HR:=zh hrow;obtain⟨_,_,_,_,r0,r1,r2,r3⟩:=row4 hrow;have hn3:w.heap.size+2<w3.heap.size:=(Array.getElem?_eq_some_iff.1 hrow).1;have hne:w3.heap.size≠w.heap.size+2:=by omega
  have hne2:=Ne.symm hne;clear hrow HS;go_wp2_with fail;refine bodyPost_ret (z03 rfl _ _ (w.heap.size+2) 24 (uL (0,0,0,0)) (0,0) _ rfl ?_ Tryz.underlying24 rfl (by kernel_rfl)) rfl ?_
  ·rw[heap_alloc_old _ _ (by simpa using hn3)];exact put4 HR.out (0,0,0,0)
  ·exact⟨rfl,z00 (z0f hb3 (by omega) _ _ _ _) _⟩
def q02(x y:W4):W4:=if uN x+uN y<M128 then uOf (uN x+uN y)else(0,0,0,0)
def zxn(x y:W4):Int:=if uN x+uN y<M128 then 0 else 6
def z2t(x y:W4):Int:=if uN y<=uN x then 0 else 13
theorem zoh(x y:W4)(hx:x.Ok)(hy:y.Ok)(w:World):Calls Tryz.prog 157 #[uV x,uV y] w fun e w'=>e= .returned (.tuple #[uV (subW x y),.int .i64 (z2t x y)])/\Below w.heap.size w w':=by
 have h1:z1b x y=subW x y:=(zau hx hy).1;have h2:zjn x y=z2t x y:=by
  unfold zjn z2t
  by_cases h:uN y<=uN x
  ·rw[if_pos h,if_pos ((z3f hx hy).2 h)]
  ·rw[if_neg h,if_neg (fun e=>h ((z3f hx hy).1 e))]
 rw[<- h1,<- h2];exact zsc x y hx hy w
theorem zlz(x y:W4)(hx:x.Ok)(hy:y.Ok)(p:Nat)(w:World)(hp:w.heap[p]?=some (.cells (uL y) 24 (0,0))):Calls Tryz.prog 156 #[uV x,.pointer (some ⟨p,0,none⟩)] w fun e w'=>e= .returned (.tuple #[uV (subW x y),.int .i64 (z2t x y)])/\Below w.heap.size w w':=by
 have hV:=(VAt.vr (l:=[x]) (VAt.start w [x,(0,0,0,0)])).vp;have HM:Hid (∀ W,VP w [x] 1 [] W->Calls Tryz.prog 157 #[uV x,uV y] W fun e w'=>e= .returned (.tuple #[uV (subW x y),.int .i64 (z2t x y)])/\VP w [x] 1 [] w'):=fun W hW =>
  (zoh x y hx hy W).mono fun e w' ⟨he,hb⟩=>⟨he,hW.below hb⟩
 have hlt:=z02 hp;obtain⟨y0,y1,y2,y3,_⟩:=row4 ((hV.b.block _ hlt).trans hp);obtain⟨p0,p1,p2,p3,_⟩:=row4 hp;have hn1:p≠w.heap.size:=by omega
 have hn2:p≠w.heap.size+1:=by omega
 have HV:=zh hV;clear hV hp;generalize subW x y=u at *
 generalize z2t x y=er at *
 go_enter Tryz.func156,Tryz.ntmps156;go_wp2_with fail;refine zm (HM.out _ HV.out) ?_;rintro e w3 ⟨rfl,hV3⟩;obtain⟨z,z0,z1,z2,z3,z4,z5,z6,z7⟩:=hV3.vr.zc;have HR0:=zh (hV3.vr.res u);clear hV3 HM HV;go_wp2_with fail;refine bodyPost_ret (z03 rfl _ _ (w.heap.size+1) 24 (uL u) (0,0) _ rfl HR0.out.2 Tryz.underlying24 rfl (by kernel_rfl)) rfl ?_;exact⟨rfl,HR0.out.1⟩
theorem zz8(w:World)(h:Hand)(s:St)(f:Nat)(k:ByteArray)(g:FuncId)(p:Nat)(u:W4)(er:Int)(hq:QSt w h s)(hf:s.Fit f)(hm:f<10000000000)(hfn:rgFn Tryz.prog g=true)
  (hG:∀ W,Below w.heap.size w W->Calls Tryz.prog g #[uV (s.amt k),.pointer (some ⟨p,0,none⟩)] W fun e w'=>e= .returned (.tuple #[uV u,.int .i64 er])/\Below W.heap.size W w') :
  Calls Tryz.prog 155 #[.pointer h.ptr,.string k,.func (.func g) #[] #[.pointer (some ⟨p,0,none⟩)]] w fun e w'=>e= .returned (.int .i64 er)/\QOn w h (if er=0 then h.st s (s.z09 k u)else s) w':=by
 have HA:=zh (zgx w h s f k hq hf (by omega));have HG:Hid (∀ W,Below w.heap.size w W->Calls Tryz.prog g #[uV (s.amt k),.pointer (some ⟨p,0,none⟩)] W fun e w'=>e= .returned (.tuple #[uV u,.int .i64 er])/\Below w.heap.size w w'):=fun W hW=>(hG W hW).mono fun e w' ⟨he,hb⟩=>⟨he,z0b hW hb⟩
 have HS:Hid (∀ W,Below w.heap.size w W->Calls Tryz.prog 81 #[.pointer h.ptr,.string k,uV u] W fun e w'=>e= .returned (.tuple #[])/\QOn w h (h.st s (s.z09 k u)) w'):=fun W hW =>
  (zup W h s k u (hq.below hW) (Nat.lt_of_le_of_lt hf.size (by omega))).mono fun e w' ⟨he,hO⟩=>⟨he,hO.back hW⟩
 have HQ:Hid (∀ W,Below w.heap.size w W->QOn w h s W):=fun W hW=>(QOn.start hq).below hW
 generalize s.amt k=x at *
 have hcf:∀ w,(callFunc g #[uV x,.pointer (some ⟨p,0,none⟩)]).run Tryz.prog w= .ok (.enter g #[uV x,.pointer (some ⟨p,0,none⟩)]) w:=zur hfn _;generalize h.st s (s.z09 k u)=s2 at *
 generalize h.ptr=q at *
 clear hG hq hf hfn
 by_cases h0:er=0
 ·subst h0;simp only[if_true];go_enter Tryz.func155,Tryz.ntmps155;go_wp2_with fail;refine zm HA.out ?_;rintro e w2 ⟨rfl,hb2⟩;have HG2:=zh (HG.out _ hb2);clear hb2 HA HG;go_wp2_with fail;refine zm HG2.out ?_;rintro e w3 ⟨rfl,hb3⟩;have HS3:=zh (HS.out _ (z00 hb3 (.cells (uL u) 24)));clear hb3 HG2 HS HQ;go_wp2_with fail;refine zm HS3.out ?_;rintro e w4 ⟨rfl,hO⟩;have HO:=zh hO;clear hO HS3;go_wp2_with fail;go_ret;exact⟨rfl,HO.out⟩
 ·rw[if_neg h0];have hd:decide (er=0)=false:=decide_eq_false h0;go_enter Tryz.func155,Tryz.ntmps155;go_wp2_with fail;refine zm HA.out ?_;rintro e w2 ⟨rfl,hb2⟩;have HG2:=zh (HG.out _ hb2);clear hb2 HA HG;go_wp2_with fail;refine zm HG2.out ?_;rintro e w3 ⟨rfl,hb3⟩;have HO:=zh (HQ.out _ (z00 hb3 (.cells (uL u) 24)));clear hb3 HG2 HS HQ;go_wp2_with fail;go_ret;exact⟨rfl,HO.out⟩
structure zju (R:World->List Nat->St->Prop):Prop where
 lt:∀ W L s,R W L s->∀ k∈L,k<W.heap.size
 frame:∀ W W' L s,R W L s->W.heap.size<=W'.heap.size->(∀ k∈L,W'.heap[k]?=W.heap[k]?)->R W' L s
abbrev PRep(q:Option Addr)(on:Bool):World->List Nat->St->Prop:=fun W L s=>QSt W ⟨q,on,L⟩ s
abbrev FRep(b:Nat):World->List Nat->St->Prop:=fun W L s=>RRep W b s L
theorem zo3(q:Option Addr)(on:Bool):zju (PRep q on):=⟨fun _ _ _ h=>h.lt,fun _ _ _ _ h hs hb=>h.frame hs hb⟩
theorem zv1(b:Nat):zju (FRep b):=⟨fun _ _ _ h=>h.lt,fun _ _ _ _ h _ hb=>h.frame hb⟩
structure QV (R:World->List Nat->St->Prop) (w:World) (L:List Nat) (s:St) (rs:List (Nat × Obj)) (W:World):Prop where
 ok:zju R
 on:∃ L',R W L' s/\Step w L W L'/\∀ g o,(g,o)∈rs->g∉L'
 r:∀ g o,(g,o)∈rs->w.heap.size<=g/\W.heap[g]?=some o
section
variable {R:World->List Nat->St->Prop} {w W W':World} {L:List Nat} {s s':St} {rs:List (Nat × Obj)}
theorem QV.start(hR:zju R)(h:R w L s):QV R w L s [] w:=⟨hR,⟨L,h,Step.refl _ _,fun _ _ hm=>by cases hm⟩,fun _ _ hm=>by cases hm⟩
theorem QV.row(h:QV R w L s rs W){g:Nat}{o:Obj}(hm:(g,o)∈rs):W.heap[g]?=some o:=(h.r g o hm).2
theorem QV.le(h:QV R w L s rs W){g:Nat}{o:Obj}(hm:(g,o)∈rs):w.heap.size<=g:=(h.r g o hm).1
theorem QV.below(h:QV R w L s rs W)(hb:Below W.heap.size W W'):QV R w L s rs W':=by
 obtain⟨L',h1,h2,h3⟩:=h.on;exact⟨h.ok,⟨L',h.ok.frame _ _ _ _ h1 hb.size fun k hk=>hb.block k (h.ok.lt _ _ _ h1 k hk),h2.trans (z3r hb _),h3⟩,fun g o hm=>⟨h.le hm,(hb.block _ (z02 (h.row hm))).trans (h.row hm)⟩⟩
theorem QV.drew(h:QV R w L s rs W):QV R w L s rs W.drew:=h.below (z0h zb)
theorem QV.size(h:QV R w L s rs W):w.heap.size<=W.heap.size:=by
 obtain⟨L',_,h2,_⟩:=h.on;exact h2.fr.size
theorem QV.alloc(h:QV R w L s rs W)(o:Obj):QV R w L s ((W.heap.size,o)::rs) (W.alloc o):=by
 have hb:=h.below (z00 (Below.refl W.heap.size W) o);obtain⟨L0,h0,_,_⟩:=h.on;obtain⟨L',h1,h2,h3⟩:=h.on;refine⟨h.ok,⟨L',h.ok.frame _ _ _ _ h1 (by simp) fun k hk=>heap_alloc_old W o (h.ok.lt _ _ _ h1 k hk),h2.trans (z3r (z00 zb o) _),fun g o' hm => ?_⟩,fun g o' hm => ?_⟩
 ·rcases List.mem_cons.1 hm with he | hm
  ·cases he;intro hk;exact absurd (h.ok.lt _ _ _ h1 _ hk) (Nat.lt_irrefl _)
  ·exact h3 g o' hm
 ·rcases List.mem_cons.1 hm with he | hm
  ·cases he;exact⟨h.size,heap_alloc_new W _⟩
  ·exact hb.r g o' hm
theorem QV.less{qs:List (Nat × Obj)}(h:QV R w L s rs W)(hs:∀ x,x∈qs->x∈rs):QV R w L s qs W:=by
 obtain⟨L',h1,h2,h3⟩:=h.on;exact⟨h.ok,⟨L',h1,h2,fun g o hm=>h3 g o (hs _ hm)⟩,fun g o hm=>h.r g o (hs _ hm)⟩
theorem QV.call(h:QV R w L s rs W){f:FuncId}{args:Array Value}{v:Value}(hC:∀ L',R W L' s->Calls Tryz.prog f args W fun e W'=>e= .returned v/\∃ L'',R W' L'' s'/\Step W L' W' L''):Calls Tryz.prog f args W fun e W'=>e= .returned v/\QV R w L s' rs W':=by
 obtain⟨L',h1,h2,h3⟩:=h.on;refine(hC L' h1).mono fun e W' ⟨he,L2,hR2,st⟩=>⟨he,h.ok,⟨L2,hR2,h2.trans st,fun g o hm hk => ?_⟩,fun g o hm=>⟨h.le hm,(st.fr.block g (z02 (h.row hm)) (h3 g o hm)).trans (h.row hm)⟩⟩
 rcases st.own g hk with h4 | h4
 ·exact h3 g o hm h4
 ·exact absurd (z02 (h.row hm)) (Nat.not_lt.2 h4)
theorem QV.reads(h:QV R w L s rs W){f:FuncId}{args:Array Value}{v:Value}(hC:∀ L',R W L' s->Calls Tryz.prog f args W fun e W'=>e= .returned v/\Below W.heap.size W W'):Calls Tryz.prog f args W fun e W'=>e= .returned v/\QV R w L s rs W':=by
 obtain⟨L',h1,h2,h3⟩:=h.on;exact(hC L' h1).mono fun e W' ⟨he,hb⟩=>⟨he,h.below hb⟩
theorem QV.done(h:QV R w L s rs W):∃ L',R W L' s/\Step w L W L':=by
 obtain⟨L',h1,h2,_⟩:=h.on;exact⟨L',h1,h2⟩
theorem QV.turn(h:QV R w L s rs W){g:Nat}{o o':Obj}(hm:(g,o)∈rs)(hW:W'.heap[g]?=some o')(hs:W'.heap.size=W.heap.size)(ho:∀ k,k≠g->W'.heap[k]?=W.heap[k]?)(hx:W'.os=W.os/\W'.tape=W.tape/\W'.output=W.output)
  (qs:List (Nat × Obj)) (hqs:∀ x,x∈qs->x∈rs/\x.1≠g):QV R w L s ((g,o')::qs) W':=by
 obtain⟨L',h1,h2,h3⟩:=h.on;have hg:=h3 g o hm;have hge:=h.le hm;refine⟨h.ok,⟨L',h.ok.frame _ _ _ _ h1 (by omega) fun k hk=>ho k (fun e=>hg (e▸hk)),⟨⟨hx.1.trans h2.fr.os,hx.2.1.trans h2.fr.tape,hx.2.2.trans h2.fr.output,by have:=h2.fr.size;omega,fun k hk hn=>(ho k (by omega)).trans (h2.fr.block k hk hn)⟩,h2.own⟩,fun g' o2 hm2 => ?_⟩,fun g' o2 hm2 => ?_⟩
 ·rcases List.mem_cons.1 hm2 with he | hm2
  ·cases he;exact hg
  ·exact h3 g' o2 (hqs _ hm2).1
 ·rcases List.mem_cons.1 hm2 with he | hm2
  ·cases he;exact⟨h.le hm,hW⟩
  ·exact⟨h.le (hqs _ hm2).1,(ho _ (hqs _ hm2).2).trans (h.row (hqs _ hm2).1)⟩
theorem QV.setRow(h:QV R w L s rs W){g:Nat}{cs cs':Array Value}{t:TypeId}(hm:(g,Obj.cells cs t (0,0))∈rs)(qs:List (Nat × Obj))(hqs:∀ x,x∈qs->x∈rs/\x.1≠g):QV R w L s ((g,Obj.cells cs' t (0,0))::qs) (W.setRow g cs'):=
 h.turn hm (setRow_heap _ _ _ _ _ _ (h.row hm)) (setRow_size _ _ _) (fun _ hk=>setRow_other _ _ _ _ hk) ⟨rfl,rfl,rfl⟩ qs hqs
end
abbrev uO(x:W4):Obj:=.cells (uL x) 24
theorem QV.put4{R:World->List Nat->St->Prop}{w W:World}{L:List Nat}{s:St}{rs:List (Nat × Obj)}(h:QV R w L s rs W){g:Nat}{y:W4}(q:W4)(hm:(g,uO y)∈rs)(qs:List (Nat × Obj))(hqs:∀ x,x∈qs->x∈rs/\x.1≠g) :
  QV R w L s ((g,uO q)::qs) ((((W.setCell ⟨g,0,none⟩ (.int .u64 q.1)).setCell ⟨g,1,none⟩ (.int .u64 q.2.1)).setCell ⟨g,2,none⟩ (.int .u64 q.2.2.1)).setCell ⟨g,3,none⟩ (.int .u64 q.2.2.2)):=
 h.turn hm (Proofs.YtnkilceibkkjlaaGreat.put4 (h.row hm) q) (by simp) (fun _ hk=>by rw[Below.heap_setCell _ _ _ _ hk,Below.heap_setCell _ _ _ _ hk,Below.heap_setCell _ _ _ _ hk,Below.heap_setCell _ _ _ _ hk]) ⟨rfl,rfl,rfl⟩ qs hqs
theorem QV.u4{R:World->List Nat->St->Prop}{w W:World}{L:List Nat}{s:St}{rs:List (Nat × Obj)}(h:QV R w L s rs W){g:Nat}{x:W4}(hm:(g,uO x)∈rs):W.heap[g]?=some (.cells (uL x) 24 (0,0)):=h.row hm
theorem bput{W0 W:World}(h:Below W0.heap.size W0 W){g:Nat}(hg:W0.heap.size<=g){cs:Array Value}:Below W0.heap.size W0 (W.setRow g cs):=
 ⟨h.os,h.tape,h.output,by rw[setRow_size];exact h.size,fun k hk=>(setRow_other _ _ _ _ (by omega)).trans (h.block k hk)⟩
theorem QV.addl{R:World->List Nat->St->Prop}{w W0 W:World}{L:List Nat}{s:St}{rs:List (Nat × Obj)}(h:QV R w L s rs W0)(hb:Below W0.heap.size W0 W)(qs:List (Nat × Obj))(hq:∀ g o,(g,o)∈qs->W0.heap.size<=g/\W.heap[g]?=some o):QV R w L s (qs++rs) W:=by
 have h2:=h.below hb;obtain⟨L',h1,h3,h4⟩:=h.on;refine⟨h.ok,⟨L',h.ok.frame _ _ _ _ h1 hb.size fun k hk=>hb.block k (h.ok.lt _ _ _ h1 k hk),h3.trans (z3r hb _),fun g o hm => ?_⟩,fun g o hm => ?_⟩
 ·rcases List.mem_append.1 hm with hm | hm
  ·intro hk;exact absurd (h.ok.lt _ _ _ h1 _ hk) (Nat.not_lt.2 (hq g o hm).1)
  ·exact h4 g o hm
 ·rcases List.mem_append.1 hm with hm | hm
  ·exact⟨Nat.le_trans h.size (hq g o hm).1,(hq g o hm).2⟩
  ·exact h2.r g o hm
theorem QV.add1{R:World->List Nat->St->Prop}{w W0 W:World}{L:List Nat}{s:St}{rs:List (Nat × Obj)}(h:QV R w L s rs W0)(hb:Below W0.heap.size W0 W){g:Nat}{o:Obj}(hg:W0.heap.size<=g)(hr:W.heap[g]?=some o):QV R w L s ((g,o)::rs) W:=
 h.addl hb [(g,o)] fun g' o' hm=>by
  rw[List.mem_singleton]at hm;cases hm;exact⟨hg,hr⟩
def Hand.zzy(h:Hand)(s:St)(k:ByteArray)(y:W4):St:=if zxn (s.amt k) y=0 then h.st s (s.z09 k (q02 (s.amt k) y))else s
def Hand.ze0(h:Hand)(s:St)(k:ByteArray)(y:W4):St:=if z2t (s.amt k) y=0 then h.st s (s.z09 k (subW (s.amt k) y))else s
theorem zb1(s:St)(k:ByteArray):(s.amt k).Ok:=z4z _
theorem zxp(w:World)(h:Hand)(s:St)(f:Nat)(k:ByteArray)(y:W4)(hy:y.Ok)(hq:QSt w h s)(hf:s.Fit f)(hm:f<10000000000) :
  Calls Tryz.prog 88 #[.pointer h.ptr,.string k,uV y] w fun e w'=>e= .returned (.int .i64 (z2t (s.amt k) y))/\QOn w h (h.ze0 s k y) w':=by
 have hb0:=z00 (Below.refl _ w) (uO y);have HT:Hid (Calls Tryz.prog 155 #[.pointer h.ptr,.string k,.func (.func 156) #[] #[.pointer (some ⟨w.heap.size,0,none⟩)]] (w.alloc (uO y)) fun e w'=>e= .returned (.int .i64 (z2t (s.amt k) y))/\QOn w h (h.ze0 s k y) w'):=
  (zz8 (w.alloc (uO y)) h s f k 156 w.heap.size (subW (s.amt k) y) (z2t (s.amt k) y) (hq.below hb0) hf hm (by kernel_rfl) (fun W hb=>zlz (s.amt k) y (zb1 s k) hy w.heap.size W ((hb.block _ (by simp)).trans (heap_alloc_new w (uO y))))).mono fun e w' ⟨he,hO⟩=>⟨he,hO.back hb0⟩
 generalize z2t (s.amt k) y=er at *
 generalize h.ze0 s k y=s2 at *
 generalize QOn w h s2=O at *
 clear hb0 hq hf;go_enter Tryz.func88,Tryz.ntmps88;go_wp2_with fail;refine zm HT.out ?_;rintro e w2 ⟨rfl,hO⟩;have HO:=zh hO;clear hO HT;go_wp2_with fail;go_ret;exact⟨rfl,HO.out⟩
abbrev HV(h:Hand)(w:World)(s:St)(rs:List (Nat × Obj))(W:World):Prop:=QV (PRep h.ptr h.on) w h.L s rs W
theorem HV.start{h:Hand}{w:World}{s:St}(hq:QSt w h s):HV h w s [] w:=QV.start (zo3 _ _) hq
theorem HV.done{h:Hand}{w W:World}{s:St}{rs:List (Nat × Obj)}(hq:HV h w s rs W):QOn w h s W:=QV.done hq
theorem HV.camt{h:Hand}{w W:World}{s:St}{rs:List (Nat × Obj)}{f:Nat}(hq:HV h w s rs W)(hf:s.Fit f)(hm:f<100000000000)(k:ByteArray):Calls Tryz.prog 64 #[.pointer h.ptr,.string k] W fun e W'=>e= .returned (uV (s.amt k))/\Below W.heap.size W W':=by
 obtain⟨L',h1,_⟩:=hq.on;exact zgx W ⟨h.ptr,h.on,L'⟩ s f k h1 hf hm
theorem HV.cset{h:Hand}{w W:World}{s:St}{rs:List (Nat × Obj)}(hq:HV h w s rs W)(hz:s.size<1000000000000)(k:ByteArray)(x:W4):Calls Tryz.prog 81 #[.pointer h.ptr,.string k,uV x] W fun e W'=>e= .returned (.tuple #[])/\HV h w (h.st s (s.z09 k x)) rs W':=
 QV.call hq fun L' h1=>zup W ⟨h.ptr,h.on,L'⟩ s k x h1 hz
abbrev I63(a:Int):Prop:=a<9223372036854775808
abbrev hL(d f:W4):Array Value:=wL d f
abbrev hV(d f:W4):Value:=wV d f
abbrev zO:Obj:=.cells #[.int .u64 0,.int .u64 0,.int .u64 0,.int .u64 0] 24
def St.dep(s:St)(a t:Int):W4:=s.amt (keyL 10 [a,t])
def St.fct(s:St)(a t:Int):W4:=if s.amt (keyL 11 [a,t])=(0,0,0,0)then oneW else s.amt (keyL 11 [a,t])
theorem zle{ops:Array Oper}{o:Oper}{a:Act}{w:World}{K:Value->World->Prop}{x:Operand}{g k:Nat}{r:W4}(hg:Region.wanted o (yielded ops a.tmps)=true)(ho:o.op= .load 24 x)
  (hx:a.eval x= .pointer (some ⟨g,k,none⟩)) (hc:w.cell? ⟨g,k,none⟩=some (.int .u64 r.1)/\w.cell? ⟨g,k+1,none⟩=some (.int .u64 r.2.1)/\w.cell? ⟨g,k+2,none⟩=some (.int .u64 r.2.2.1)/\w.cell? ⟨g,k+3,none⟩=some (.int .u64 r.2.2.2)) (hk:K (uV r) w):rgDo Tryz.prog ops o a w K:=by
 refine z0n hg ?_ hk;obtain⟨c0,c1,c2,c3⟩:=hc;unfold execOp;simp only[ho,hx]
 go_simp
def Hand.wrD(h:Hand)(s:St)(a t:Int)(d:W4):St:=h.st s (s.z09 (keyL 10 [a,t]) d)
def Hand.wr(h:Hand)(s:St)(a t:Int)(d f:W4):St:=h.st (h.wrD s a t d) ((h.wrD s a t d).z09 (keyL 11 [a,t]) (if d=(0,0,0,0)then(0,0,0,0)else f))
end Go.Proofs.YtnkilceibkkjlaaGreat
