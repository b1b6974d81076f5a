/- What is proved here: the alloc law's own example, played  -/
import Derived.Test.YtnkilceibkkjlaaGreatJAlWs
import Derived.Test.YtnkilceibkkjlaaGreatJRAlS
set_option maxRecDepth 100000
set_option maxHeartbeats 16000000
namespace Go.Proofs.YtnkilceibkkjlaaGreat
open Go.RowKit
def gva:St:=mdSt z2t x7 z9w oneW 3 5 0 false
def gvb:St:=mtSt gva x7
theorem zya:pend gva x7=(1,z9w,8):=by kernel_rfl
theorem zzs:cur gvb x7=z9w:=by kernel_rfl
theorem q07:z3f (gvb.val (keyL 32 [7,1]))=z9w:=by kernel_rfl
theorem q0o:mdN z2t x7 z9w oneW 3 5 0 false=8:=by kernel_rfl
theorem zzw:mdE z2t x7 z9w oneW 3 5 0 false=0:=by kernel_rfl
theorem zvm:Und z2t (mdTS z2t x7 z9w oneW 3 5 0 false):=zby AG.empty.srt _ _ _ _ _ _ _
theorem zjw:gva.Fit 20:=by
 obtain⟨j,hj,h⟩:=zua x7 z2t z9w oneW 3 5 0 false;unfold gva mdSt;split
 ·split
  ·exact(h.fit St.Fit.empty).mono (by omega)
  ·rw[zvm.2];exact St.Fit.empty.mono (by omega)
 ·exact St.Fit.empty.mono (by omega)
theorem zpr:gvb.Fit 40:=by
 obtain⟨j,hj,h⟩:=zvg x7 gva;exact(h.fit zjw).mono (by omega)
theorem zpz(w:World)(b:Nat)(L:List Nat)(h:SRep w b z2t L):Calls Tryz.prog 19 #[.pointer (some ⟨b,0,none⟩),idV x7,chV z9w oneW 3 5 0 false] w (z2p w b L (.tuple #[.int .i64 8,.int .i64 0]) gva):=by
 have hC:=zic w ⟨some ⟨b,0,none⟩,true,L⟩ z2t 0 3 5 0 x7 z9w oneW false rfl zt9 zx5 znz (.inl ⟨rfl,b,rfl,h⟩) St.Fit.empty (by decide) fun _ _=>zos AG.empty (by decide) St.Fit.empty (by decide) _ _ _ _ _ _ _
 rw[q0o,zzw]at hC;exact hC.mono fun e w' ⟨he,hq⟩=>⟨he,zr4 hq⟩
theorem zov(w:World)(b:Nat)(L:List Nat)(h:SRep w b gva L):Calls Tryz.prog 23 #[.pointer (some ⟨b,0,none⟩),idV x7] w fun e W'=>e= .returned (.bool true)/\On w b L gvb W':=by
 have hC:=zhg w ⟨some ⟨b,0,none⟩,true,L⟩ gva 20 x7 rfl zt9 (.inl ⟨rfl,b,rfl,h⟩) zjw (by decide) (Nat.lt_of_le_of_lt ((zln (zz9 AG.empty (by decide) x7 z9w oneW 3 5 0 false) x7).eb _ _) (by decide));rw[zya]at hC;exact hC.mono fun e w' ⟨he,hq⟩=>⟨he,zr4 hq⟩
theorem zll(w:World):Calls Tryz.prog 14 #[] w fun e w'=>e= .returned (.bool true)/\Below w.heap.size w w':=by
 have HN:Hid (Calls Tryz.prog 15 #[] w fun e w1=>∃ b L,e= .returned (.pointer (some ⟨b,0,none⟩))/\SRep w1 b z2t L/\Below w.heap.size w w1/\∀ k∈L,w.heap.size<=k):=(new_any w).mono fun e w1 ⟨b,L,he,hS,hF,hL⟩=>⟨b,L,he,hS,⟨hF.os,hF.tape,hF.output,hF.size,fun k hk=>hF.block k hk (fun h=>h)⟩,hL⟩
 have HONE:=zh (fun W=>one_any W);have hbuild:∀ w,(Instr.build 36 #[(0,.agg #[.int .u64 500000000000000000,.int .u64 0,.int .u64 0,.int .u64 0]),(1,.agg #[.int .u64 1000000000000000000,.int .u64 0,.int .u64 0,.int .u64 0]),(2,.int .i64 3),(3,.int .i64 5)]).run Tryz.prog w= .ok (.agg #[.int .u64 500000000000000000,.int .u64 0,.int .u64 0,.int .u64 0,.int .u64 1000000000000000000,.int .u64 0,.int .u64 0,.int .u64 0,.int .i64 3,.int .i64 5,.int .i64 0,.bool false]) w:=fun w=>by kernel_rfl
 have hE:∀ w,(Op.equalIn 10000 24 (.agg #[.int .u64 500000000000000000,.int .u64 0,.int .u64 0,.int .u64 0]) (.agg #[.int .u64 500000000000000000,.int .u64 0,.int .u64 0,.int .u64 0])).run Tryz.prog w= .ok true w:=fun w=>eqU z9w z9w w
 go_enter Tryz.func14,Tryz.ntmps14;go_wp2_with fail;refine zm HN.out ?_;rintro e w1 ⟨b,L,rfl,hS,hB1,hL⟩;have hW0:=z00 (z00 (Below.refl _ w1) (.cells #[.int .u64 500000000000000000,.int .u64 0,.int .u64 0,.int .u64 0] 24)) (.cells #[.int .i64 7,.int .i64 1,.int .i64 9,.int .i64 0] 34);have hS0:=hS.below hW0;have hlt:=hS.lt;have hrH:((w1.alloc (.cells #[.int .u64 500000000000000000,.int .u64 0,.int .u64 0,.int .u64 0] 24)).alloc (.cells #[.int .i64 7,.int .i64 1,.int .i64 9,.int .i64 0] 34)).heap[w1.heap.size]?=some (.cells #[.int .u64 500000000000000000,.int .u64 0,.int .u64 0,.int .u64 0] 24 (0,0)):=by
  rw[heap_alloc_old _ _ (by simp)];exact heap_alloc_new w1 _
 have hrX:((w1.alloc (.cells #[.int .u64 500000000000000000,.int .u64 0,.int .u64 0,.int .u64 0] 24)).alloc (.cells #[.int .i64 7,.int .i64 1,.int .i64 9,.int .i64 0] 34)).heap[w1.heap.size+1]?=some (.cells #[.int .i64 7,.int .i64 1,.int .i64 9,.int .i64 0] 34 (0,0)):=by
  have:=heap_alloc_new (w1.alloc (.cells #[.int .u64 500000000000000000,.int .u64 0,.int .u64 0,.int .u64 0] 24)) (.cells #[.int .i64 7,.int .i64 1,.int .i64 9,.int .i64 0] 34);rw[World.size_alloc]at this;exact this
 have hsz:((w1.alloc (.cells #[.int .u64 500000000000000000,.int .u64 0,.int .u64 0,.int .u64 0] 24)).alloc (.cells #[.int .i64 7,.int .i64 1,.int .i64 9,.int .i64 0] 34)).heap.size=w1.heap.size+2:=by simp
 have HOK:Hid (∀ W,On ((w1.alloc (.cells #[.int .u64 500000000000000000,.int .u64 0,.int .u64 0,.int .u64 0] 24)).alloc (.cells #[.int .i64 7,.int .i64 1,.int .i64 9,.int .i64 0] 34)) b L gvb W->Below w.heap.size w W):=fun W hO=>by
  obtain⟨L',hS',st⟩:=hO;have hb:=z09 hB1 hW0;refine⟨st.fr.os.trans hb.os,st.fr.tape.trans hb.tape,st.fr.output.trans hb.output,Nat.le_trans hb.size st.fr.size,fun k hk => ?_⟩;rw[st.fr.block k (Nat.lt_of_lt_of_le hk hb.size) (fun hm=>absurd (hL k hm) (by omega))];exact hb.block k hk
 generalize hw2:((w1.alloc (.cells #[.int .u64 500000000000000000,.int .u64 0,.int .u64 0,.int .u64 0] 24)).alloc (.cells #[.int .i64 7,.int .i64 1,.int .i64 9,.int .i64 0] 34))=w2 at *
 have HF:Hid (∀ s' W,On w2 b L s' W->LvC w1.heap.size W):=fun s' W hO=>by
  have n1:w1.heap.size∉L:=fun hm=>absurd (hlt _ hm) (by omega)
  have n2:w1.heap.size+1∉L:=fun hm=>absurd (hlt _ hm) (by omega)
  have q1:=(hO.heap (by omega) n1).trans hrH;have q2:=(hO.heap (by omega) n2).trans hrX;exact⟨⟨by rw[cell_of_row _ _ _ _ _ _ q1];rfl,by rw[cell_of_row _ _ _ _ _ _ q1];rfl,by rw[cell_of_row _ _ _ _ _ _ q1];rfl,by rw[cell_of_row _ _ _ _ _ _ q1];rfl⟩,by rw[cell_of_row _ _ _ _ _ _ q2];rfl,by rw[cell_of_row _ _ _ _ _ _ q2];rfl,by rw[cell_of_row _ _ _ _ _ _ q2];rfl,by rw[cell_of_row _ _ _ _ _ _ q2];rfl⟩
 have HO0:=zh (On.start (w:=w2) hS0);have HO0d:=zh HO0.out.drew;have HMOD:Hid (∀ W,On w2 b L z2t W->Calls Tryz.prog 19 #[.pointer (some ⟨b,0,none⟩),.agg #[.int .i64 7,.int .i64 1,.int .i64 9,.int .i64 0],.agg #[.int .u64 500000000000000000,.int .u64 0,.int .u64 0,.int .u64 0,.int .u64 1000000000000000000,.int .u64 0,.int .u64 0,.int .u64 0,.int .i64 3,.int .i64 5,.int .i64 0,.bool false]] W fun e W'=>e= .returned (.tuple #[.int .i64 8,.int .i64 0])/\On w2 b L gva W'):=fun W hO=>hO.call fun L' hS'=>zpz W b L' hS'
 have HPEN:Hid (∀ W,On w2 b L gva W->Calls Tryz.prog 20 #[.pointer (some ⟨b,0,none⟩),.agg #[.int .i64 7,.int .i64 1,.int .i64 9,.int .i64 0]] W fun e W'=>e= .returned (.tuple #[.int .i64 1,.agg #[.int .u64 500000000000000000,.int .u64 0,.int .u64 0,.int .u64 0],.int .i64 8])/\On w2 b L gva W'):=fun W hO=>(z4k W _ gva x7 zt9 (hO.read zjw (by decide))).mono fun e W' ⟨he,hb⟩=>⟨by rw[he,zya];rfl,hO.below hb⟩
 have HMAT:Hid (∀ W,On w2 b L gva W->Calls Tryz.prog 23 #[.pointer (some ⟨b,0,none⟩),.agg #[.int .i64 7,.int .i64 1,.int .i64 9,.int .i64 0]] (W.alloc (.cells #[.int .u64 500000000000000000,.int .u64 0,.int .u64 0,.int .u64 0] 24)) fun e W'=>e= .returned (.bool true)/\On w2 b L gvb W'/\W'.heap[W.heap.size]?=some (.cells #[.int .u64 500000000000000000,.int .u64 0,.int .u64 0,.int .u64 0] 24 (0,0))):=fun W hO=>by
  obtain⟨L1,hS1,st1⟩:=hO;have hS2:=hS1.alloc (.cells #[.int .u64 500000000000000000,.int .u64 0,.int .u64 0,.int .u64 0] 24);have st:=st1.trans (⟨Fr.of_below (z00 (Below.refl _ W) (.cells #[.int .u64 500000000000000000,.int .u64 0,.int .u64 0,.int .u64 0] 24)) _,fun _ h => .inl h⟩:Step W L1 _ L1);exact(zov _ b L1 hS2).mono fun e W' ⟨he,L2,hS3,st2⟩=>⟨he,⟨L2,hS3,st.trans st2⟩,(st2.fr.block _ (by simp) (fun hm=>absurd (hS1.lt _ hm) (by omega))).trans (heap_alloc_new W _)⟩
 have HCUR:Hid (∀ W,On w2 b L gvb W->Calls Tryz.prog 18 #[.pointer (some ⟨b,0,none⟩),.agg #[.int .i64 7,.int .i64 1,.int .i64 9,.int .i64 0]] W fun e W'=>e= .returned (.agg #[.int .u64 500000000000000000,.int .u64 0,.int .u64 0,.int .u64 0])/\Below W.heap.size W W'):=fun W hO=>(z4n W _ gvb x7 zt9 (hO.read zpr (by decide))).mono fun e W' ⟨he,hb⟩=>⟨by rw[he,zzs];rfl,hb⟩
 have HENC:Hid (∀ W,On w2 b L gvb W->Calls Tryz.prog 27 #[.pointer (some ⟨b,0,none⟩),.int .i64 7,.int .i64 1] W fun e W'=>e= .returned (.agg #[.int .u64 500000000000000000,.int .u64 0,.int .u64 0,.int .u64 0])/\Below W.heap.size W W'):=fun W hO=>(z8s W _ gvb 7 1 (by decide) (by decide) (hO.read zpr (by decide))).mono fun e W' ⟨he,hb⟩=>⟨by rw[he,q07];rfl,hb⟩
 obtain⟨⟨h0,h1,h2,h3⟩,x0,x1,x2,x3⟩:=HF.out _ _ HO0.out;clear hS hW0 hS0 hrH hrX hL hB1 HN;have HW2:=zh hw2;clear hw2;go_wp2_with fail;rw[HW2.out]
 go_region_held3 (fun w'=>w'.cell? ⟨w1.heap.size,0,none⟩=some (.int .u64 500000000000000000)/\w'.cell? ⟨w1.heap.size,1,none⟩=some (.int .u64 0)/\w'.cell? ⟨w1.heap.size,2,none⟩=some (.int .u64 0)/\w'.cell? ⟨w1.heap.size,3,none⟩=some (.int .u64 0)/\w'.cell? ⟨w1.heap.size+1,0,none⟩=some (.int .i64 7)/\w'.cell? ⟨w1.heap.size+1,1,none⟩=some (.int .i64 1)/\w'.cell? ⟨w1.heap.size+1,2,none⟩=some (.int .i64 9)/\w'.cell? ⟨w1.heap.size+1,3,none⟩=some (.int .i64 0)) (first | assumption | go_keep)
  (first
   | (go_at_call 24;refine zm (HONE.out _) ?_;rintro e w3 ⟨rfl,hb3⟩;have HO3:=zh (HO0d.out.below hb3);obtain⟨⟨j0,j1,j2,j3⟩,k0,k1,k2,k3⟩:=HF.out _ _ HO3.out)
   | (go_at_call 19;refine zm (HMOD.out _ HO3.out) ?_;rintro e w4 ⟨rfl,hO4⟩;have HO4:=zh hO4;obtain⟨⟨l0,l1,l2,l3⟩,m0,m1,m2,m3⟩:=HF.out _ _ hO4;clear hO4))
 all_goals
  have HP4:=zh (HPEN.out _ HO4.out);go_wp2_with fail;refine zm HP4.out ?_;rintro e w5 ⟨rfl,hO5⟩;have HM5:=zh (HMAT.out _ hO5);have HO5:=zh (hO5.alloc (.cells #[.int .u64 500000000000000000,.int .u64 0,.int .u64 0,.int .u64 0] 24));obtain⟨_,n0,n1,n2,n3⟩:=HF.out _ _ HO5.out;clear hO5 HP4;go_wp2_with fail;refine zm HM5.out ?_;rintro e w6 ⟨rfl,hO6,hP6⟩;have HO6:=zh hO6.drew;have HP6:Hid (w6.drew.heap[w5.heap.size]?=some (.cells #[.int .u64 500000000000000000,.int .u64 0,.int .u64 0,.int .u64 0] 24 (0,0))):=hP6;have HPC:Hid (∀ W:World,W.heap[w5.heap.size]?=some (.cells #[.int .u64 500000000000000000,.int .u64 0,.int .u64 0,.int .u64 0] 24 (0,0))->W.cell? ⟨w5.heap.size,0,none⟩=some (.int .u64 500000000000000000)/\W.cell? ⟨w5.heap.size,1,none⟩=some (.int .u64 0)/\W.cell? ⟨w5.heap.size,2,none⟩=some (.int .u64 0)/\W.cell? ⟨w5.heap.size,3,none⟩=some (.int .u64 0)):=fun W h=>⟨by rw[cell_of_row _ _ _ _ _ _ h];rfl,by rw[cell_of_row _ _ _ _ _ _ h];rfl,by rw[cell_of_row _ _ _ _ _ _ h];rfl,by rw[cell_of_row _ _ _ _ _ _ h];rfl⟩
  have HPB:Hid (∀ W W':World,W.heap[w5.heap.size]?=some (.cells #[.int .u64 500000000000000000,.int .u64 0,.int .u64 0,.int .u64 0] 24 (0,0))->Below W.heap.size W W'->W'.heap[w5.heap.size]?=some (.cells #[.int .u64 500000000000000000,.int .u64 0,.int .u64 0,.int .u64 0] 24 (0,0))):=fun W W' h hb=>(hb.block _ (Array.getElem?_eq_some_iff.1 h).1).trans h
  obtain⟨⟨p0,p1,p2,p3⟩,q0,q1,q2,q3⟩:=HF.out _ _ hO6;obtain⟨r0,r1,r2,r3⟩:=HPC.out _ hP6;clear hO6 hP6 HM5 HMOD HPEN HMAT HO0 HO0d HO4 HO5 HONE;go_wp2_with fail
  go_region_held3 (fun w'=>w'.cell? ⟨w1.heap.size,0,none⟩=some (.int .u64 500000000000000000)/\w'.cell? ⟨w1.heap.size,1,none⟩=some (.int .u64 0)/\w'.cell? ⟨w1.heap.size,2,none⟩=some (.int .u64 0)/\w'.cell? ⟨w1.heap.size,3,none⟩=some (.int .u64 0)/\w'.cell? ⟨w1.heap.size+1,0,none⟩=some (.int .i64 7)/\w'.cell? ⟨w1.heap.size+1,1,none⟩=some (.int .i64 1)/\w'.cell? ⟨w1.heap.size+1,2,none⟩=some (.int .i64 9)/\w'.cell? ⟨w1.heap.size+1,3,none⟩=some (.int .i64 0)/\w'.cell? ⟨w5.heap.size,0,none⟩=some (.int .u64 500000000000000000)/\w'.cell? ⟨w5.heap.size,1,none⟩=some (.int .u64 0)/\w'.cell? ⟨w5.heap.size,2,none⟩=some (.int .u64 0)/\w'.cell? ⟨w5.heap.size,3,none⟩=some (.int .u64 0)) (first | assumption | go_keep)
   (first
    | (go_at_call 18;refine zm (HCUR.out _ HO6.out) ?_;rintro e w7 ⟨rfl,hb7⟩;have HO7:=zh (HO6.out.below hb7);have HP7:=zh (HPB.out _ _ HP6.out hb7);obtain⟨⟨s0,s1,s2,s3⟩,t0,t1,t2,t3⟩:=HF.out _ _ HO7.out;obtain⟨u0,u1,u2,u3⟩:=HPC.out _ HP7.out)
    | (go_at_call 27;refine zm (HENC.out _ HO7.out) ?_;rintro e w8 ⟨rfl,hb8⟩;have HO8:=zh (HO7.out.below hb8);have HP8:=zh (HPB.out _ _ HP7.out hb8);obtain⟨⟨v0,v1,v2,v3⟩,y0,y1,y2,y3⟩:=HF.out _ _ HO8.out;obtain⟨z0,z1,z2,z3⟩:=HPC.out _ HP8.out))
  all_goals
   go_wp2_with fail;go_ret;exact⟨rfl,HOK.out _ HO8.out⟩
structure AT (w w3:World) (q:Option Addr) (b k:Nat) (s t:St) (rs:List (Nat × Obj)) (W:World):Prop where
 pv:∃ K,(∀ j∈K,w.heap.size<=j)/\Below w.heap.size w w3/\PV ⟨q,true,[]⟩ b t w3 K s rs W
 fs:s.Fit (16*k)
 ft:t.Fit (16*k)
 he:s.ents=t.ents
 hg:AG (2*k) s
section
variable {w w3 W W':World} {q:Option Addr} {b k:Nat} {s t:St} {rs rs':List (Nat × Obj)}
theorem AT.below(h:AT w w3 q b k s t rs W)(hb:Below W.heap.size W W'):AT w w3 q b k s t rs W':=by
 obtain⟨K,a,c,h1⟩:=h.pv;exact⟨⟨K,a,c,QV.below h1 hb⟩,h.fs,h.ft,h.he,h.hg⟩
theorem AT.alloc(h:AT w w3 q b k s t rs W)(o:Obj):AT w w3 q b k s t ((W.heap.size,o)::rs) (W.alloc o):=by
 obtain⟨K,a,c,h1⟩:=h.pv;exact⟨⟨K,a,c,QV.alloc h1 o⟩,h.fs,h.ft,h.he,h.hg⟩
theorem AT.less(h:AT w w3 q b k s t rs W)(hs:∀ x,x∈rs'->x∈rs):AT w w3 q b k s t rs' W:=by
 obtain⟨K,a,c,h1⟩:=h.pv;exact⟨⟨K,a,c,QV.less h1 hs⟩,h.fs,h.ft,h.he,h.hg⟩
theorem AT.drew(h:AT w w3 q b k s t rs W):AT w w3 q b k s t rs W.drew:=h.below (z0i (Below.refl _ W))
theorem AT.row(h:AT w w3 q b k s t rs W){g:Nat}{o:Obj}(hm:(g,o)∈rs):W.heap[g]?=some o:=by
 obtain⟨K,a,c,h1⟩:=h.pv;exact QV.row h1 hm
theorem AT.zuv(h:AT w w3 q b k s t rs W):Below w.heap.size w W:=by
 obtain⟨K,a,c,h1⟩:=h.pv;obtain⟨K',_,st⟩:=QV.done h1
 exact(zk4 c a st).1
theorem AT.zb5(h:AT w w3 q b k s t rs W){f:FuncId}{args:Array Value}{v:Value}(hC:∀ L,QSt W ⟨q,true,L⟩ s->Calls Tryz.prog f args W fun e W'=>e= .returned v/\Below W.heap.size W W'):Calls Tryz.prog f args W fun e W'=>e= .returned v/\AT w w3 q b k s t rs W':=by
 obtain⟨K,a,c,h1⟩:=h.pv;exact(PV.zb5 h1 hC).mono fun e W' ⟨he,h2⟩=>⟨he,⟨K,a,c,h2⟩,h.fs,h.ft,h.he,h.hg⟩
theorem AT.zb3(h:AT w w3 q b k s t rs W){f:FuncId}{args:Array Value}{v:Value}(hC:∀ M,RRep W b t M->Calls Tryz.prog f args W fun e W'=>e= .returned v/\Below W.heap.size W W'):Calls Tryz.prog f args W fun e W'=>e= .returned v/\AT w w3 q b k s t rs W':=by
 obtain⟨K,a,c,h1⟩:=h.pv;exact(PV.zb3 h1 hC).mono fun e W' ⟨he,h2⟩=>⟨he,⟨K,a,c,h2⟩,h.fs,h.ft,h.he,h.hg⟩
theorem AT.act(h:AT w w3 q b k s t rs W)(hk:k<1000)(A:LAct)(hA:A.Ok):Calls Tryz.prog 16 #[.pointer q,.pointer (some ⟨b,0,none⟩),.agg A.L] W fun e W'=>e= .returned (.bool true)/\AT w w3 q b (k+1) (z7m s A) (z6t t A) rs W':=by
 obtain⟨K,a,c,h1⟩:=h.pv;have hC:Calls Tryz.prog 16 #[.pointer q,.pointer (some ⟨b,0,none⟩),.agg A.L] W fun e W'=>e= .returned (.bool true)/\PV ⟨q,true,[]⟩ b (z6t t A) w3 K (z7m s A) rs W':=
  QV.zyq h1 (z5k _ _ _ _) fun K' hK'=>zt2 W ⟨q,true,[]⟩ b K' s t (16*k) (2*k) A rfl hA hK' h.fs h.ft (by omega) h.hg h.he (by omega)
 exact hC.mono fun e W' ⟨he,h2⟩=>⟨he,⟨K,a,c,h2⟩,(zsd h.fs A).mono (by omega),(zqy h.ft A).mono (by omega),zvn h.hg h.he A,(zw0 h.hg (by omega) A).mono (by omega)⟩
theorem AT.keys(h:AT w w3 q b k s t rs W):(∀ x∈s.ents,x.1.size<1000000000000)/\∀ x∈t.ents,x.1.size<1000000000000:=
 ⟨fun x hx=>Nat.lt_of_le_of_lt (h.hg.key x hx) (by decide),fun x hx=>Nat.lt_of_le_of_lt (h.hg.key x (h.he▸hx)) (by decide)⟩
theorem AT.now(h:AT w w3 q b k s t rs W)(hk:k<=1000)(x:I4)(hx:x.Ok):Calls Tryz.prog 18 #[.pointer q,idV x] W fun e W'=>e= .returned (uV (cur s x))/\AT w w3 q b k s t rs W':=
 h.zb5 fun L hq=>z4n W q s x hx (hq.read h.fs (by omega))
theorem AT.nowF(h:AT w w3 q b k s t rs W)(hk:k<=1000)(x:I4)(hx:x.Ok):Calls Tryz.prog 28 #[.pointer (some ⟨b,0,none⟩),idV x] W fun e W'=>e= .returned (uV (cur s x))/\AT w w3 q b k s t rs W':=by
 rw[z4t h.he];exact h.zb3 fun M hq=>z7h W b M t _ x hx hq h.ft (by omega)
theorem AT.enc(h:AT w w3 q b k s t rs W)(hk:k<=1000)(x y:Int)(hx:x<9223372036854775808)(hy:y<9223372036854775808):Calls Tryz.prog 27 #[.pointer q,.int .i64 x,.int .i64 y] W fun e W'=>e= .returned (uV (s.amt (keyL 32 [x,y])))/\AT w w3 q b k s t rs W':=
 h.zb5 fun L hq=>z8s W q s x y hx hy (hq.read h.fs (by omega))
theorem AT.encF(h:AT w w3 q b k s t rs W)(hk:k<=1000)(x y:Int)(hx:x<9223372036854775808)(hy:y<9223372036854775808):Calls Tryz.prog 29 #[.pointer (some ⟨b,0,none⟩),.int .i64 x,.int .i64 y] W fun e W'=>e= .returned (uV (s.amt (keyL 32 [x,y])))/\AT w w3 q b k s t rs W':=by
 rw[z4r h.he];exact h.zb3 fun M hq=>z2x W b M t _ x y hx hy hq h.ft (by omega)
theorem AT.sum(h:AT w w3 q b k s t rs W)(hk:k<=1000)(x y:Int)(hx:x<9223372036854775808)(hy:y<9223372036854775808):Calls Tryz.prog 26 #[.pointer q,.int .i64 x,.int .i64 y] W fun e W'=>e= .returned (uV (sumA s x y))/\AT w w3 q b k s t rs W':=
 h.zb5 fun L hq=>sum_any W q s x y hx hy (hq.read h.fs (by omega)) (by have:=h.fs.size;unfold St.size at this;omega) h.keys.1
theorem AT.sumF(h:AT w w3 q b k s t rs W)(hk:k<=1000)(x y:Int)(hx:x<9223372036854775808)(hy:y<9223372036854775808):Calls Tryz.prog 30 #[.pointer (some ⟨b,0,none⟩),.int .i64 x,.int .i64 y] W fun e W'=>e= .returned (uV (sumA s x y))/\AT w w3 q b k s t rs W':=by
 rw[zmt h.he];exact h.zb3 fun M hq=>zyr W b M t _ x y hx hy hq h.ft (by omega) h.keys.2
theorem AT.waits(h:AT w w3 q b k s t rs W)(hk:k<=1000)(x y:Int)(hx:x<9223372036854775808)(hy:y<9223372036854775808):Calls Tryz.prog 17 #[.pointer q,.int .i64 x,.int .i64 y] W fun e W'=>e= .returned (.int .i64 (((ends s 33 [x,y]).2-(ends s 33 [x,y]).1:Nat):Int))/\AT w w3 q b k s t rs W':=
 h.zb5 fun L hq=>zo2 W q s x y hx hy fun w1 hb=>QSt.read (h:=⟨q,true,L⟩) (hq.below hb) h.fs (by omega)
theorem AT.zyx(h:AT w w3 q b k s t rs W)(hk:k<=1000)(x y:Int)(hx:x<9223372036854775808)(hy:y<9223372036854775808):Calls Tryz.prog 31 #[.pointer (some ⟨b,0,none⟩),.int .i64 x,.int .i64 y] W fun e W'=>e= .returned (.int .i64 (((ends s 33 [x,y]).2-(ends s 33 [x,y]).1:Nat):Int))/\AT w w3 q b k s t rs W':=by
 rw[z6f h.he];exact h.zb3 fun M hq=>zm9 W b M t _ x y hx hy hq h.ft (by omega)
theorem AT.pend(h:AT w w3 q b k s t rs W)(hk:k<=1000)(x:I4)(hx:x.Ok):Calls Tryz.prog 20 #[.pointer q,idV x] W fun e W'=>e= .returned (.tuple #[.int .i64 (Go.Proofs.YtnkilceibkkjlaaGreat.pend s x).1,uV (Go.Proofs.YtnkilceibkkjlaaGreat.pend s x).2.1,.int .i64 (Go.Proofs.YtnkilceibkkjlaaGreat.pend s x).2.2])/\AT w w3 q b k s t rs W':=
 h.zb5 fun L hq=>z4k W q s x hx (hq.read h.fs (by omega))
theorem AT.zzv(h:AT w w3 q b k s t rs W)(hk:k<=1000)(x:I4)(hx:x.Ok):Calls Tryz.prog 32 #[.pointer (some ⟨b,0,none⟩),idV x] W fun e W'=>e= .returned (.tuple #[.int .i64 (Go.Proofs.YtnkilceibkkjlaaGreat.pend s x).1,uV (Go.Proofs.YtnkilceibkkjlaaGreat.pend s x).2.1,.int .i64 (Go.Proofs.YtnkilceibkkjlaaGreat.pend s x).2.2])/\AT w w3 q b k s t rs W':=by
 rw[z3g h.he];exact h.zb3 fun M hq=>z7n W b M t _ x hx hq h.ft (by omega)
theorem AT.len(h:AT w w3 q b k s t rs W)(hk:k<=1000):Calls Tryz.prog 33 #[.pointer q] W fun e W'=>e= .returned (.int .i64 (s.int K27))/\AT w w3 q b k s t rs W':=
 h.zb5 fun L hq=>zlf W q s (hq.read h.fs (by omega))
theorem AT.lenF(h:AT w w3 q b k s t rs W)(hk:k<=1000):Calls Tryz.prog 34 #[.pointer (some ⟨b,0,none⟩)] W fun e W'=>e= .returned (.int .i64 (s.int K27))/\AT w w3 q b k s t rs W':=by
 rw[zci h.he];exact h.zb3 fun M hq=>zr0 W b M t _ hq h.ft (by omega)
end
def ATPh(w w3:World)(q:Option Addr)(b k:Nat)(s t s1 t1:St)(rs:List (Nat × Obj)):Nat->World->Prop
 | 0,W=>AT w w3 q b k s t rs W
 | _+1,W=>AT w w3 q b (k+1) s1 t1 rs W
theorem ATPh.row{w w3 W:World}{q:Option Addr}{b k:Nat}{s t s1 t1:St}{rs:List (Nat × Obj)}{p:Nat}(hP:ATPh w w3 q b k s t s1 t1 rs p W){g:Nat}{o:Obj}(hm:(g,o)∈rs):W.heap[g]?=some o:=by
 match p,hP with
 | 0,hP=>exact AT.row hP hm
 | _+1,hP=>exact AT.row hP hm
def LEnd(w:World)(q:Option Addr)(b:Nat)(a2:Option Addr)(n c2:Nat)(w0:World):Prop:=
 Calls Tryz.prog 36 #[.pointer q] w0 fun e w4=>∃ a4 c4,e= .returned (.slice a4 n c4)/\LRow b a2 n c2 w4 /\
 Calls Tryz.prog 35 #[.slice a4 n c4,.slice a2 n c2] w4 fun e w5=>e= .returned (.bool true)/\LRow b a2 n c2 w5 /\
 Calls Tryz.prog 14 #[] w5 fun e w6=>e= .returned (.bool true)/\LRow b a2 n c2 w6/\Below w.heap.size w w6
theorem lend{w w3 W:World}{q:Option Addr}{b k:Nat}{s t:St}{rs:List (Nat × Obj)}(h:AT w w3 q b k s t rs W)(hk:k<=1000):∃ a2 n c2,LRow b a2 n c2 W/\LEnd w q b a2 n c2 W.drew:=by
 have hbW:=h.zuv;have hft:=h.ft;have hee:=h.he;have hfs:=h.fs;obtain⟨K,_,_,h1⟩:=h.pv;obtain⟨L,M,hQ,hR⟩:=PV.two h1;rcases hQ with⟨_,b',hq,hS⟩ | ⟨h0,_⟩
 ·obtain⟨lv,pv,hA,_⟩:=hR;obtain⟨a2,c2,rfl,hE⟩:=hA.ents;have hq':q=some ⟨b',0,none⟩:=hq;subst hq';refine⟨a2,_,c2,hE.hd,?_⟩;have hd:Below W.heap.size W W.drew:=⟨rfl,rfl,rfl,Nat.le_refl _,fun _ _=>rfl⟩;have hz:s.size<1000000000000:=by have:=hfs.size;omega
  have hl:s.ents.length<1000000000000:=by unfold St.size at hz;omega
  have cm:∀ {w1 w2:World},LRow b a2 t.ents.length c2 w1->Below w1.heap.size w1 w2->LRow b a2 t.ents.length c2 w2:=fun {w1 w2} h hb=>by
   show w2.cell? _=_
   rw[hb.cell (p:=⟨b,0,none⟩) (World.block_lt_of_cell? w1 _ h)];exact h
  have m0:LRow b a2 t.ents.length c2 W.drew:=hE.hd;have hp0:z6p W.drew a2 t.ents:=⟨hE.at0⟩;refine(zx0 W.drew b' s L (hS.below hd) hz).mono fun e w4 ⟨v,he,hO⟩ => ?_
  obtain⟨a4,c4,rfl,hp1⟩:=hO.1.pairs;have hb4:Below W.drew.heap.size W.drew w4:=hO.2.2
  have hp2:z6p w4 a2 t.ents:=⟨fun k x hk=>by
   obtain⟨g,h3,h4,h5⟩:=hp0.at0 k x hk
   exact⟨g,h3,by rw[hb4.cell (p:=⟨g,k*2,none⟩) (World.block_lt_of_cell? _ _ h4)];exact h4,by rw[hb4.cell (p:=⟨g,k*2+1,none⟩) (World.block_lt_of_cell? _ _ h5)];exact h5⟩⟩
  have m4:=cm m0 hb4;refine⟨a4,c4,by rw[he,hee],m4,?_⟩;rw[<- hee]at hp2;have hs:=zsr w4 a4 a2 c4 c2 s.ents s.ents hp1 hp2 hl;rw[hee]at hs;refine hs.mono fun e w5 ⟨he,n,hw⟩ => ?_
  subst hw;refine⟨by rw[he];simp,m4,?_⟩;have h5:Below W.heap.size W (w4.drewN n):=below_drewN (hd.trans (hb4.mono (Nat.le_refl _))) n;refine(zll (w4.drewN n)).mono fun e w6 ⟨he,hb6⟩=>⟨he,cm (w1:=w4.drewN n) m4 hb6,z09 (z09 hbW h5) hb6⟩
 ·cases h0
theorem at_new(w:World):Calls Tryz.prog 15 #[] w fun e w2=>∃ q,e= .returned (.pointer q)/\∀ m,m=w2.heap.size->AT w (w2.alloc (.cells #[.slice none 0 0,.slice none 0 0] 45)) q m 0 z2t z2t [] (w2.alloc (.cells #[.slice none 0 0,.slice none 0 0] 45)):=by
 refine(newB w).mono fun e w2 ⟨b,L,he,hS,hb,hL⟩=>⟨_,he,fun m hm => ?_⟩
 subst hm;have hbA:=z00 (Below.refl w2.heap.size w2) (.cells #[.slice none 0 0,.slice none 0 0] 45);refine⟨⟨L ++ [w2.heap.size],fun j hj => ?_,z09 hb hbA,QV.start (z5k _ _ _ _) ⟨L,[w2.heap.size],rfl,fun k hk hm => ?_,.inl ⟨rfl,b,rfl,hS.below hbA⟩,zqb w2⟩⟩,St.Fit.empty,St.Fit.empty,rfl,AG.empty⟩
 ·rcases List.mem_append.1 hj with h | h
  ·exact hL j h
  ·rw[List.mem_singleton]at h;subst h;exact hb.size
 ·rw[List.mem_singleton]at hm;subst hm;exact Nat.lt_irrefl _ (hS.lt _ hk)
end Go.Proofs.YtnkilceibkkjlaaGreat
