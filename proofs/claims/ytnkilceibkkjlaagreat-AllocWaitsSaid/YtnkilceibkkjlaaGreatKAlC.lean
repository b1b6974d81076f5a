/- What is proved here: a queue's place (fifo's at) and its  -/
import Derived.Test.YtnkilceibkkjlaaGreatKHist
set_option maxRecDepth 100000
set_option maxHeartbeats 16000000
namespace Go.Proofs.YtnkilceibkkjlaaGreat
open Go.RowKit
theorem zj0{ops:Array Oper}{o:Oper}{a:Act}{w:World}{K:Value->World->Prop}{x:Operand}{g:Nat}(hg:Region.wanted o (yielded ops a.tmps)=true)(ho:o.op= .fieldAddr 188 x 0)(hx:a.eval x= .pointer (some ⟨g,0,none⟩))(hk:K (.pointer (some ⟨g,0,none⟩)) w):rgDo Tryz.prog ops o a w K:=by
 refine z0n hg ?_ hk;clear hg hk;generalize a.eval=ev at hx ⊢;unfold execOp;simp only[ho,hx]
 go_simp
theorem zih{ops:Array Oper}{o:Oper}{a:Act}{w:World}{K:Value->World->Prop}{x:Operand}{g:Nat}(hg:Region.wanted o (yielded ops a.tmps)=true)(ho:o.op= .fieldAddr 188 x 1)(hx:a.eval x= .pointer (some ⟨g,0,none⟩))(hk:K (.pointer (some ⟨g,1,none⟩)) w):rgDo Tryz.prog ops o a w K:=by
 refine z0n hg ?_ hk;clear hg hk;generalize a.eval=ev at hx ⊢;unfold execOp;simp only[ho,hx]
 go_simp
theorem ziy{ops:Array Oper}{o:Oper}{a:Act}{w:World}{K:Value->World->Prop}{x:Operand}{g:Nat}(hg:Region.wanted o (yielded ops a.tmps)=true)(ho:o.op= .fieldAddr 188 x 2)(hx:a.eval x= .pointer (some ⟨g,0,none⟩))(hk:K (.pointer (some ⟨g,2,none⟩)) w):rgDo Tryz.prog ops o a w K:=by
 refine z0n hg ?_ hk;clear hg hk;generalize a.eval=ev at hx ⊢;unfold execOp;simp only[ho,hx]
 go_simp
theorem zv8{ops:Array Oper}{o:Oper}{a:Act}{w:World}{K:Value->World->Prop}{x:Operand}{g:Nat}(hg:Region.wanted o (yielded ops a.tmps)=true)(ho:o.op= .fieldAddr 188 x 3)(hx:a.eval x= .pointer (some ⟨g,0,none⟩))(hk:K (.pointer (some ⟨g,3,none⟩)) w):rgDo Tryz.prog ops o a w K:=by
 refine z0n hg ?_ hk;clear hg hk;generalize a.eval=ev at hx ⊢;unfold execOp;simp only[ho,hx]
 go_simp
theorem z0u{ops:Array Oper}{o:Oper}{a:Act}{w:World}{K:Value->World->Prop}{x:Operand}{g k:Nat}{n:Int}(hg:Region.wanted o (yielded ops a.tmps)=true)(ho:o.op= .load 3 x)(hx:a.eval x= .pointer (some ⟨g,k,none⟩))(hc:w.cell? ⟨g,k,none⟩=some (.int .i64 n))(hk:K (.int .i64 n) w):rgDo Tryz.prog ops o a w K:=by
 refine z0n hg ?_ hk;clear hg hk;generalize a.eval=ev at hx ⊢;unfold execOp;simp only[ho,hx]
 go_simp
theorem zfl{ops:Array Oper}{o:Oper}{a:Act}{w:World}{K:Value->World->Prop}{x:Operand}{g k:Nat}{v:Value}(hg:Region.wanted o (yielded ops a.tmps)=true)(ho:o.op= .load 75 x)(hx:a.eval x= .pointer (some ⟨g,k,none⟩))(hc:w.cell? ⟨g,k,none⟩=some v)(hk:K v w):rgDo Tryz.prog ops o a w K:=by
 refine z0n hg ?_ hk;clear hg hk;generalize a.eval=ev at hx ⊢;unfold execOp;simp only[ho,hx]
 go_simp
theorem zg5{ops:Array Oper}{o:Oper}{a:Act}{w:World}{K:Value->World->Prop}{x:Operand}{g k:Nat}{v:Value}(hg:Region.wanted o (yielded ops a.tmps)=true)(ho:o.op= .load 39 x)(hx:a.eval x= .pointer (some ⟨g,k,none⟩))(hc:w.cell? ⟨g,k,none⟩=some v)(hk:K v w):rgDo Tryz.prog ops o a w K:=by
 refine z0n hg ?_ hk;clear hg hk;generalize a.eval=ev at hx ⊢;unfold execOp;simp only[ho,hx]
 go_simp
abbrev qO(q:Option Addr)(t:Int)(v:Value)(a b:Int):Obj:=.cells (qL q t v a b) 188
def QaI(w1:World)(l:List Int)(n:Int)(b4 b6 b7:Bool)(y p z:Value)(W:World):Prop:=
 Below w1.heap.size w1 W/\(b7=false->(b4=true->Own W 3 1 y l.length (l.map fun n=>Value.int .i64 n)/\∀ k,y.ownBlock=some k->w1.heap.size<=k)/\(b6=true->∃ g,p= .slice (some ⟨g,0,none⟩) 1 1/\W.heap[g]?=some (.cells #[.int .i64 n] 3 (0,0))))/\(b7=true->z0w W z (l ++ [n]))
theorem QaI.below{w1 W W':World}{l:List Int}{n:Int}{b4 b6 b7:Bool}{y p z:Value}(h:QaI w1 l n b4 b6 b7 y p z W)(hb:Below W.heap.size W W'):QaI w1 l n b4 b6 b7 y p z W':=by
 obtain⟨h1,h2,h3⟩:=h;refine⟨z0b h1 hb,fun e=>⟨fun e4 => ?_,fun e6 => ?_⟩,fun e=>(h3 e).below hb⟩
 ·obtain⟨o1,o2⟩:=(h2 e).1 e4;exact⟨o1.frame fun k hk=>hb.block k (o1.lt k hk),o2⟩
 ·obtain⟨g,e1,e2⟩:=(h2 e).2 e6;exact⟨g,e1,(hb.block g (z02 e2)).trans e2⟩
theorem zg8(t:Nat)(ht1:1<=t)(ht2:t<=255)(w:World)(q:Option Addr)(y:Value)(l:List Int)(a b n:Int)(h:z0w w y l)(hl:IdOk l)(hn:I63 n):Calls Tryz.prog 152 #[.agg (qL q t y a b),.int .i64 n] w fun e w'=>e= .returned (.string (keyL t (l ++ [n])))/\Below w.heap.size w w':=by
 have hb0:=z00 (Below.refl _ w) (qO q t y a b);have HI:=zh (h.below hb0);have HR:Hid ((w.alloc (qO q t y a b)).heap[w.heap.size]?=some (.cells (qL q t y a b) 188 (0,0))):=heap_alloc_new w (qO q t y a b);have HB0:=zh hb0;have HL:=zh hl;have HN:=zh hn;clear h hl hn hb0;go_enter Tryz.func152,Tryz.ntmps152;go_upto_region 1 with fail;generalize w.alloc (qO q t y a b)=w1 at *
 have HG:=zh (z02 HR.out);have HW:Hid (∀ W,Below w1.heap.size w1 W->W.cell? ⟨w.heap.size,1,none⟩=some (.int .i64 t)/\W.cell? ⟨w.heap.size,2,none⟩=some y):=fun W hb=>by
  have hr:=(hb.block _ HG.out).trans HR.out;exact⟨by rw[cell_of_row _ _ _ _ _ _ hr];rfl,by rw[cell_of_row _ _ _ _ _ _ hr];rfl⟩
 have H0:Hid (QaI w1 l n false false false undef undef undef w1.drew):=⟨z0h zb,fun _=>⟨fun e=>(by cases e),fun e=>(by cases e)⟩,fun e=>(by cases e)⟩;obtain⟨g,hgg⟩:∃ g,g=w.heap.size:=⟨_,rfl⟩;rw[<- hgg]at HW ⊢;refine z8q [[],[0],[],[2],[2,3],[],[5],[2,3,4,5,6],[0,1,2,3,4,5,6,7],[0,1,2,3,4,5,6,7,8]]
  [.pointer (some ⟨g,1,none⟩),.int .i64 t,.pointer (some ⟨g,2,none⟩),y,undef,.int .i64 n,undef,undef,.string (keyL t (l ++ [n])),.string (keyL t (l ++ [n]))] [4,6,7]
  (fun L vs W=>QaI w1 l n (L 4) (L 6) (L 7) (vs 4) (vs 6) (vs 7) W) _ (by kernel_rfl) (by kernel_rfl) (by kernel_rfl)
  (fun vs=>by simp only[z14,z1a,List.setIfInBounds_toArray,List.set_cons_zero,List.set_cons_succ];exact rfl)
  (fun vs=>by exact rfl) H0.out ?_ ?_
 ·refine⟨?_,?_,?_,?_,?_,?_,?_,?_,?_,?_,trivial⟩
  ·intro L vs W hA hI hp hk hq;exact zih rfl rfl rfl ⟨rfl,hI⟩
  ·intro L vs W hA hI hp hk hq;obtain⟨e0,_⟩:=hA;have e0:vs 0= .pointer (some ⟨g,1,none⟩):=e0;exact z0u rfl rfl e0 (HW.out W hI.1).1 ⟨rfl,hI⟩
  ·intro L vs W hA hI hp hk hq;exact ziy rfl rfl rfl ⟨rfl,hI⟩
  ·intro L vs W hA hI hp hk hq;obtain⟨e2,_⟩:=hA;have e2:vs 2= .pointer (some ⟨g,2,none⟩):=e2;exact zfl rfl rfl e2 (HW.out W hI.1).2 ⟨rfl,hI⟩
  ·intro L vs W hA hI hp hk hq;obtain⟨_,e3,_⟩:=hA;have e3:vs 3=y:=e3;have h7:L 7=false:=hq 7 rfl;refine z4w rfl rfl rfl (by kernel_rfl) (show [vs 3]=_ from by rw[e3]) (zm (zm7 W y l (HI.out.below hI.1) (by have:=HL.out.len;omega)) ?_);rintro e w2 ⟨v,rfl,ho,hg,hb⟩;have hI2:=hI.below hb;refine⟨_,rfl,trivial,?_⟩;refine⟨hI2.1,fun e=>⟨fun _=>⟨ho,fun k hk=>Nat.le_trans hI.1.size (hg k hk)⟩,fun e6=>(hI2.2.1 h7).2 e6⟩,fun e => ?_⟩;exact absurd (show L 7=true from e) (by rw[h7];decide)
  ·intro L vs W hA hI hp hk hq;exact z0a rfl (.inl rfl) rfl ⟨rfl,hI⟩
  ·intro L vs W hA hI hp hk hq;obtain⟨e5,_⟩:=hA;have e5:vs 5= .int .i64 n:=e5;have h7:L 7=false:=hq 7 rfl;refine zp4 rfl rfl e5 ⟨trivial,?_⟩;have hI2:=hI.below (z00 (Below.refl _ W) (.cells #[.int .i64 n] 3));refine⟨hI2.1,fun e=>⟨fun e4=>(hI2.2.1 h7).1 e4,fun _=>⟨_,rfl,heap_alloc_new W _⟩⟩,fun e => ?_⟩;exact absurd (show L 7=true from e) (by rw[h7];decide)
  ·intro L vs W hA hI hp hk hq;have h4:L 4=true:=hp 4 rfl;have h6:L 6=true:=hp 6 rfl;have h7:L 7=false:=hk;obtain⟨ho,hge⟩:=(hI.2.1 h7).1 h4;obtain⟨g6,e6,hr6⟩:=(hI.2.1 h7).2 h6;refine zqe rfl _ _ 75 75 rfl intT intT rfl ho [.int .i64 n] e6 rfl (fun j u hj => ?_) (by intro u hu;rw[List.mem_singleton.1 hu];rfl) (by have:=HL.out.len;unfold maxLen;omega) (by have:=HL.out.len;omega) (fun v' w' hA'=>⟨trivial,?_,fun e => ?_,fun _ => ?_⟩)
   ·rw[Addr.add_lit,Nat.zero_add,cell_of_row _ _ _ _ _ _ hr6];simpa using hj
   ·exact Below.grown hI.1 hA'.grown hI.1.size (fun k hk=>hge k hk)
   ·exact absurd (show true=false from e) (by decide)
   ·show z0w w' v' (l ++ [n])
    exact zku (by have:=hA'.own;simpa using this)
  ·intro L vs W hA hI hp hk hq;have h7:L 7=true:=hp 7 rfl;obtain⟨_,e1,_⟩:=hA;have e1:vs 1= .int .i64 t:=e1;refine z4w rfl rfl rfl (by kernel_rfl) (show [vs 1,vs 7]=_ from by rw[e1]) (zm (z5g t ht1 ht2 (vs 7) (l ++ [n]) W (hI.2.2 h7) (by have:=HL.out.len;simp;omega) (fun x hx => ?_)) ?_)
   ·rcases List.mem_append.1 hx with h1 | h1
    ·exact HL.out.lt x h1
    ·rw[List.mem_singleton]at h1;subst h1;exact HN.out
   rintro e w2 ⟨rfl,hb⟩;exact⟨_,rfl,rfl,hI.below hb⟩
  ·intro L vs W hA hI hp hk hq;obtain⟨_,_,_,_,_,_,_,_,e8,_⟩:=hA;have e8:vs 8= .string (keyL t (l ++ [n])):=e8;exact z0a rfl (.inr rfl) e8 ⟨rfl,hI⟩
 ·intro L vs W hI _;have HF:=zh (z0b HB0.out hI.1);clear hI;go_wp2_with fail;go_ret;exact⟨rfl,HF.out⟩
theorem z1u{ops:Array Oper}{o:Oper}{a:Act}{w:World}{K:Value->World->Prop}{x:Operand}{g:Nat}{r:I4}(hg:Region.wanted o (yielded ops a.tmps)=true)(ho:o.op= .load 34 x)(hx:a.eval x= .pointer (some ⟨g,0,none⟩))(hr:w.heap[g]?=some (.cells (idL r) 34 (0,0)))(hk:K (idV r) w):rgDo Tryz.prog ops o a w K:=
 zgj _ hg ho hx hr Tryz.underlying34 rfl (by show _=some 4;kernel_rfl) hk
def puW(a f:W4):W4:=upW a f oneW
def puB(a f:W4):Bool:=upB a f oneW
theorem zhx(a f:W4):(puW a f).Ok:=by
 unfold puW upW;split
 ·exact zjr
 ·exact zhp _
def PuPh(w:World)(g:Nat)(a f r:W4):Nat->World->Prop
 | 0,W=>BV w [(g+1+1,zO),(g+1,uO f),(g,uO a)] W
 | _+1,W=>BV w [(g+1+1,uO r),(g+1,uO f),(g,uO a)] W
theorem PuPh.row{w W:World}{g:Nat}{a f r:W4}{p:Nat}(hP:PuPh w g a f r p W):W.heap[g]?=some (.cells (uL a) 24 (0,0))/\W.heap[g+1]?=some (.cells (uL f) 24 (0,0)):=by
 match p,hP with
 | 0,hP=>exact⟨QV.row (rs:=[(g+1+1,zO),(g+1,uO f),(g,uO a)]) hP (by simp),QV.row (rs:=[(g+1+1,zO),(g+1,uO f),(g,uO a)]) hP (by simp)⟩
 | _+1,hP=>exact⟨QV.row (rs:=[(g+1+1,uO r),(g+1,uO f),(g,uO a)]) hP (by simp),QV.row (rs:=[(g+1+1,uO r),(g+1,uO f),(g,uO a)]) hP (by simp)⟩
theorem PuPh.below{w W W':World}{g:Nat}{a f r:W4}{p:Nat}(hP:PuPh w g a f r p W)(hb:Below W.heap.size W W'):PuPh w g a f r p W':=by
 match p,hP with
 | 0,hP=>exact QV.below (rs:=[(g+1+1,zO),(g+1,uO f),(g,uO a)]) hP hb
 | _+1,hP=>exact QV.below (rs:=[(g+1+1,uO r),(g+1,uO f),(g,uO a)]) hP hb
theorem zf1(a f:W4)(ha:a.Ok)(hf:f.Ok)(w:World):Calls Tryz.prog 87 #[uV a,uV f] w fun e w'=>e= .returned (.tuple #[uV (puW a f),.bool (puB a f)])/\Below w.heap.size w w':=by
 have hB:=(((BV.start w).alloc (uO a)).alloc (uO f)).alloc zO;simp only[World.size_alloc]at hB;have HO:Hid (∀ W,Calls Tryz.prog 24 #[] W fun e w'=>e= .returned (uV oneW)/\Below W.heap.size W w'):=one_any;have HU:Hid (∀ W,Calls Tryz.prog 154 #[uV a,uV f,uV oneW] W fun e w'=>e= .returned (.tuple #[uV (puW a f),.bool (puB a f)])/\Below W.heap.size W w'):=fun W=>zx7 a f oneW ha hf ⟨by decide,by decide,by decide,by decide⟩ W
 generalize puW a f=r at *
 generalize puB a f=rb at *
 have HB:=zh hB;clear hB;go_enter Tryz.func87,Tryz.ntmps87;go_upto_region 1 with fail;generalize ((w.alloc (uO a)).alloc (uO f)).alloc zO=w1 at *
 obtain⟨g,hg⟩:∃ g,g=w.heap.size:=⟨_,rfl⟩;have H0:Hid (PuPh w g a f r 0 w1.drew):=by rw[hg];exact HB.out.drew
 rw[<- hg];refine z06 [[],[],[],[0,1,2],[3],[3],[4],[5]]
  [uV a,uV f,uV oneW,.tuple #[uV r,.bool rb],uV r,.bool rb,undef,.bool rb]
  [6] (PuPh w g a f r) _ (by kernel_rfl) (by kernel_rfl) (by kernel_rfl)
  (fun vs=>by simp only[z14,z1a,List.setIfInBounds_toArray,List.set_cons_zero,List.set_cons_succ];exact rfl)
  (by simp only[List.getD_cons_zero,List.getD_cons_succ];exact rfl) H0.out ?_ ?_
 ·exact⟨
  fun _ _ _ _ hP _=>z0p rfl rfl rfl (PuPh.row hP).1 ⟨rfl,hP⟩,
  fun _ _ _ _ hP _=>z0p rfl rfl rfl (PuPh.row hP).2 ⟨rfl,hP⟩,
  fun _ _ w1 _ hP _=>z0m rfl rfl rfl (by kernel_rfl) rfl ((HO.out w1).mono fun _ _ hh=>And.intro hh.1 (PuPh.below hP hh.2)) fun _ hP2=>⟨rfl,hP2⟩,
  fun _ _ w1 hA hP _=>z0m rfl rfl rfl (by kernel_rfl) (rgL3 hA.1 hA.2.1 hA.2.2.1) ((HU.out w1).mono fun _ _ hh=>And.intro hh.1 (PuPh.below hP hh.2)) fun _ hP2=>⟨rfl,hP2⟩,
  fun _ _ _ hA hP _=>z0x rfl rfl hA.1 rfl ⟨rfl,hP⟩,
  fun _ _ _ hA hP _=>z0x rfl rfl hA.1 rfl ⟨rfl,hP⟩,
  fun _ _ _ hA hP hq=>by cases hq 0 rfl;exact z2v (r:=(0,0,0,0)) rfl rfl rfl hA.1 (QV.row (rs:=[(g+1+1,zO),(g+1,uO f),(g,uO a)]) (g:=g+1+1) (o:=zO) hP (by simp)) ⟨rfl,QV.setRow (rs:=[(g+1+1,zO),(g+1,uO f),(g,uO a)]) (g:=g+1+1) (cs:=uL (0,0,0,0)) hP (by simp) [(g+1,uO f),(g,uO a)] (by simp;omega)⟩,
  fun _ _ _ hA hP _=>z0a rfl (.inr rfl) hA.1 ⟨rfl,hP⟩,
  trivial⟩
 ·intro W hW;have hR:W.heap[g+1+1]?=some (uO r):=QV.row (rs:=[(g+1+1,uO r),(g+1,uO f),(g,uO a)]) hW (by simp);have HW:=zh (And.intro (BV.bl hW) hR);clear hW hR;go_wp2_with fail;refine bodyPost_ret (z03 rfl _ _ (g+1+1) 24 (uL r) (0,0) _ rfl HW.out.2 Tryz.underlying24 rfl (by kernel_rfl)) rfl ?_;exact⟨rfl,HW.out.1⟩
theorem z9s(x y:W4)(hx:x.Ok)(hy:y.Ok)(w:World):Calls Tryz.prog 80 #[uV x,uV y] w fun e w'=>e= .returned (uV (z1b x y))/\Below w.heap.size w w':=by
 obtain⟨hb,⟨a0,a1,a2,a3⟩,⟨b0,b1,b2,b3⟩,hr⟩:=zea w x y (0,0,0,0);have HS:Hid (Calls Tryz.prog 71 #[uV x,uV y] (((w.alloc (.cells (uL x) 24)).alloc (.cells (uL y) 24)).alloc (.cells (uL (0,0,0,0)) 24)) fun e w'=>e= .returned (.tuple #[uV (z1b x y),.bool (z3l x y==0)])/\Below w.heap.size w w'/\w'.heap[w.heap.size+2]?=some (.cells (uL (0,0,0,0)) 24 (0,0))):=(z9v x y hx hy _).mono fun e w' ⟨he,h1⟩=>⟨he,z0b hb h1,(h1.block _ (Array.getElem?_eq_some_iff.1 hr).1).trans hr⟩
 clear hb hr;generalize (z3l x y==0)=ok at *
 generalize z1b x y=v at *
 go_enter Tryz.func80,Tryz.ntmps80;go_wp2_with fail;refine HS.out.mono ?_;rintro e w3 ⟨rfl,hb3,hrow⟩;have HR:=zh hrow;obtain⟨_,_,_,_,r0,r1,r2,r3⟩:=row4 hrow;have hn3:w.heap.size+2<w3.heap.size:=(Array.getElem?_eq_some_iff.1 hrow).1;have hne:w3.heap.size≠w.heap.size+2:=by omega
 have hne2:=Ne.symm hne;clear hrow HS;go_wp2_with fail;refine bodyPost_ret (results_cell_row rfl _ _ (w.heap.size+2) 24 (uL v) (0,0) _ rfl ?_ Tryz.underlying24 rfl (by kernel_rfl)) rfl ?_
 ·rw[heap_alloc_old _ _ (by simpa using hn3)];exact put4 HR.out v
 ·exact⟨rfl,z00 (z0f hb3 (by omega) _ _ _ _) _⟩
def ctC(f:W4):Bool:=decide (f=(0,0,0,0)) || !decide (uCmp f oneW<=0)
def ctE(s:St)(x:I4)(f:W4):Int:=if ctC f then 2 else z2t (s.amt (aAll x)) (puW (cur s x) f)
def ctS1(s:St)(x:I4)(f:W4):St:=s.z09 (aAll x) (subW (s.amt (aAll x)) (puW (cur s x) f))
def ctS2(s:St)(x:I4)(f:W4):St:=(ctS1 s x f).z09 (aKey 29 x) (z1b (cur s x) (puW (cur s x) f))
def ctS3(s:St)(x:I4)(f:W4):St:=if (pend (ctS2 s x f) x).1=2 then(ctS2 s x f).z09 (aKey 31 x) (z1b (pend (ctS2 s x f) x).2.1 (puW (pend (ctS2 s x f) x).2.1 f))else ctS2 s x f
def ctW(s:St)(x:I4)(f:W4):W4:=if ctE s x f=0 then puW (cur s x) f else(0,0,0,0)
def ctSt(s:St)(x:I4)(f:W4):St:=if ctE s x f=0 then ctS3 s x f else s
def SqPh(h:Hand)(w:World)(s s2:St)(rs:List (Nat × Obj)):Nat->World->Prop
 | 0,W=>HV h w s rs W
 | _+1,W=>HV h w s2 rs W
theorem SqPh.row{h:Hand}{w W:World}{s s2:St}{rs:List (Nat × Obj)}{p:Nat}(hP:SqPh h w s s2 rs p W){g:Nat}{o:Obj}(hm:(g,o)∈rs):W.heap[g]?=some o:=by
 match p,hP with
 | 0,hP=>exact QV.row (rs:=rs) hP hm
 | _+1,hP=>exact QV.row (rs:=rs) hP hm
theorem SqPh.below{h:Hand}{w W W':World}{s s2:St}{rs:List (Nat × Obj)}{p:Nat}(hP:SqPh h w s s2 rs p W)(hb:Below W.heap.size W W'):SqPh h w s s2 rs p W':=by
 match p,hP with
 | 0,hP=>exact QV.below (rs:=rs) hP hb
 | _+1,hP=>exact QV.below (rs:=rs) hP hb
abbrev aO(x:I4):Obj:=.cells (idL x) 34
theorem HV.csub{h:Hand}{w W:World}{s:St}{rs:List (Nat × Obj)}{f:Nat}(hq:HV h w s rs W)(hf:s.Fit f)(hm:f<10000000000)(k:ByteArray){y:W4}(hy:y.Ok):Calls Tryz.prog 88 #[.pointer h.ptr,.string k,uV y] W fun e W'=>e= .returned (.int .i64 (z2t (s.amt k) y))/\HV h w (h.ze0 s k y) rs W':=
 QV.call hq fun L' h1=>zxp W ⟨h.ptr,h.on,L'⟩ s f k y hy h1 hf hm
theorem QV.end4{h:Hand}{w W:World}{s:St}{rs:List (Nat × Obj)}(hV:HV h w s rs W){g:Nat}{y:W4}(hm:(g,uO y)∈rs)(r:W4):((((W.setCell ⟨g,0,none⟩ (.int .u64 r.1)).setCell ⟨g,1,none⟩ (.int .u64 r.2.1)).setCell ⟨g,2,none⟩ (.int .u64 r.2.2.1)).setCell ⟨g,3,none⟩ (.int .u64 r.2.2.2)).heap[g]?=some (.cells (uL r) 24 (0,0))/\QOn w h s ((((W.setCell ⟨g,0,none⟩ (.int .u64 r.1)).setCell ⟨g,1,none⟩ (.int .u64 r.2.1)).setCell ⟨g,2,none⟩ (.int .u64 r.2.2.1)).setCell ⟨g,3,none⟩ (.int .u64 r.2.2.2)):=
 ⟨Proofs.YtnkilceibkkjlaaGreat.put4 (hV.row hm) r,HV.done (QV.put4 hV r hm [] (by simp))⟩
theorem zda(s:St)(x:I4):(pend s x).2.1.Ok:=by
 unfold pend zb0;split
 ·exact z4z _
 ·exact zjr
theorem zyx(w:World)(h:Hand)(s:St)(f0:Nat)(x:I4)(f:W4)(hon:h.on=true)(hx:x.Ok)(hfo:f.Ok)(hq:QSt w h s)(hf:s.Fit f0)(hm:f0<100000000) :
  Calls Tryz.prog 25 #[.pointer h.ptr,idV x,uV f] w fun e w'=>e= .returned (.tuple #[uV (ctW s x f),.int .i64 (ctE s x f)])/\QOn w h (ctSt s x f) w':=by
 have hB:=(((HV.start hq).alloc (aO x)).alloc (uO f)).alloc zO;simp only[World.size_alloc]at hB;have hcu:(cur s x).Ok:=z4z _;have hpuo:=zhx (cur s x) f;have hst:∀ s1 s2:St,h.st s1 s2=s2:=fun s1 s2=>by unfold Hand.st;rw[hon];rfl
 have HGD:Hid (∀ rs W,HV h w s rs W->Calls Tryz.prog 69 #[uV f] W fun e w'=>e= .returned (.bool (decide (uCmp f oneW<=0)))/\HV h w s rs w'):=fun rs W hV=>hV.reads fun L' h1=>zhw f hfo W
 have HCU:Hid (∀ rs W,HV h w s rs W->Calls Tryz.prog 18 #[.pointer h.ptr,idV x] W fun e w'=>e= .returned (uV (cur s x))/\HV h w s rs w'):=fun rs W hV=>hV.reads fun L' h1=>z5e W h.ptr s x hx (h1.read hf (by omega))
 have HPU:Hid (∀ rs W,HV h w s rs W->Calls Tryz.prog 87 #[uV (cur s x),uV f] W fun e w'=>e= .returned (.tuple #[uV (puW (cur s x) f),.bool (puB (cur s x) f)])/\HV h w s rs w'):=fun rs W hV=>hV.reads fun L' h1=>zf1 _ f hcu hfo W
 have HAL:Hid (∀ W,Calls Tryz.prog 82 #[idV x] W fun e w'=>e= .returned (.string (aAll x))/\Below W.heap.size W w'):=fun W=>zbn x hx W
 have HSB:Hid (∀ rs W,HV h w s rs W->Calls Tryz.prog 88 #[.pointer h.ptr,.string (aAll x),uV (puW (cur s x) f)] W fun e w'=>e= .returned (.int .i64 (z2t (s.amt (aAll x)) (puW (cur s x) f)))/\HV h w (h.ze0 s (aAll x) (puW (cur s x) f)) rs w'):=fun rs W hV=>hV.csub hf (by omega) _ hpuo
 have hf1:(ctS1 s x f).Fit (f0+2):=hf.z09 _ _;have hf2:(ctS2 s x f).Fit (f0+4):=hf1.z09 _ _;have hz1:(ctS1 s x f).size<1000000000000:=Nat.lt_of_le_of_lt hf1.size (by omega);have hz2:(ctS2 s x f).size<1000000000000:=Nat.lt_of_le_of_lt hf2.size (by omega);have HK:Hid (∀ t:Nat,1<=t->t<=255->∀ W,Calls Tryz.prog 65 #[idV x,.int .i64 t] W fun e w'=>e= .returned (.string (aKey t x))/\Below W.heap.size W w'):=fun t h1 h2 W=>z5v t h1 h2 x hx W
 have HK29:Hid (∀ W,Calls Tryz.prog 65 #[idV x,.int .i64 29] W fun e w'=>e= .returned (.string (aKey 29 x))/\Below W.heap.size W w'):=fun W=>HK.out 29 (by decide) (by decide) W
 have HK31:Hid (∀ W,Calls Tryz.prog 65 #[idV x,.int .i64 31] W fun e w'=>e= .returned (.string (aKey 31 x))/\Below W.heap.size W w'):=fun W=>HK.out 31 (by decide) (by decide) W
 have HLS:Hid (∀ W,Calls Tryz.prog 80 #[uV (cur s x),uV (puW (cur s x) f)] W fun e w'=>e= .returned (uV (z1b (cur s x) (puW (cur s x) f)))/\Below W.heap.size W w'):=fun W=>z9s _ _ hcu hpuo W
 have HSA:Hid (∀ rs W,HV h w (ctS1 s x f) rs W->Calls Tryz.prog 81 #[.pointer h.ptr,.string (aKey 29 x),uV (z1b (cur s x) (puW (cur s x) f))] W fun e w'=>e= .returned (.tuple #[])/\HV h w (ctS2 s x f) rs w'):=fun rs W hV=>by
  have:=hV.cset hz1 (aKey 29 x) (z1b (cur s x) (puW (cur s x) f));rw[hst]at this;exact this
 have hpo:=zda (ctS2 s x f) x;have hlaw2:ctC f=true->ctE s x f=2/\ctW s x f=(0,0,0,0)/\ctSt s x f=s:=fun hc=>by
  have he:ctE s x f=2:=by unfold ctE;rw[if_pos hc]
  unfold ctW ctSt;rw[he,if_neg (by decide),if_neg (by decide)];exact⟨rfl,rfl,rfl⟩
 have hlaw3:ctC f=false->ctE s x f=z2t (s.amt (aAll x)) (puW (cur s x) f)/\(z2t (s.amt (aAll x)) (puW (cur s x) f)≠0->ctW s x f=(0,0,0,0)/\ctSt s x f=s/\h.ze0 s (aAll x) (puW (cur s x) f)=s)/\(z2t (s.amt (aAll x)) (puW (cur s x) f)=0->ctW s x f=puW (cur s x) f/\ctSt s x f=ctS3 s x f/\h.ze0 s (aAll x) (puW (cur s x) f)=ctS1 s x f):=fun hc=>by
  have he:ctE s x f=z2t (s.amt (aAll x)) (puW (cur s x) f):=by unfold ctE;rw[if_neg (by rw[hc];decide)]
  unfold ctW ctSt Hand.ze0;rw[he];refine⟨rfl,fun h1 => ?_,fun h1 => ?_⟩
  ·rw[if_neg h1,if_neg h1,if_neg h1];exact⟨rfl,rfl,rfl⟩
  ·rw[if_pos h1,if_pos h1,if_pos h1,hst];exact⟨rfl,rfl,rfl⟩
 have HPD:Hid (∀ rs W,HV h w (ctS2 s x f) rs W->Calls Tryz.prog 20 #[.pointer h.ptr,idV x] W fun e w'=>e= .returned (.tuple #[.int .i64 (pend (ctS2 s x f) x).1,uV (pend (ctS2 s x f) x).2.1,.int .i64 (pend (ctS2 s x f) x).2.2])/\HV h w (ctS2 s x f) rs w'):=fun rs W hV=>hV.reads fun L' h1=>z5p W h.ptr _ x hx (h1.read hf2 (by omega))
 have HP2:Hid (∀ rs W,HV h w (ctS2 s x f) rs W->Calls Tryz.prog 87 #[uV (pend (ctS2 s x f) x).2.1,uV f] W fun e w'=>e= .returned (.tuple #[uV (puW (pend (ctS2 s x f) x).2.1 f),.bool (puB (pend (ctS2 s x f) x).2.1 f)])/\HV h w (ctS2 s x f) rs w'):=fun rs W hV=>hV.reads fun L' h1=>zf1 _ f hpo hfo W
 have HLS2:Hid (∀ W,Calls Tryz.prog 80 #[uV (pend (ctS2 s x f) x).2.1,uV (puW (pend (ctS2 s x f) x).2.1 f)] W fun e w'=>e= .returned (uV (z1b (pend (ctS2 s x f) x).2.1 (puW (pend (ctS2 s x f) x).2.1 f)))/\Below W.heap.size W w'):=fun W=>z9s _ _ hpo (zhx _ _) W
 have HSA2:Hid (∀ rs W,HV h w (ctS2 s x f) rs W->Calls Tryz.prog 81 #[.pointer h.ptr,.string (aKey 31 x),uV (z1b (pend (ctS2 s x f) x).2.1 (puW (pend (ctS2 s x f) x).2.1 f))] W fun e w'=>e= .returned (.tuple #[])/\HV h w ((ctS2 s x f).z09 (aKey 31 x) (z1b (pend (ctS2 s x f) x).2.1 (puW (pend (ctS2 s x f) x).2.1 f))) rs w'):=fun rs W hV=>by
  have:=hV.cset hz2 (aKey 31 x) (z1b (pend (ctS2 s x f) x).2.1 (puW (pend (ctS2 s x f) x).2.1 f));rw[hst]at this;exact this
 have HS3:Hid (((pend (ctS2 s x f) x).1=2->ctS3 s x f=(ctS2 s x f).z09 (aKey 31 x) (z1b (pend (ctS2 s x f) x).2.1 (puW (pend (ctS2 s x f) x).2.1 f)))/\((pend (ctS2 s x f) x).1≠2->ctS3 s x f=ctS2 s x f)):=by
  unfold ctS3;exact⟨fun h=>by rw[if_pos h],fun h=>by rw[if_neg h]⟩
 have HLW2:=zh hlaw2;have HLW3:=zh hlaw3;have HB:=zh hB;have HCC:Hid (ctC f=(decide (f=(0,0,0,0)) || !decide (uCmp f oneW<=0))):=rfl;clear hlaw2 hlaw3 hB hcu hpuo hst hf1 hf2 hz1 hz2 hpo hq hf hx hfo hm hon HK;generalize ctE s x f=rE at *
 generalize ctW s x f=rW at *
 generalize ctSt s x f=rS at *
 generalize ctS3 s x f=s3 at *
 generalize (ctS2 s x f).z09 (aKey 31 x) (z1b (pend (ctS2 s x f) x).2.1 (puW (pend (ctS2 s x f) x).2.1 f))=s4 at *
 generalize z1b (pend (ctS2 s x f) x).2.1 (puW (pend (ctS2 s x f) x).2.1 f)=lv2 at *
 generalize puW (pend (ctS2 s x f) x).2.1 f=pq at *
 generalize puB (pend (ctS2 s x f) x).2.1 f=pqb at *
 generalize (pend (ctS2 s x f) x).2.2=bb at *
 generalize (pend (ctS2 s x f) x).2.1=pv at *
 generalize (pend (ctS2 s x f) x).1=wy at *
 generalize ctS2 s x f=s2 at *
 generalize ctS1 s x f=s1 at *
 generalize z1b (cur s x) (puW (cur s x) f)=lv at *
 generalize z2t (s.amt (aAll x)) (puW (cur s x) f)=e0 at *
 generalize h.ze0 s (aAll x) (puW (cur s x) f)=sS at *
 generalize puW (cur s x) f=pu at *
 generalize puB (cur s x) f=pub at *
 generalize cur s x=cu at *
 generalize aAll x=kA at *
 generalize aKey 29 x=k29 at *
 generalize aKey 31 x=k31 at *
 generalize ctC f=cc at *
 have HEQ:Hid (∀ w,(Op.equalIn 10000 24 (.agg #[.int .u64 f.1,.int .u64 f.2.1,.int .u64 f.2.2.1,.int .u64 f.2.2.2]) (.agg #[.int .u64 0,.int .u64 0,.int .u64 0,.int .u64 0])).run Tryz.prog w= .ok (decide (f=(0,0,0,0))) w):=fun w=>eqU f (0,0,0,0) w
 have hq0:Program.eqGuardType Tryz.prog Tryz.prog.depth 24=false:=by kernel_rfl
 generalize hgA:decide (uCmp f oneW<=0)=gd at *
 by_cases hf0:f=(0,0,0,0)
 ·have hE:=HEQ.out;rw[decide_eq_true hf0]at hE HCC;obtain⟨r1,r2,r3⟩:=HLW2.out (by rw[HCC.out];rfl);have HR3:=zh (And.intro r1 (And.intro r2 r3));clear r1 r2 r3 HLW2 HLW3 hf0 HEQ;go_enter Tryz.func25,Tryz.ntmps25;go_upto_region 1 with fail;generalize ((w.alloc (aO x)).alloc (uO f)).alloc zO=w1 at *
  obtain⟨f0',f1,f2,f3,_⟩:=row4 (HB.out.row (g:=w.heap.size+1) (o:=uO f) (by simp));obtain⟨z0,z1,z2,z3,zf⟩:=row4 (x:=(0,0,0,0)) (HB.out.row (g:=w.heap.size+1+1) (o:=zO) (by simp));have HF:=zh (HB.out.end4 (g:=w.heap.size+1+1) (y:=(0,0,0,0)) (by simp) (0,0,0,0));go_wp2_with fail;refine bodyPost_ret (z03 rfl _ _ (w.heap.size+1+1) 24 (uL (0,0,0,0)) (0,0) _ rfl HF.out.1 Tryz.underlying24 rfl (by kernel_rfl)) rfl ?_;exact⟨by rw[HR3.out.1,HR3.out.2.1];rfl,by rw[HR3.out.2.2];exact HF.out.2⟩
 ·have hE:=HEQ.out;rw[decide_eq_false hf0]at hE HCC;cases gd with
  | false =>
   obtain⟨r1,r2,r3⟩:=HLW2.out (by rw[HCC.out];rfl);have HR3:=zh (And.intro r1 (And.intro r2 r3));clear r1 r2 r3 HLW2 HLW3 hf0 HEQ hgA;go_enter Tryz.func25,Tryz.ntmps25;go_upto_region 1 with fail;generalize ((w.alloc (aO x)).alloc (uO f)).alloc zO=w1 at *
   obtain⟨f0',f1,f2,f3,_⟩:=row4 (HB.out.row (g:=w.heap.size+1) (o:=uO f) (by simp));go_wp2_with fail;refine zm (HGD.out _ _ HB.out) ?_;rintro e w2 ⟨rfl,hB2⟩;obtain⟨z0,z1,z2,z3,zf⟩:=row4 (x:=(0,0,0,0)) (hB2.row (g:=w.heap.size+1+1) (o:=zO) (by simp));have HF:=zh (hB2.end4 (g:=w.heap.size+1+1) (y:=(0,0,0,0)) (by simp) (0,0,0,0));clear HGD hB2 HB f0' f1 f2 f3;go_wp2_with fail;refine bodyPost_ret (z03 rfl _ _ (w.heap.size+1+1) 24 (uL (0,0,0,0)) (0,0) _ rfl HF.out.1 Tryz.underlying24 rfl (by kernel_rfl)) rfl ?_;exact⟨by rw[HR3.out.1,HR3.out.2.1];rfl,by rw[HR3.out.2.2];exact HF.out.2⟩
  | true =>
   obtain⟨r1,r2,r3⟩:=HLW3.out (by rw[HCC.out];rfl);have HR3:=zh (And.intro r1 (And.intro r2 r3));clear r1 r2 r3 HLW2 HLW3 hf0 HEQ hgA;go_enter Tryz.func25,Tryz.ntmps25;go_upto_region 1 with fail;generalize ((w.alloc (aO x)).alloc (uO f)).alloc zO=w1 at *
   obtain⟨g,hg⟩:∃ g,g=w.heap.size:=⟨_,rfl⟩;rw[<- hg]at HB ⊢;clear hg;obtain⟨f0',f1,f2,f3,_⟩:=row4 (HB.out.row (g:=g+1) (o:=uO f) (by simp));go_wp2_with fail;refine zm (HGD.out _ _ HB.out) ?_;rintro e w2 ⟨rfl,hB2⟩;obtain⟨i0,i1,i2,i3⟩:=z0g (x:=x) (hB2.row (g:=g) (o:=aO x) (by simp));have HB2:=zh hB2;clear HGD hB2 HB f0' f1 f2 f3;go_wp2_with fail;refine zm (HCU.out _ _ HB2.out) ?_;rintro e w3 ⟨rfl,hB3⟩;have HL8:=zh (z02 (hB3.row (g:=g+1+1) (o:=zO) (by simp)));have hB4:=hB3.alloc (uO cu);clear HCU hB3 HB2 i0 i1 i2 i3;go_upto_region 4 with fail;generalize w3.alloc (uO cu)=w4 at *
   generalize w3.heap.size=g8 at *
   obtain⟨f0',f1,f2,f3,_⟩:=row4 (hB4.row (g:=g+1) (o:=uO f) (by simp));obtain⟨c0,c1,c2,c3,_⟩:=row4 (hB4.row (g:=g8) (o:=uO cu) (by simp));have HB4:=zh hB4;clear hB4;go_wp2_with fail;refine zm (HPU.out _ _ HB4.out) ?_;rintro e w5 ⟨rfl,hB5⟩;have HL9:=zh (z02 (hB5.row (g:=g8) (o:=uO cu) (by simp)));have hB6:=hB5.alloc (uO pu);clear HPU HB4 hB5 f0' f1 f2 f3 c0 c1 c2 c3;go_upto_region 5 with fail;generalize w5.alloc (uO pu)=w6 at *
   generalize w5.heap.size=g9 at *
   have H0:Hid (SqPh h w s sS [(g9,uO pu),(g8,uO cu),(g+1+1,zO),(g+1,uO f),(g,aO x)] 0 w6.drew):=hB6.drew;clear hB6;refine z06 [[],[],[1],[],[0,2,3],[4]]
    [.pointer h.ptr,idV x,.string kA,uV pu,.int .i64 e0,.int .i64 e0]
    [4] (SqPh h w s sS [(g9,uO pu),(g8,uO cu),(g+1+1,zO),(g+1,uO f),(g,aO x)]) _ (by kernel_rfl) (by kernel_rfl) (by kernel_rfl)
    (fun vs=>by simp only[z14,z1a,List.setIfInBounds_toArray,List.set_cons_zero,List.set_cons_succ];exact rfl)
    (by simp only[List.getD_cons_zero,List.getD_cons_succ];exact rfl) H0.out ?_ ?_
   ·exact⟨
    fun _ _ _ _ hP _=>z0a rfl (.inl rfl) rfl ⟨rfl,hP⟩,
    fun _ _ _ _ hP _=>z1u rfl rfl rfl (SqPh.row (g:=g) (o:=aO x) hP (by simp)) ⟨rfl,hP⟩,
    fun _ _ w1 hA hP _=>z0m rfl rfl rfl (by kernel_rfl) (rgL1 hA.1) ((HAL.out w1).mono fun _ _ hh=>And.intro hh.1 (SqPh.below hP hh.2)) fun _ hP2=>⟨rfl,hP2⟩,
    fun _ _ _ _ hP _=>z0p rfl rfl rfl (SqPh.row (g:=g9) (o:=uO pu) hP (by simp)) ⟨rfl,hP⟩,
    fun _ _ _ hA hP hq=>by cases hq 0 rfl;exact z0m rfl rfl rfl (by kernel_rfl) (rgL3 hA.1 hA.2.1 hA.2.2.1) (HSB.out _ _ hP) fun _ hP2=>⟨rfl,hP2⟩,
    fun _ _ _ hA hP _=>z0a rfl (.inr rfl) hA.1 ⟨rfl,hP⟩,
    trivial⟩
   ·intro W hW;have HW:Hid (HV h w sS [(g9,uO pu),(g8,uO cu),(g+1+1,zO),(g+1,uO f),(g,aO x)] W):=hW;clear hW
    by_cases he0:e0=0
    ·subst he0;obtain⟨q1,q2,q3⟩:=HR3.out.2.2 rfl;rw[q3]at HW;have HQ3:=zh (And.intro q1 q2);clear q1 q2 q3;go_upto_region 8 with fail;have H1:Hid (SqPh h w s1 s2 [(g9,uO pu),(g8,uO cu),(g+1+1,zO),(g+1,uO f),(g,aO x)] 0 W.drew):=HW.out.drew;refine z06 [[],[],[1],[],[],[3,4],[0,2,5]]
      [.pointer h.ptr,idV x,.string k29,uV cu,uV pu,uV lv,.tuple #[]]
      [6] (SqPh h w s1 s2 [(g9,uO pu),(g8,uO cu),(g+1+1,zO),(g+1,uO f),(g,aO x)]) _ (by kernel_rfl) (by kernel_rfl) (by kernel_rfl)
      (fun vs=>by simp only[z14,z1a,List.setIfInBounds_toArray,List.set_cons_zero,List.set_cons_succ];exact rfl)
      (by simp only[List.getD_cons_zero,List.getD_cons_succ];exact rfl) H1.out ?_ ?_
     ·exact⟨
      fun _ _ _ _ hP _=>z0a rfl (.inl rfl) rfl ⟨rfl,hP⟩,
      fun _ _ _ _ hP _=>z1u rfl rfl rfl (SqPh.row (g:=g) (o:=aO x) hP (by simp)) ⟨rfl,hP⟩,
      fun _ _ w1 hA hP _=>z0m rfl rfl rfl (by kernel_rfl) (rgL2 hA.1 rfl) ((HK29.out w1).mono fun _ _ hh=>And.intro hh.1 (SqPh.below hP hh.2)) fun _ hP2=>⟨rfl,hP2⟩,
      fun _ _ _ _ hP _=>z0p rfl rfl rfl (SqPh.row (g:=g8) (o:=uO cu) hP (by simp)) ⟨rfl,hP⟩,
      fun _ _ _ _ hP _=>z0p rfl rfl rfl (SqPh.row (g:=g9) (o:=uO pu) hP (by simp)) ⟨rfl,hP⟩,
      fun _ _ w1 hA hP _=>z0m rfl rfl rfl (by kernel_rfl) (rgL2 hA.1 hA.2.1) ((HLS.out w1).mono fun _ _ hh=>And.intro hh.1 (SqPh.below hP hh.2)) fun _ hP2=>⟨rfl,hP2⟩,
      fun _ _ _ hA hP hq=>by cases hq 0 rfl;exact z0m rfl rfl rfl (by kernel_rfl) (rgL3 hA.1 hA.2.1 hA.2.2.1) (HSA.out _ _ hP) fun _ hP2=>⟨rfl,hP2⟩,
      trivial⟩
     ·intro W8 hW8;have hV8:HV h w s2 [(g9,uO pu),(g8,uO cu),(g+1+1,zO),(g+1,uO f),(g,aO x)] W8:=hW8;obtain⟨i0,i1,i2,i3⟩:=z0g (x:=x) (hV8.row (g:=g) (o:=aO x) (by simp));have HV8:=zh hV8;clear hW8 hV8 HW H1;go_wp2_with fail;refine zm (HPD.out _ _ HV8.out) ?_;rintro e w9 ⟨rfl,hV9⟩;have hV10:=hV9.alloc (uO pv);clear HV8 hV9 i0 i1 i2 i3;go_upto_region 10 with fail;generalize w9.alloc (uO pv)=w10 at *
      generalize w9.heap.size=g13 at *
      have HV10:Hid (HV h w s2 [(g13,uO pv),(g9,uO pu),(g8,uO cu),(g+1+1,zO),(g+1,uO f),(g,aO x)] w10):=hV10;clear hV10
      by_cases hwy:wy=2
      ·have hb1:((wy:Int)==2)=true:=by simp[hwy]
       have hb2:(wy==2)=true:=by simp[hwy]
       have hs3:=HS3.out.1 hwy;have HS3e:=zh hs3;subst hwy;obtain⟨f0',f1,f2,f3,_⟩:=row4 (HV10.out.row (g:=g+1) (o:=uO f) (by simp));obtain⟨v0,v1,v2,v3,_⟩:=row4 (HV10.out.row (g:=g13) (o:=uO pv) (by simp));clear hs3 HS3;go_wp2_with fail;refine zm (HP2.out _ _ HV10.out) ?_;rintro e w11 ⟨rfl,hV11⟩;have hV12:=hV11.alloc (uO pq);clear HV10 hV11 f0' f1 f2 f3 v0 v1 v2 v3;go_upto_region 12 with fail;generalize w11.alloc (uO pq)=w12 at *
       generalize w11.heap.size=g15 at *
       have H2:Hid (SqPh h w s2 s4 [(g15,uO pq),(g13,uO pv),(g9,uO pu),(g8,uO cu),(g+1+1,zO),(g+1,uO f),(g,aO x)] 0 w12.drew):=hV12.drew;clear hV12;refine z06 [[],[],[1],[],[],[3,4],[0,2,5]]
        [.pointer h.ptr,idV x,.string k31,uV pv,uV pq,uV lv2,.tuple #[]]
        [6] (SqPh h w s2 s4 [(g15,uO pq),(g13,uO pv),(g9,uO pu),(g8,uO cu),(g+1+1,zO),(g+1,uO f),(g,aO x)]) _ (by kernel_rfl) (by kernel_rfl) (by kernel_rfl)
        (fun vs=>by simp only[z14,z1a,List.setIfInBounds_toArray,List.set_cons_zero,List.set_cons_succ];exact rfl)
        (by simp only[List.getD_cons_zero,List.getD_cons_succ];exact rfl) H2.out ?_ ?_
       ·exact⟨
        fun _ _ _ _ hP _=>z0a rfl (.inl rfl) rfl ⟨rfl,hP⟩,
        fun _ _ _ _ hP _=>z1u rfl rfl rfl (SqPh.row (g:=g) (o:=aO x) hP (by simp)) ⟨rfl,hP⟩,
        fun _ _ w1 hA hP _=>z0m rfl rfl rfl (by kernel_rfl) (rgL2 hA.1 rfl) ((HK31.out w1).mono fun _ _ hh=>And.intro hh.1 (SqPh.below hP hh.2)) fun _ hP2=>⟨rfl,hP2⟩,
        fun _ _ _ _ hP _=>z0p rfl rfl rfl (SqPh.row (g:=g13) (o:=uO pv) hP (by simp)) ⟨rfl,hP⟩,
        fun _ _ _ _ hP _=>z0p rfl rfl rfl (SqPh.row (g:=g15) (o:=uO pq) hP (by simp)) ⟨rfl,hP⟩,
        fun _ _ w1 hA hP _=>z0m rfl rfl rfl (by kernel_rfl) (rgL2 hA.1 hA.2.1) ((HLS2.out w1).mono fun _ _ hh=>And.intro hh.1 (SqPh.below hP hh.2)) fun _ hP2=>⟨rfl,hP2⟩,
        fun _ _ _ hA hP hq=>by cases hq 0 rfl;exact z0m rfl rfl rfl (by kernel_rfl) (rgL3 hA.1 hA.2.1 hA.2.2.1) (HSA2.out _ _ hP) fun _ hP2=>⟨rfl,hP2⟩,
        trivial⟩
       ·intro W13 hW13;have hV13:HV h w s4 [(g15,uO pq),(g13,uO pv),(g9,uO pu),(g8,uO cu),(g+1+1,zO),(g+1,uO f),(g,aO x)] W13:=hW13;obtain⟨p0,p1,p2,p3,_⟩:=row4 (hV13.row (g:=g9) (o:=uO pu) (by simp));obtain⟨z0,z1,z2,z3,zf⟩:=row4 (x:=(0,0,0,0)) (hV13.row (g:=g+1+1) (o:=zO) (by simp));have HF:=zh (hV13.end4 (g:=g+1+1) (y:=(0,0,0,0)) (by simp) pu);clear hV13 hW13;go_wp2_with fail;refine bodyPost_ret (z03 rfl _ _ (g+1+1) 24 (uL pu) (0,0) _ rfl HF.out.1 Tryz.underlying24 rfl (by kernel_rfl)) rfl ?_;exact⟨by rw[HR3.out.1,HQ3.out.1];rfl,by rw[HQ3.out.2,HS3e.out];exact HF.out.2⟩
      ·have hb1:((wy:Int)==2)=false:=by simpa using (by omega:¬ (wy:Int)=2)
       have hb2:(wy==2)=false:=by simpa using hwy
       have hs3:=HS3.out.2 hwy;have HS3e:=zh hs3;have hV13:=HV10.out;clear hs3 HS3;obtain⟨p0,p1,p2,p3,_⟩:=row4 (hV13.row (g:=g9) (o:=uO pu) (by simp));obtain⟨z0,z1,z2,z3,zf⟩:=row4 (x:=(0,0,0,0)) (hV13.row (g:=g+1+1) (o:=zO) (by simp));have HF:=zh (hV13.end4 (g:=g+1+1) (y:=(0,0,0,0)) (by simp) pu);clear hV13 HV10;go_wp2_with fail;refine bodyPost_ret (z03 rfl _ _ (g+1+1) 24 (uL pu) (0,0) _ rfl HF.out.1 Tryz.underlying24 rfl (by kernel_rfl)) rfl ?_;exact⟨by rw[HR3.out.1,HQ3.out.1];rfl,by rw[HQ3.out.2,HS3e.out];exact HF.out.2⟩
    ·have hbe:(e0==0)=false:=by simpa using he0
     obtain⟨z0,z1,z2,z3,zf⟩:=row4 (x:=(0,0,0,0)) (HW.out.row (g:=g+1+1) (o:=zO) (by simp));have HF:=zh (HW.out.end4 (g:=g+1+1) (y:=(0,0,0,0)) (by simp) (0,0,0,0));obtain⟨q1,q2,q3⟩:=HR3.out.2.1 he0;have HQ3:=zh (And.intro q1 (And.intro q2 q3));clear q1 q2 q3;go_wp2_with fail;refine bodyPost_ret (z03 rfl _ _ (g+1+1) 24 (uL (0,0,0,0)) (0,0) _ rfl HF.out.1 Tryz.underlying24 rfl (by kernel_rfl)) rfl ?_;exact⟨by rw[HR3.out.1,HQ3.out.1];rfl,by rw[HQ3.out.2.1,<- HQ3.out.2.2];exact HF.out.2⟩
end Go.Proofs.YtnkilceibkkjlaaGreat
