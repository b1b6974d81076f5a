/- What is proved here: alloc's grow, of more that waits. It -/
import Derived.Deep.Cut
import Derived.Test.YtnkilceibkkjlaaGreatKAlH
set_option maxRecDepth 100000
set_option maxHeartbeats 16000000
namespace Go.Proofs.YtnkilceibkkjlaaGreat
open Go.RowKit
structure GAt (w:World) (b:Nat) (L:List Nat) (s:St) (x:I4) (tt mx:W4) (bk dl tl:Int) (sl:Bool) (by':W4) (W:World):Prop where
 hb:Below w.heap.size w W
 hs:SRep W b s L
 hA:W.heap[w.heap.size]?=some (.cells (idL x) 34 (0,0))
 hB:W.heap[w.heap.size+1]?=some (.cells (chL tt mx bk dl tl sl) 36 (0,0))
 hC:W.heap[w.heap.size+1+1]?=some (.cells (uL by') 24 (0,0))
theorem zs8(w:World)(b:Nat)(s:St)(L:List Nat)(h:SRep w b s L):Calls Tryz.prog 73 #[.pointer (some ⟨b,0,none⟩)] w fun e w'=>e= .returned (.int .i64 s.past.length)/\w=w':=by
 have HI:=zh (z9h w b true h.cell0);obtain⟨mb,es,clk,bv,pv,bs,h,rfl⟩:=h;obtain⟨a,c,rfl,_⟩:=h.ps.form;obtain⟨_,_,_,c3,_⟩:=z0q h.hd;clear h;generalize s.past.length=n at *
 go_enter Tryz.func73,Tryz.ntmps73;go_wp2_with (go_at_call 142;refine HI.out.mono ?_;rintro e w' ⟨rfl,rfl⟩);go_ret;exact⟨rfl,rfl⟩
structure AMAt (w:World) (b:Nat) (L:List Nat) (s:St) (x:I4) (tt mx:W4) (bk dl tl:Int) (sl:Bool) (W:World):Prop where
 hb:Below w.heap.size w W
 hs:SRep W b s L
 hA:W.heap[w.heap.size]?=some (.cells (idL x) 34 (0,0))
 hB:W.heap[w.heap.size+1]?=some (.cells (chL tt mx bk dl tl sl) 36 (0,0))
theorem zzn(a b c d a' b' c' d':Int)(w:World):(Op.equalIn 10000 34 (.agg #[.int .i64 a,.int .i64 b,.int .i64 c,.int .i64 d]) (.agg #[.int .i64 a',.int .i64 b',.int .i64 c',.int .i64 d'])).run Tryz.prog w= .ok (a==a'&&(b==b'&&(c==c'&&d==d'))) w:=by
 have u3:=Tryz.underlying3;have a3:=Tryz.isAgg3;have z3:=Tryz.sizeOf3;have hS:Tryz.prog.underlying 34=some (.struct (Tryz.prog.fieldsOf 34)):=by kernel_rfl
 have hp:Tryz.prog.stoodInHeld 34=false:=by kernel_rfl
 rw[show(10000:Nat)=9999+1 from rfl,run_equalIn_agg w 9999 34 _ _ hS hp]
 simp only[Program.fieldsOf,Tryz.underlying34]
 go_simp
 by_cases h1:a=a'<;>by_cases h2:b=b'<;>by_cases h3:c=c'<;>by_cases h4:d=d'<;>simp[h1,h2,h3,h4]
def aGd(x:I4):Bool:=decide (1<=x.1)&&(decide (1<=x.2.1)&&(decide (0<=x.2.2.1)&&decide (0<=x.2.2.2)))
theorem zqq(x:I4)(w:World):Calls Tryz.prog 67 #[idV x] w fun e w'=>e= .returned (.bool (aGd x))/\Below w.heap.size w w':=by
 have hb:=z00 (Below.refl _ w) (.cells (idL x) 34);obtain⟨q0,q1,q2,q3⟩:=z0g (heap_alloc_new w (.cells (idL x) 34));have hE:=fun w=>zzn x.1 x.2.1 x.2.2.1 x.2.2.2 0 0 0 0 w
 have HG:Hid (aGd x=(decide (1<=x.1)&&(decide (1<=x.2.1)&&(decide (0<=x.2.2.1)&&decide (0<=x.2.2.2))))):=rfl;generalize aGd x=G at *
 by_cases h0:x.1=0/\x.2.1=0/\x.2.2.1=0/\x.2.2.2=0
 ·obtain⟨h1,h2,h3,h4⟩:=h0;have hG:G=false:=by rw[HG.out,h1];rfl
  have hE':∀ w,(Op.equalIn 10000 34 (.agg #[.int .i64 x.1,.int .i64 x.2.1,.int .i64 x.2.2.1,.int .i64 x.2.2.2]) (.agg #[.int .i64 0,.int .i64 0,.int .i64 0,.int .i64 0])).run Tryz.prog w= .ok true w:=fun w=>by rw[hE w,h1,h2,h3,h4];rfl
  clear hE h1 h2 h3 h4;go_enter Tryz.func67,Tryz.ntmps67;go_wp2_with fail;go_ret;exact⟨by rw[hG];rfl,hb⟩
 ·have hE':∀ w,(Op.equalIn 10000 34 (.agg #[.int .i64 x.1,.int .i64 x.2.1,.int .i64 x.2.2.1,.int .i64 x.2.2.2]) (.agg #[.int .i64 0,.int .i64 0,.int .i64 0,.int .i64 0])).run Tryz.prog w= .ok false w:=fun w=>by
   rw[hE w];congr 1;rw[Bool.eq_false_iff];intro h;simp only[Bool.and_eq_true,beq_iff_eq]at h;exact h0 ⟨h.1,h.2.1,h.2.2.1,h.2.2.2⟩
  clear hE h0;have HB:=zh hb;clear hb;generalize ha:decide ((1:Int)<=x.1)=A at *
  generalize hb:decide ((1:Int)<=x.2.1)=B at *
  generalize hc:decide ((0:Int)<=x.2.2.1)=C at *
  generalize hd:decide ((0:Int)<=x.2.2.2)=D at *
  cases A with
  | false =>
   go_enter Tryz.func67,Tryz.ntmps67;go_wp2_with fail;go_ret;exact⟨by rw[HG.out];rfl,HB.out⟩
  | true =>
   cases B with
   | false =>
    go_enter Tryz.func67,Tryz.ntmps67;go_wp2_with fail;go_ret;exact⟨by rw[HG.out];rfl,HB.out⟩
   | true =>
    cases C with
    | false =>
     go_enter Tryz.func67,Tryz.ntmps67;go_wp2_with fail;go_ret;exact⟨by rw[HG.out];rfl,HB.out⟩
    | true =>
     go_enter Tryz.func67,Tryz.ntmps67;go_wp2_with fail;go_ret;exact⟨by rw[HG.out];rfl,HB.out⟩
def blkB(n:Int):Bool:=decide (n<0)||decide (1099511627776<n)
def z3j(l:List Int):Bool:=!l.any blkB
theorem zj5(w:World)(g c:Nat)(l:List Int)(hl:l.length<1000000)(h:zce w g l):Calls Tryz.prog 68 #[.slice (some ⟨g,0,none⟩) l.length c] w fun e w'=>e= .returned (.bool (z3j l))/\w=w':=by
 have HC:Hid (∀ k,k<l.length->∃ n:Int,l[k]?=some n/\w.cell? ⟨g,k,none⟩=some (.int .i64 n)):=fun k hk=>⟨l[k],List.getElem?_eq_getElem hk,h k _ (List.getElem?_eq_getElem hk)⟩
 have hl2:(l.length:Int)<9223372036854775807:=by omega
 have HBAD:Hid (∀ (k:Nat) (n:Int),l[k]?=some n->blkB n=true->z3j l=false):=fun k n hk hb=>by
  unfold z3j;rw[List.any_eq_true.2 ⟨n,List.mem_of_getElem? hk,hb⟩];rfl
 have HALL:Hid ((∀ (j:Nat),j<l.length->∀ n:Int,l[j]?=some n->blkB n=false)->z3j l=true):=fun hj=>by
  unfold z3j;rw[Bool.not_eq_true',Bool.eq_false_iff];intro he;obtain⟨n,hn,hb⟩:=List.any_eq_true.1 he;obtain⟨j,hjl,hjn⟩:=List.getElem_of_mem hn;rw[hj j hjl n (by rw[List.getElem?_eq_getElem hjl,hjn])]at hb;cases hb
 clear h hl;generalize z3j l=R at *
 generalize hml:l.length=m at *
 go_enter Tryz.func68,Tryz.ntmps68;go_wp2_with fail
 go_loopw [7] (fun iv wr=>∃ k:Nat,iv= .int .i64 k/\k<=m/\w=wr/\∀ j,j<k->∀ n:Int,l[j]?=some n->blkB n=false) (fun iv _=>m-(intOf iv).toNat)
 case atStart=>exact⟨0,rfl,by omega,rfl,fun j hj=>absurd hj (Nat.not_lt_zero j)⟩
 case round =>
  obtain⟨k,rfl,hk,rfl,hall⟩:=hrel;have HA:=zh hall;clear hall
  by_cases hlt:k<m
  ·obtain⟨n,hn,hc⟩:=HC.out k hlt;have HN:=zh hn;clear hn
   by_cases h1:n<0
   ·have hd:decide (n<0)=true:=decide_eq_true h1;have hR:R=false:=HBAD.out k n HN.out (by unfold blkB;rw[hd];rfl);clear h1 HBAD HALL;go_wp2_with fail;go_ret;exact⟨by rw[hR];rfl,rfl⟩
   ·have hd:decide (n<0)=false:=decide_eq_false h1
    by_cases h2:(1099511627776:Int)<n
    ·have hd2:decide ((1099511627776:Int)<n)=true:=decide_eq_true h2;have hR:R=false:=HBAD.out k n HN.out (by unfold blkB;rw[hd,hd2];rfl);clear h1 h2 HBAD HALL;go_wp2_with fail;go_ret;exact⟨by rw[hR];rfl,rfl⟩
    ·have hd2:decide ((1099511627776:Int)<n)=false:=decide_eq_false h2;have HB:Hid (blkB n=false):=by unfold blkB;rw[hd,hd2];rfl
     clear h1 h2;go_wp2_with fail;go_roundw
     case rel=>exact⟨k+1,by go_num,by omega,by first | rfl | trivial,fun j hj n' hn'=>by
      rcases Nat.lt_succ_iff_lt_or_eq.1 hj with h | h
      ·exact HA.out j h n' hn'
      ·subst h;rw[HN.out]at hn';cases hn'
       exact HB.out⟩
     case measure=>simp[intOf];omega
  ·obtain rfl:k=m:=by omega
   have hR:R=true:=HALL.out HA.out;clear HALL HBAD;go_wp2_with fail;go_ret;exact⟨by rw[hR];rfl,rfl⟩
theorem HV.mark{h:Hand}{w W:World}{s:St}{rs:List (Nat × Obj)}(hV:HV h w s rs W)(hon:h.on=true):Calls Tryz.prog 73 #[.pointer h.ptr] W fun e w'=>e= .returned (.int .i64 s.past.length)/\HV h w s rs w':=by
 obtain⟨L',h1,h2,h3⟩:=hV.on;rcases h1 with⟨_,b,hp,hS⟩ | ⟨h0,_⟩
 ·have hp':h.ptr=some ⟨b,0,none⟩:=hp;rw[hp'];exact(zs8 W b s L' hS).mono fun e w' ⟨he,hw⟩=>⟨he,by subst hw;exact hV⟩
 ·rw[show h.on=false from h0]at hon;cases hon
theorem HV.made{h:Hand}{w W:World}{s:St}{rs:List (Nat × Obj)}(hV:HV h w s rs W)(hon:h.on=true):Calls Tryz.prog 66 #[.pointer h.ptr] W fun e w'=>e= .returned (.bool true)/\HV h w s rs w':=by
 obtain⟨L',h1,h2,h3⟩:=hV.on;rcases h1 with⟨_,b,hp,hS⟩ | ⟨h0,_⟩
 ·have hp':h.ptr=some ⟨b,0,none⟩:=hp;rw[hp'];exact(zfe W b true hS.cell0).mono fun e w' ⟨he,hw⟩=>⟨he,by subst hw;exact hV⟩
 ·rw[show h.on=false from h0]at hon;cases hon
theorem HV.undo{h:Hand}{w W:World}{s:St}{rs:List (Nat × Obj)}(hV:HV h w s rs W)(hon:h.on=true)(m:Nat)(hm:m<=s.past.length)(hz:s.size<1000000000000):Calls Tryz.prog 74 #[.pointer h.ptr,.int .i64 m] W fun e w'=>(∃ b,e= .returned (.bool b))/\HV h w (s.undo m) rs w':=
 QV.zmf hV fun L' h1 _=>by
  have:=zxy W ⟨h.ptr,h.on,L'⟩ s m h1 hm hz
  have e:Hand.st ⟨h.ptr,h.on,L'⟩ s (s.undo m)=s.undo m:=by unfold Hand.st;rw[show(Hand.mk h.ptr h.on L').on=true from hon];rfl
  rw[e]at this
  exact this
def mdUp(s:St)(x:I4)(tt:W4):Bool:=subB tt (cur s x)
def mdY(s:St)(x:I4)(tt:W4):W4:=if mdUp s x tt then subW tt (cur s x)else subW (cur s x) tt
def mdE0(s:St)(x:I4)(tt:W4)(bk dl tl:Int):Int:=if !(aGd x&&z3j [bk,dl,tl])then 2 else if !decide (uCmp tt oneW<=0)then 5 else if (pend s x).1≠0 then 16 else if mdUp s x tt&&decide (mdY s x tt=(0,0,0,0))then 17 else 0
def mdTE(s:St)(x:I4)(tt mx:W4)(bk dl tl:Int)(sl:Bool):Int:=if mdUp s x tt then grE s x mx (mdY s x tt) bk.toNat dl.toNat else shE s x (mdY s x tt) bk.toNat tl.toNat sl
def mdTN(s:St)(x:I4)(tt mx:W4)(bk dl tl:Int)(sl:Bool):Nat:=if mdUp s x tt then grN s x mx (mdY s x tt) bk.toNat dl.toNat else shN s x bk.toNat tl.toNat sl
def mdTS(s:St)(x:I4)(tt mx:W4)(bk dl tl:Int)(sl:Bool):St:=if mdUp s x tt then grSt s x tt mx (mdY s x tt) bk.toNat dl.toNat else shSt s x tt (mdY s x tt) bk.toNat tl.toNat sl
def mdE(s:St)(x:I4)(tt mx:W4)(bk dl tl:Int)(sl:Bool):Int:=if mdE0 s x tt bk dl tl=0 then mdTE s x tt mx bk dl tl sl else mdE0 s x tt bk dl tl
def mdN(s:St)(x:I4)(tt mx:W4)(bk dl tl:Int)(sl:Bool):Nat:=if mdE0 s x tt bk dl tl=0 then(if mdTE s x tt mx bk dl tl sl=0 then mdTN s x tt mx bk dl tl sl else 0)else 0
def mdSt(s:St)(x:I4)(tt mx:W4)(bk dl tl:Int)(sl:Bool):St:=if mdE0 s x tt bk dl tl=0 then(if mdTE s x tt mx bk dl tl sl=0 then mdTS s x tt mx bk dl tl sl else(mdTS s x tt mx bk dl tl sl).undo s.past.length)else s
theorem zcp{x:I4}(hg:aGd x=true)(hx:x.Ok):∀ n∈x.l,0<=n/\n<9223372036854775808:=fun n hn=>by
 refine⟨?_,hx n hn⟩
 unfold aGd at hg
 simp only[Bool.and_eq_true,decide_eq_true_eq]at hg
 obtain⟨h1,h2,h3,h4⟩:=hg
 simp only[List.mem_cons,List.not_mem_nil,or_false]at hn
 rcases hn with rfl | rfl | rfl | rfl<;>omega
theorem z8e{bk dl tl:Int}(h:z3j [bk,dl,tl]=true):(0<=bk/\bk<=1099511627776)/\(0<=dl/\dl<=1099511627776)/\(0<=tl/\tl<=1099511627776):=by
 unfold z3j blkB at h;simp only[List.any_cons,List.any_nil,Bool.or_false,Bool.not_eq_true',Bool.or_eq_false_iff,decide_eq_false_iff_not]at h;omega
structure MdOk (s:St) (x:I4) (tt mx:W4) (bk dl tl:Int) (sl:Bool):Prop where
 eb:(ends s 33 [x.1,x.2.1]).2<4611686018427387904
 kg:∀ z∈(z0t (grS1 s x (mdY s x tt)) x 1 (mdY s x tt) (bk.toNat+dl.toNat)).ents,z.1.size<1000000000000
 ks:∀ z∈(z0t (shP s x) x 2 (mdY s x tt) (bk.toNat+tl.toNat)).ents,z.1.size<1000000000000
 ng:(z1z (z0t (grS1 s x (mdY s x tt)) x 1 (mdY s x tt) (bk.toNat+dl.toNat)) (bk.toNat+dl.toNat) x.l).int K27<1000000000000
 ns:(z1z (z0t (shP s x) x 2 (mdY s x tt) (bk.toNat+tl.toNat)) (bk.toNat+tl.toNat) x.l).int K27<1000000000000
 pl:s.past.length<=(mdTS s x tt mx bk dl tl sl).past.length
 sz:(mdTS s x tt mx bk dl tl sl).size<1000000000000
theorem zha(s:St)(x:I4)(tt:W4):(mdY s x tt).Ok:=by
 unfold mdY;split
 ·exact zjd _ _
 ·exact zjd _ _
theorem zca(w:World)(h:Hand)(s:St)(f:Nat)(bk dl tl:Int)(x:I4)(tt mx:W4)(sl:Bool)(hon:h.on=true)(hxo:x.Ok)(hto:tt.Ok)(hmx:mx.Ok)(hq:QSt w h s)(hf:s.Fit f)(hm:f<10000000)(hok:aGd x=true->z3j [bk,dl,tl]=true->MdOk s x tt mx bk dl tl sl) :
  Calls Tryz.prog 19 #[.pointer h.ptr,idV x,chV tt mx bk dl tl sl] w fun e w'=>e= .returned (.tuple #[.int .i64 (mdN s x tt mx bk dl tl sl),.int .i64 (mdE s x tt mx bk dl tl sl)])/\QOn w h (mdSt s x tt mx bk dl tl sl) w':=by
 have hB:=((HV.start hq).alloc (aO x)).alloc (chO tt mx bk dl tl sl);simp only[World.size_alloc]at hB;have hcu:(cur s x).Ok:=z4z _;have HMD:Hid (∀ rs W,HV h w s rs W->Calls Tryz.prog 66 #[.pointer h.ptr] W fun e w'=>e= .returned (.bool true)/\HV h w s rs w'):=fun rs W hV=>hV.made hon
 have HGO:Hid (∀ rs W,HV h w s rs W->Calls Tryz.prog 67 #[idV x] W fun e w'=>e= .returned (.bool (aGd x))/\HV h w s rs w'):=fun rs W hV=>(zqq x W).mono fun e w' ⟨he,hb⟩=>⟨he,hV.below hb⟩
 have HBL:Hid (∀ rs W,HV h w s rs W->Calls Tryz.prog 68 #[.slice (some ⟨W.heap.size,0,none⟩) 3 3] (W.alloc (.cells #[.int .i64 bk,.int .i64 dl,.int .i64 tl] 3)) fun e w'=>e= .returned (.bool (z3j [bk,dl,tl]))/\HV h w s rs w'):=fun rs W hV =>
  (zj5 (W.alloc (.cells #[.int .i64 bk,.int .i64 dl,.int .i64 tl] 3)) W.heap.size 3 [bk,dl,tl] (by simp) (fun j z hj=>by
   rw[cell_of_row _ _ _ _ _ _ (heap_alloc_new W (.cells #[.int .i64 bk,.int .i64 dl,.int .i64 tl] 3))]
   match j,hj with
   | 0,hj=>cases hj;rfl
   | 1,hj=>cases hj;rfl
   | 2,hj=>cases hj;rfl)).mono fun e w' ⟨he,hw⟩=>⟨he,by subst hw;exact hV.below (z00 (Below.refl _ W) _)⟩
 have HWG:Hid (∀ rs W,HV h w s rs W->Calls Tryz.prog 69 #[uV tt] W fun e w'=>e= .returned (.bool (decide (uCmp tt oneW<=0)))/\HV h w s rs w'):=fun rs W hV=>hV.reads fun L' h1=>zhw tt hto W
 have HPD:Hid (∀ rs W,HV h w s rs W->Calls Tryz.prog 20 #[.pointer h.ptr,idV x] W fun e w'=>e= .returned (.tuple #[.int .i64 (pend s x).1,uV (pend s x).2.1,.int .i64 (pend s x).2.2])/\HV h w s rs w'):=fun rs W hV=>hV.reads fun L' h1=>z5p W h.ptr _ x hxo (h1.read hf (by omega))
 have HCU:Hid (∀ rs W,HV h w s rs W->Calls Tryz.prog 18 #[.pointer h.ptr,idV x] W fun e w'=>e= .returned (uV (cur s x))/\HV h w s rs w'):=fun rs W hV=>hV.reads fun L' h1=>z5e W h.ptr s x hxo (h1.read hf (by omega))
 have HSU:Hid (∀ rs W,HV h w s rs W->Calls Tryz.prog 71 #[uV tt,uV (cur s x)] W fun e w'=>e= .returned (.tuple #[uV (subW tt (cur s x)),.bool (subB tt (cur s x))])/\HV h w s rs w'):=fun rs W hV=>hV.reads fun L' h1=>znl tt _ hto hcu W
 have HSD:Hid (∀ rs W,HV h w s rs W->Calls Tryz.prog 71 #[uV (cur s x),uV tt] W fun e w'=>e= .returned (.tuple #[uV (subW (cur s x) tt),.bool (subB (cur s x) tt)])/\HV h w s rs w'):=fun rs W hV=>hV.reads fun L' h1=>znl _ tt hcu hto W
 have HMK:Hid (∀ rs W,HV h w s rs W->Calls Tryz.prog 73 #[.pointer h.ptr] W fun e w'=>e= .returned (.int .i64 s.past.length)/\HV h w s rs w'):=fun rs W hV=>hV.mark hon
 have HGR:Hid (aGd x=true->z3j [bk,dl,tl]=true->mdUp s x tt=true->∀ rs W,HV h w s rs W->Calls Tryz.prog 70 #[idV x,.pointer h.ptr,chV tt mx bk dl tl sl,uV (mdY s x tt)] W fun e w'=>e= .returned (.tuple #[.int .i64 (mdTN s x tt mx bk dl tl sl),.int .i64 (mdTE s x tt mx bk dl tl sl)])/\HV h w (mdTS s x tt mx bk dl tl sl) rs w'):=fun hg hb hu rs W hV=>by
  have hk:=hok hg hb;obtain⟨⟨k1,k2⟩,⟨k3,k4⟩,k5,k6⟩:=z8e hb;have e1:mdTN s x tt mx bk dl tl sl=grN s x mx (mdY s x tt) bk.toNat dl.toNat:=if_pos hu;have e2:mdTE s x tt mx bk dl tl sl=grE s x mx (mdY s x tt) bk.toNat dl.toNat:=if_pos hu;have e3:mdTS s x tt mx bk dl tl sl=grSt s x tt mx (mdY s x tt) bk.toNat dl.toNat:=if_pos hu;rw[e1,e2,e3];obtain⟨b,rfl⟩:∃ b:Nat,bk=b:=⟨bk.toNat,by omega⟩;obtain⟨d,rfl⟩:∃ b:Nat,dl=b:=⟨dl.toNat,by omega⟩;rw[Int.toNat_natCast,Int.toNat_natCast];refine QV.call hV fun L' h1 => ?_
  exact zxs W ⟨h.ptr,h.on,L'⟩ s f b d tl x tt mx (mdY s x tt) sl hon (zcp hg hxo) hmx (zha _ _ _) h1 hf hm (by omega) (by omega) hk.kg hk.ng
 have HSH:Hid (aGd x=true->z3j [bk,dl,tl]=true->mdUp s x tt=false->∀ rs W,HV h w s rs W->Calls Tryz.prog 72 #[idV x,.pointer h.ptr,chV tt mx bk dl tl sl,uV (mdY s x tt)] W fun e w'=>e= .returned (.tuple #[.int .i64 (mdTN s x tt mx bk dl tl sl),.int .i64 (mdTE s x tt mx bk dl tl sl)])/\HV h w (mdTS s x tt mx bk dl tl sl) rs w'):=fun hg hb hu rs W hV=>by
  have hk:=hok hg hb;obtain⟨⟨k1,k2⟩,⟨k3,k4⟩,k5,k6⟩:=z8e hb;have e1:mdTN s x tt mx bk dl tl sl=shN s x bk.toNat tl.toNat sl:=if_neg (by rw[hu];decide);have e2:mdTE s x tt mx bk dl tl sl=shE s x (mdY s x tt) bk.toNat tl.toNat sl:=if_neg (by rw[hu];decide);have e3:mdTS s x tt mx bk dl tl sl=shSt s x tt (mdY s x tt) bk.toNat tl.toNat sl:=if_neg (by rw[hu];decide);rw[e1,e2,e3];obtain⟨b,rfl⟩:∃ b:Nat,bk=b:=⟨bk.toNat,by omega⟩;obtain⟨d,rfl⟩:∃ b:Nat,tl=b:=⟨tl.toNat,by omega⟩;rw[Int.toNat_natCast,Int.toNat_natCast];refine QV.call hV fun L' h1 => ?_
  exact ztz W ⟨h.ptr,h.on,L'⟩ s f b d dl x tt mx (mdY s x tt) sl hon (zcp hg hxo) (zha _ _ _) h1 hf hm (by omega) (by omega) hk.eb hk.ks hk.ns
 have HUN:Hid (aGd x=true->z3j [bk,dl,tl]=true->∀ rs W,HV h w (mdTS s x tt mx bk dl tl sl) rs W->Calls Tryz.prog 74 #[.pointer h.ptr,.int .i64 s.past.length] W fun e w'=>(∃ b,e= .returned (.bool b))/\HV h w ((mdTS s x tt mx bk dl tl sl).undo s.past.length) rs w'):=fun hg hb rs W hV=>hV.undo hon _ (hok hg hb).pl (hok hg hb).sz
 have HLAW:Hid ((mdE0 s x tt bk dl tl≠0->mdN s x tt mx bk dl tl sl=0/\mdE s x tt mx bk dl tl sl=mdE0 s x tt bk dl tl/\mdSt s x tt mx bk dl tl sl=s)/\(mdE0 s x tt bk dl tl=0->(mdTE s x tt mx bk dl tl sl=0->mdN s x tt mx bk dl tl sl=mdTN s x tt mx bk dl tl sl/\mdE s x tt mx bk dl tl sl=0/\mdSt s x tt mx bk dl tl sl=mdTS s x tt mx bk dl tl sl) /\
   (mdTE s x tt mx bk dl tl sl≠0->mdN s x tt mx bk dl tl sl=0/\mdE s x tt mx bk dl tl sl=mdTE s x tt mx bk dl tl sl/\mdSt s x tt mx bk dl tl sl=(mdTS s x tt mx bk dl tl sl).undo s.past.length))):=by
  unfold mdN mdE mdSt;refine⟨fun h0=>by simp[h0],fun h0=>⟨fun h1=>by simp[h0,h1],fun h1=>by simp[h0,h1]⟩⟩
 have HE0:Hid (mdE0 s x tt bk dl tl=if !(aGd x&&z3j [bk,dl,tl])then 2 else if !decide (uCmp tt oneW<=0)then 5 else if (pend s x).1≠0 then 16 else if mdUp s x tt&&decide (mdY s x tt=(0,0,0,0))then 17 else 0):=rfl;have HUP:Hid (subB tt (cur s x)=mdUp s x tt):=rfl;have HYU:Hid (mdUp s x tt=true->subW tt (cur s x)=mdY s x tt):=fun hu=>(if_pos hu).symm
 have HYD:Hid (mdUp s x tt=false->subW (cur s x) tt=mdY s x tt):=fun hu=>(if_neg (by rw[hu];decide)).symm
 have HB:=zh hB;clear hB hcu hq hf hxo hto hmx hm hon hok;generalize mdN s x tt mx bk dl tl sl=rN at *
 generalize mdE s x tt mx bk dl tl sl=rE at *
 generalize mdSt s x tt mx bk dl tl sl=rS at *
 generalize (mdTS s x tt mx bk dl tl sl).undo s.past.length=sU at *
 generalize mdTS s x tt mx bk dl tl sl=sT at *
 generalize mdTE s x tt mx bk dl tl sl=te at *
 generalize mdTN s x tt mx bk dl tl sl=tn at *
 generalize mdE0 s x tt bk dl tl=e0 at *
 generalize mdY s x tt=yy at *
 generalize s.past.length=pl at *
 generalize subB (cur s x) tt=db at *
 generalize subW (cur s x) tt=dw at *
 generalize subB tt (cur s x)=ub at *
 generalize subW tt (cur s x)=uw at *
 generalize mdUp s x tt=up at *
 generalize cur s x=cu at *
 generalize (pend s x).2.2=bb at *
 generalize (pend s x).2.1=pa at *
 generalize (pend s x).1=wy at *
 generalize decide (uCmp tt oneW<=0)=gt at *
 generalize aGd x=ag at *
 generalize z3j [bk,dl,tl]=bo at *
 have HEQ:Hid (∀ w,(Op.equalIn 10000 24 (.agg #[.int .u64 yy.1,.int .u64 yy.2.1,.int .u64 yy.2.2.1,.int .u64 yy.2.2.2]) (.agg #[.int .u64 0,.int .u64 0,.int .u64 0,.int .u64 0])).run Tryz.prog w= .ok (decide (yy=(0,0,0,0))) w):=fun w=>eqU yy (0,0,0,0) w
 have hq0:Program.eqGuardType Tryz.prog Tryz.prog.depth 24=false:=by kernel_rfl
 go_enter Tryz.func19,Tryz.ntmps19;go_upto_region 1 with fail;generalize (w.alloc (aO x)).alloc (chO tt mx bk dl tl sl)=w1 at *
 obtain⟨g,hg⟩:∃ g,g=w.heap.size:=⟨_,rfl⟩;rw[<- hg]at HB ⊢;clear hg;go_wp2_with fail;refine zm (HMD.out _ _ HB.out) ?_;rintro e w2 ⟨rfl,hB2⟩;have HB2:=zh hB2;obtain⟨i0,i1,i2,i3⟩:=z0g (x:=x) (hB2.row (g:=g) (o:=aO x) (by simp));clear hB2 HB HMD;go_wp2_with fail;refine zm (HGO.out _ _ HB2.out) ?_;rintro e w3 ⟨rfl,hB3⟩;have HB3:=zh hB3;clear hB3 HB2 HGO i0 i1 i2 i3;cases ag with
 | false =>
  have h2:e0=2:=by rw[HE0.out];rfl
  have HLL:=zh (HLAW.out.1 (by rw[h2];decide));have HR:=zh (HV.done HB3.out);clear HLAW HE0 HUP HYU HYD HBL HWG HPD HCU HSU HSD HMK HGR HSH HUN HEQ HB3;go_wp2_with fail;exact bodyPost_ret_by (results_tmp2 rfl _ _ _) rfl ⟨by rw[HLL.out.1,HLL.out.2.1,h2];rfl,by rw[HLL.out.2.2];exact HR.out⟩
 | true =>
  obtain⟨a0,a1,a2,a3,b0,b1,b2,b3,x8,y9,za,tb⟩:=z3e (HB3.out.row (g:=g+1) (o:=chO tt mx bk dl tl sl) (by simp));go_wp2_with fail;refine zm (HBL.out _ _ HB3.out) ?_;rintro e w4 ⟨rfl,hB4⟩;have HB4:=zh hB4;clear hB4 HB3 HBL a0 a1 a2 a3 b0 b1 b2 b3 x8 y9 za tb;cases bo with
  | false =>
   have h2:e0=2:=by rw[HE0.out];rfl
   have HLL:=zh (HLAW.out.1 (by rw[h2];decide));have HR:=zh (HV.done HB4.out);clear HLAW HE0 HUP HYU HYD HWG HPD HCU HSU HSD HMK HGR HSH HUN HEQ HB4;go_wp2_with fail;exact bodyPost_ret_by (results_tmp2 rfl _ _ _) rfl ⟨by rw[HLL.out.1,HLL.out.2.1,h2];rfl,by rw[HLL.out.2.2];exact HR.out⟩
  | true =>
   obtain⟨a0,a1,a2,a3,b0,b1,b2,b3,x8,y9,za,tb⟩:=z3e (HB4.out.row (g:=g+1) (o:=chO tt mx bk dl tl sl) (by simp));go_wp2_with fail;refine zm (HWG.out _ _ HB4.out) ?_;rintro e w5 ⟨rfl,hB5⟩;have HB5:=zh hB5;clear hB5 HB4 HWG a0 a1 a2 a3 b0 b1 b2 b3 x8 y9 za tb;cases gt with
   | false =>
    have h2:e0=5:=by rw[HE0.out];rfl
    have HLL:=zh (HLAW.out.1 (by rw[h2];decide));have HR:=zh (HV.done HB5.out);clear HLAW HE0 HUP HYU HYD HPD HCU HSU HSD HMK HGR HSH HUN HEQ HB5;go_wp2_with fail;exact bodyPost_ret_by (results_tmp2 rfl _ _ _) rfl ⟨by rw[HLL.out.1,HLL.out.2.1,h2];rfl,by rw[HLL.out.2.2];exact HR.out⟩
   | true =>
    obtain⟨i0,i1,i2,i3⟩:=z0g (x:=x) (HB5.out.row (g:=g) (o:=aO x) (by simp));go_wp2_with fail;refine zm (HPD.out _ _ HB5.out) ?_;rintro e w6 ⟨rfl,hB6⟩;have hB7:=(hB6.alloc (uO pa)).less (qs:=[(g+1,chO tt mx bk dl tl sl),(g,aO x)]) (by simp);clear hB6 HB5 HPD i0 i1 i2 i3;go_upto_region 8 with fail;generalize w6.alloc (uO pa)=w7 at *
    generalize w6.heap.size=g9 at *
    have HB7:=zh hB7;clear hB7
    by_cases hwy:wy=0
    case neg =>
     have hb1:(wy==0)=false:=by simpa using hwy
     have hb2:((wy:Int)==0)=false:=by simpa using (by omega:¬ (wy:Int)=0)
     have h2:e0=16:=by rw[HE0.out,if_neg (by decide),if_neg (by decide),if_pos hwy]
     have HLL:=zh (HLAW.out.1 (by rw[h2];decide));have HR:=zh (HV.done HB7.out);clear HLAW HE0 HUP HYU HYD HCU HSU HSD HMK HGR HSH HUN HEQ HB7;go_wp2_with fail;exact bodyPost_ret_by (results_tmp2 rfl _ _ _) rfl ⟨by rw[HLL.out.1,HLL.out.2.1,h2];rfl,by rw[HLL.out.2.2];exact HR.out⟩
    have hb1:(wy==0)=true:=by simpa using hwy
    have hb2:((wy:Int)==0)=true:=by rw[hwy];rfl
    have HE1:Hid (e0=if up&&decide (yy=(0,0,0,0))then 17 else 0):=by rw[HE0.out,if_neg (by decide),if_neg (by decide),if_neg (by rw[hwy];decide)];exact zh rfl
    obtain⟨i0,i1,i2,i3⟩:=z0g (x:=x) (HB7.out.row (g:=g) (o:=aO x) (by simp));clear HE0 hwy;go_wp2_with fail;refine zm (HCU.out _ _ HB7.out) ?_;rintro e w8 ⟨rfl,hB8⟩;have hB9:=hB8.alloc (uO cu);clear hB8 HB7 HCU i0 i1 i2 i3;go_upto_region 11 with fail;generalize w8.alloc (uO cu)=wa at *
    generalize w8.heap.size=g11 at *
    have HB9:Hid (HV h w s [(g11,uO cu),(g+1,chO tt mx bk dl tl sl),(g,aO x)] wa):=hB9;clear hB9;obtain⟨i0,i1,i2,i3⟩:=z0g (x:=x) (HB9.out.row (g:=g) (o:=aO x) (by simp));obtain⟨a0,a1,a2,a3,b0,b1,b2,b3,x8,y9,za,tb⟩:=z3e (HB9.out.row (g:=g+1) (o:=chO tt mx bk dl tl sl) (by simp));obtain⟨c0,c1,c2,c3,_⟩:=row4 (HB9.out.u4 (g:=g11) (x:=cu) (by simp));go_wp2_with fail;refine zm (HSU.out _ _ HB9.out) ?_;rintro e wb ⟨rfl,hB10⟩;have HLT:=zh (And.intro (z02 (hB10.row (g:=g11) (o:=uO cu) (by simp))) (And.intro (z02 (hB10.row (g:=g+1) (o:=chO tt mx bk dl tl sl) (by simp))) (z02 (hB10.row (g:=g) (o:=aO x) (by simp)))));have hB11:=hB10.alloc (uO uw);clear hB10 HB9 HSU i0 i1 i2 i3 a0 a1 a2 a3 b0 b1 b2 b3 x8 y9 za tb c0 c1 c2 c3
    go_upto_block 1 with fail
    generalize wb.alloc (uO uw)=wd at *
    generalize wb.heap.size=g13 at *
    have HBD:Hid (HV h w s [(g13,uO uw),(g11,uO cu),(g+1,chO tt mx bk dl tl sl),(g,aO x)] wd):=hB11;clear hB11;cases up with
    | false =>
     have hub:ub=false:=HUP.out;subst hub;have HYE:Hid (dw=yy):=HYD.out rfl;have h0:e0=0:=by rw[HE1.out];rfl
     have HL:=zh (HLAW.out.2 h0);have HT:=zh (HSH.out (by first | rfl | trivial) (by first | rfl | trivial) (by first | rfl | trivial));have HU:=zh (HUN.out (by first | rfl | trivial) (by first | rfl | trivial));obtain⟨i0,i1,i2,i3⟩:=z0g (x:=x) (HBD.out.row (g:=g) (o:=aO x) (by simp));obtain⟨a0,a1,a2,a3,b0,b1,b2,b3,x8,y9,za,tb⟩:=z3e (HBD.out.row (g:=g+1) (o:=chO tt mx bk dl tl sl) (by simp));obtain⟨c0,c1,c2,c3,_⟩:=row4 (HBD.out.u4 (g:=g11) (x:=cu) (by simp));clear HYU HYD HE1 HUP HGR HSH HUN HLAW HEQ h0;go_wp2_with fail;refine zm (HSD.out _ _ HBD.out) ?_;rintro e we ⟨rfl,hBE⟩;clear i0 i1 i2 i3 a0 a1 a2 a3 b0 b1 b2 b3 x8 y9 za tb c0 c1 c2 c3 HSD HBD;obtain⟨u0,u1,u2,u3,_⟩:=row4 (hBE.u4 (g:=g13) (x:=uw) (by simp))
     have h9:HV h w s [(g13,uO dw),(g11,uO cu),(g+1,chO tt mx bk dl tl sl),(g,aO x)] ((((we.setCell ⟨g13,0,none⟩ (.int .u64 dw.1)).setCell ⟨g13,1,none⟩ (.int .u64 dw.2.1)).setCell ⟨g13,2,none⟩ (.int .u64 dw.2.2.1)).setCell ⟨g13,3,none⟩ (.int .u64 dw.2.2.2)):=QV.put4 hBE dw (y:=uw) (by simp) _ (fun y hy=>by
      obtain⟨l1,l2,l3⟩:=HLT.out;simp only[List.mem_cons,List.not_mem_nil,or_false]at hy;rcases hy with rfl | rfl | rfl
      ·exact⟨by simp,Nat.ne_of_lt l1⟩
      ·exact⟨by simp,Nat.ne_of_lt l2⟩
      ·exact⟨by simp,Nat.ne_of_lt l3⟩)
     clear hBE HLT;go_upto_region 18 with fail;generalize (((we.setCell ⟨g13,0,none⟩ (.int .u64 dw.1)).setCell ⟨g13,1,none⟩ (.int .u64 dw.2.1)).setCell ⟨g13,2,none⟩ (.int .u64 dw.2.2.1)).setCell ⟨g13,3,none⟩ (.int .u64 dw.2.2.2)=W9 at *
     rw[HYE.out]at h9;clear HYE u0 u1 u2 u3;have H9:=h9;clear h9;have HV9:Hid (HV h w s [(g13,uO yy),(g11,uO cu),(g+1,chO tt mx bk dl tl sl),(g,aO x)] W9):=H9;clear H9;obtain⟨a0,a1,a2,a3,b0,b1,b2,b3,x8,y9,za,tb⟩:=z3e (HV9.out.row (g:=g+1) (o:=chO tt mx bk dl tl sl) (by simp));obtain⟨y0,y1,y2,y3,_⟩:=row4 (HV9.out.u4 (g:=g13) (x:=yy) (by simp));go_wp2_with fail;refine zm (HMK.out _ _ HV9.out) ?_;rintro e WM ⟨rfl,hVM⟩;clear HMK HV9 a0 a1 a2 a3 b0 b1 b2 b3 x8 y9 za tb y0 y1 y2 y3;obtain⟨a0,a1,a2,a3,b0,b1,b2,b3,x8,y9,za,tb⟩:=z3e (hVM.row (g:=g+1) (o:=chO tt mx bk dl tl sl) (by simp));obtain⟨y0,y1,y2,y3,_⟩:=row4 (hVM.u4 (g:=g13) (x:=yy) (by simp));have HVM:=zh hVM;clear hVM;go_wp2_with fail;refine zm (HT.out _ _ HVM.out) ?_;rintro e WT ⟨rfl,hVT⟩;have HVT:=zh hVT;clear hVT HVM HT a0 a1 a2 a3 b0 b1 b2 b3 x8 y9 za tb y0 y1 y2 y3
     by_cases he:te=0
     ·have hb1:(te==0)=true:=by simpa using he
      have HR:=zh (HV.done HVT.out);have HLL:=zh (HL.out.1 he);clear HL he HVT HU;go_wp2_with fail;exact bodyPost_ret_by (results_tmp2 rfl _ _ _) rfl ⟨by rw[HLL.out.1,HLL.out.2.1];rfl,by rw[HLL.out.2.2];exact HR.out⟩
     ·have hb1:(te==0)=false:=by simpa using he
      have HLL:=zh (HL.out.2 he);clear HL he;go_wp2_with fail;refine zm (HU.out _ _ HVT.out) ?_;rintro e WU ⟨⟨ub,rfl⟩,hVU⟩;have HR:=zh (HV.done hVU);clear hVU HVT HU;go_wp2_with fail;exact bodyPost_ret_by (results_tmp2 rfl _ _ _) rfl ⟨by rw[HLL.out.1,HLL.out.2.1];rfl,by rw[HLL.out.2.2];exact HR.out⟩
    | true =>
     have hub:ub=true:=HUP.out;subst hub;have hye:uw=yy:=HYU.out rfl;subst hye;have HT:=zh (HGR.out (by first | rfl | trivial) (by first | rfl | trivial) (by first | rfl | trivial));have HU:=zh (HUN.out (by first | rfl | trivial) (by first | rfl | trivial));obtain⟨u0,u1,u2,u3,_⟩:=row4 (HBD.out.u4 (g:=g13) (x:=uw) (by simp));clear HYU HYD HUP HGR HSH HUN HSD HLT
     by_cases hz:uw=(0,0,0,0)
     ·have hE:=HEQ.out;rw[decide_eq_true hz]at hE;have h2:e0=17:=by rw[HE1.out,decide_eq_true hz];rfl
      have HLL:=zh (HLAW.out.1 (by rw[h2];decide));have HR:=zh (HV.done HBD.out);clear hz HEQ HE1 HLAW HT HU HBD HMK;go_wp2_with fail;exact bodyPost_ret_by (results_tmp2 rfl _ _ _) rfl ⟨by rw[HLL.out.1,HLL.out.2.1,h2];rfl,by rw[HLL.out.2.2];exact HR.out⟩
     ·have hE:=HEQ.out;rw[decide_eq_false hz]at hE;have h0:e0=0:=by rw[HE1.out,decide_eq_false hz];rfl
      have HL:=zh (HLAW.out.2 h0);clear hz HEQ HE1 HLAW h0;go_upto_region 18 with fail;clear u0 u1 u2 u3;have H9:=HBD.out;clear HBD;have HV9:Hid (HV h w s [(g13,uO uw),(g11,uO cu),(g+1,chO tt mx bk dl tl sl),(g,aO x)] wd):=H9;clear H9;obtain⟨a0,a1,a2,a3,b0,b1,b2,b3,x8,y9,za,tb⟩:=z3e (HV9.out.row (g:=g+1) (o:=chO tt mx bk dl tl sl) (by simp));obtain⟨y0,y1,y2,y3,_⟩:=row4 (HV9.out.u4 (g:=g13) (x:=uw) (by simp));go_wp2_with fail;refine zm (HMK.out _ _ HV9.out) ?_;rintro e WM ⟨rfl,hVM⟩;clear HMK HV9 a0 a1 a2 a3 b0 b1 b2 b3 x8 y9 za tb y0 y1 y2 y3;obtain⟨a0,a1,a2,a3,b0,b1,b2,b3,x8,y9,za,tb⟩:=z3e (hVM.row (g:=g+1) (o:=chO tt mx bk dl tl sl) (by simp));obtain⟨y0,y1,y2,y3,_⟩:=row4 (hVM.u4 (g:=g13) (x:=uw) (by simp));have HVM:=zh hVM;clear hVM;go_wp2_with fail;refine zm (HT.out _ _ HVM.out) ?_;rintro e WT ⟨rfl,hVT⟩;have HVT:=zh hVT;clear hVT HVM HT a0 a1 a2 a3 b0 b1 b2 b3 x8 y9 za tb y0 y1 y2 y3
      by_cases he:te=0
      ·have hb1:(te==0)=true:=by simpa using he
       have HR:=zh (HV.done HVT.out);have HLL:=zh (HL.out.1 he);clear HL he HVT HU;go_wp2_with fail;exact bodyPost_ret_by (results_tmp2 rfl _ _ _) rfl ⟨by rw[HLL.out.1,HLL.out.2.1];rfl,by rw[HLL.out.2.2];exact HR.out⟩
      ·have hb1:(te==0)=false:=by simpa using he
       have HLL:=zh (HL.out.2 he);clear HL he;go_wp2_with fail;refine zm (HU.out _ _ HVT.out) ?_;rintro e WU ⟨⟨ub,rfl⟩,hVU⟩;have HR:=zh (HV.done hVU);clear hVU HVT HU;go_wp2_with fail;exact bodyPost_ret_by (results_tmp2 rfl _ _ _) rfl ⟨by rw[HLL.out.1,HLL.out.2.1];rfl,by rw[HLL.out.2.2];exact HR.out⟩
end Go.Proofs.YtnkilceibkkjlaaGreat
