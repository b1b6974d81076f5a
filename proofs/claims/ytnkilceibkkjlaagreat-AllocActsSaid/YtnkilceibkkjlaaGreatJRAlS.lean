/- What is proved here: the reference's Sum. Conditions: int -/
import Derived.Test.YtnkilceibkkjlaaGreatJRAlC
set_option maxRecDepth 100000
set_option maxHeartbeats 16000000
namespace Go.Proofs.YtnkilceibkkjlaaGreat
open Go.RowKit
theorem zu8{w w':World}{x:Ent}{e:Ending}(h:z1l w (z1r x.1) e w'):Below w.heap.size w w'/\((∃ y:IdR,z5f x=some y/\∃ (t:Int) (g c:Nat),e= .returned (.tuple #[.int .i64 t,.slice (some ⟨g,0,none⟩) 4 c,.bool true])/\IdC g y.1 w') \/
  (z5f x=none/\∃ (t:Int) (a:Option Addr) (m c:Nat) (ok:Bool),e= .returned (.tuple #[.int .i64 t,.slice a m c,.bool ok])/\((m:Int) != 4)=true)):=by
 refine⟨h.1,?_⟩;cases hp:z1r x.1 with
 | none =>
  rw[hp]at h;exact .inr ⟨by unfold z5f;rw[hp],0,none,0,0,false,h.2,by decide⟩
 | some r =>
  obtain⟨t,ns⟩:=r;rw[hp]at h;obtain⟨hb,v,he,ho,_⟩:=h
  by_cases h4:ns.length=4
  ·obtain⟨x0,x1,x2,x3,rfl⟩:∃ x0 x1 x2 x3,ns = [x0,x1,x2,x3]:=by
    match ns,h4 with
    | [x0,x1,x2,x3],_=>exact⟨x0,x1,x2,x3,rfl⟩
   have hbd:=(zc1 hp).2;have hok:I4.Ok ((x0:Int),(x1:Int),(x2:Int),(x3:Int)):=zrj (by have:=hbd x0 (by simp);omega) (by have:=hbd x1 (by simp);omega) (by have:=hbd x2 (by simp);omega) (by have:=hbd x3 (by simp);omega);obtain⟨g2,c2,rfl,hcell⟩:=zkz (x:=x0) (y:=x1) (z:=x2) (u:=x3) ho;refine .inl ⟨⟨_,hok⟩,?_,t,g2,c2,he,hcell _ zb⟩;unfold z5f;rw[hp];exact dif_pos hok
  ·obtain⟨a,c,rfl,_⟩:=ho.form;refine .inr ⟨?_,t,a,ns.length,c,true,he,by simp;omega⟩;unfold z5f;rw[hp]
   match ns,h4 with
   | [],_=>rfl
   | [_],_=>rfl
   | [_,_],_=>rfl
   | [_,_,_],_=>rfl
   | [_,_,_,_],h4=>exact absurd rfl h4
   | _::_::_::_::_::_,_=>rfl
theorem zxe{w W:World}{b:Nat}{L:List Nat}{s:St}{rs:List (Nat × Obj)}(hV:BV w rs W)(h:RRep W b s L)(k:ByteArray)(hn:s.ents.length<1000000000000) :
  Calls Tryz.prog 94 #[.pointer (some ⟨b,0,none⟩),.string k] W fun e W'=>∃ (ad:Option Addr) (c:Nat) (rp:List (Nat × Obj)),e= .returned (.slice ad (z0j k s.ents).length c) /\
   (∀ i x,(z0j k s.ents)[i]?=some x->∃ (gp:Nat) (cu:Array Value),ad=some ⟨gp,0,none⟩/\(gp,Obj.cells cu 156)∈rp/\cu[i*2]?=some (.string x.1)/\cu[i*2+1]?=some (.string x.2))/\(∀ y,y∈rp->W.heap.size<=y.1)/\BV w (rp++rs) W':=by
 refine(zf9 W b s L k h hn).mono fun e W' ⟨v,he,hO⟩ => ?_
 obtain⟨ho,hg,hb⟩:=hO;rcases ho.2 with⟨hv,h0⟩ | ⟨g,cap,cu,hv,hr,_,_,_,ht⟩
 ·subst hv;refine⟨none,0,[],by rw[he,h0],fun i x hx => ?_,(fun y hy=>by cases hy),QV.below hV hb⟩;rw[List.eq_nil_of_length_eq_zero h0]at hx;simp at hx
 ·subst hv;refine⟨some ⟨g,0,none⟩,cap,[(g,Obj.cells cu 156)],he,fun i x hx=>⟨g,cu,rfl,by simp,?_,?_⟩,fun y hy => ?_,QV.add1 hV hb (hg g rfl) hr⟩
  ·have h2:=(z9o _ i x hx).1;rw[<- ht,List.getElem?_take]at h2;split at h2
   ·simpa using h2
   ·cases h2
  ·have h2:=(z9o _ i x hx).2;rw[<- ht,List.getElem?_take]at h2;split at h2
   ·simpa using h2
   ·cases h2
  ·rw[List.mem_singleton]at hy;subst hy;exact hg g rfl
theorem zzk:(∀ w,(Instr.index 152 (.agg #[.int .i64 29,.int .i64 30]) (.int .i64 0)).run Tryz.prog w= .ok (.int .i64 29) w)/\∀ w,(Instr.index 152 (.agg #[.int .i64 29,.int .i64 30]) (.int .i64 1)).run Tryz.prog w= .ok (.int .i64 30) w:=
 ⟨fun w=>by kernel_rfl,fun w=>by kernel_rfl⟩
theorem ztq{x:W4}(hx:x.Ok):sumW x (0,0,0,0)=x:=by
 have h0:uN ((0,0,0,0):W4)=0:=rfl;have hlt:=z2q hx;unfold sumW toW;rw[h0,Nat.add_zero,if_pos (show uN x<W256 from hlt)];exact z7d (z1z _) hx (z5t hlt)
def rsG(s:St)(p q:Int):Nat->W4
 | 0=>(0,0,0,0)
 | 1=>sumC s (idE 29 p q s)
 | _=>sumP s (sumC s (idE 29 p q s)) (idE 30 p q s)
theorem rs29(s:St)(p q:Int):∃ G:Nat->W4,G 0=rsG s p q 0/\(∀ m,(G m).Ok)/\(∀ m x,(z0j (keyL 29 [p,q]) s.ents)[m]?=some x->(z5f x=none->G (m+1)=G m)/\∀ y,z5f x=some y->G (m+1)=sumW (G m) (cur s y.1))/\G (z0j (keyL 29 [p,q]) s.ents).length=rsG s p q 1:=by
 refine⟨fun m=>sumC s (((z0j (keyL 29 [p,q]) s.ents).take m).filterMap z5f),rfl,fun m=>zfy s _,fun m x hx=>⟨fun h0 => ?_,fun y hy => ?_⟩,?_⟩
 ·show sumC s _=sumC s _
  rw[z1f _ _ _ _ hx,h0];simp only[Option.toList_none,List.append_nil]
 ·show sumC s _=sumW (sumC s _) _
  rw[z1f _ _ _ _ hx,hy];exact zh8 s _ y
 ·show sumC s _=sumC s (idE 29 p q s)
  rw[List.take_length];rfl
theorem rs30(s:St)(p q:Int):∃ G:Nat->W4,G 0=rsG s p q 1/\(∀ m,(G m).Ok)/\(∀ m x,(z0j (keyL 30 [p,q]) s.ents)[m]?=some x->(z5f x=none->G (m+1)=G m)/\∀ y,z5f x=some y->G (m+1)=z9u s (G m) y)/\G (z0j (keyL 30 [p,q]) s.ents).length=rsG s p q 2:=by
 refine⟨fun m=>sumP s (sumC s (idE 29 p q s)) (((z0j (keyL 30 [p,q]) s.ents).take m).filterMap z5f),rfl,fun m=>zp8 s (zfy s _) _,fun m x hx=>⟨fun h0 => ?_,fun y hy => ?_⟩,?_⟩
 ·show sumP s _ _=sumP s _ _
  rw[z1f _ _ _ _ hx,h0];simp only[Option.toList_none,List.append_nil]
 ·show sumP s _ _=z9u s (sumP s _ _) _
  rw[z1f _ _ _ _ hx,hy];exact sumP_snoc s _ _ y
 ·show sumP s _ _=sumP s _ (idE 30 p q s)
  rw[List.take_length];rfl
theorem zyr(w:World)(b:Nat)(L:List Nat)(s:St)(f:Nat)(p q:Int)(hp:p<9223372036854775808)(hq:q<9223372036854775808)(h:RRep w b s L)(hf:s.Fit f)(hm:f<1000000000)(hkey:∀ x∈s.ents,x.1.size<1000000000000) :
  Calls Tryz.prog 30 #[.pointer (some ⟨b,0,none⟩),.int .i64 p,.int .i64 q] w fun e w'=>e= .returned (uV (sumA s p q))/\Below w.heap.size w w':=by
 have hB:=((BV.start w).alloc zO).alloc zO;simp only[World.size_alloc]at hB;have hb2:Below w.heap.size w ((w.alloc zO).alloc zO):=z00 (z00 (Below.refl _ w) _) _
 by_cases hbad:p<1\/q<1
 ·have hr:sumA s p q=(0,0,0,0):=by unfold sumA;rw[if_pos hbad]
  rw[hr];have hgo:(decide (p<1)=true)\/(decide (p<1)=false/\decide (q<1)=true):=by
   by_cases h1:p<1
   ·exact .inl (decide_eq_true h1)
   ·exact .inr ⟨decide_eq_false h1,decide_eq_true (hbad.resolve_left h1)⟩
  have HB:=zh hB;have HB2:=zh hb2;clear hB hb2 h hf hbad hr hkey;rcases hgo with hd | ⟨hd,hd2⟩
  ·go_enter Tryz.func30,Tryz.ntmps30;go_upto_region 2 with fail;generalize (w.alloc zO).alloc zO=w1 at *
   obtain⟨z0,z1,z2,z3,zf⟩:=row4 (x:=(0,0,0,0)) (HB.out.row (g:=w.heap.size) (o:=zO) (by simp));obtain⟨y0,y1,y2,y3,_⟩:=row4 (x:=(0,0,0,0)) (HB.out.row (g:=w.heap.size+1) (o:=zO) (by simp));go_wp2_with fail;refine bodyPost_ret (results_cell_row rfl _ _ w.heap.size 24 (uL (0,0,0,0)) (0,0) _ rfl (put4 (x:=(0,0,0,0)) (HB.out.row (g:=w.heap.size) (o:=zO) (by simp)) (0,0,0,0)) Tryz.underlying24 rfl (by kernel_rfl)) rfl ?_;exact⟨rfl,z0b HB2.out (Nat.le_refl _) _ _ _ _⟩
  ·go_enter Tryz.func30,Tryz.ntmps30;go_upto_region 2 with fail;generalize (w.alloc zO).alloc zO=w1 at *
   obtain⟨z0,z1,z2,z3,zf⟩:=row4 (x:=(0,0,0,0)) (HB.out.row (g:=w.heap.size) (o:=zO) (by simp));obtain⟨y0,y1,y2,y3,_⟩:=row4 (x:=(0,0,0,0)) (HB.out.row (g:=w.heap.size+1) (o:=zO) (by simp));go_wp2_with fail;refine bodyPost_ret (results_cell_row rfl _ _ w.heap.size 24 (uL (0,0,0,0)) (0,0) _ rfl (put4 (x:=(0,0,0,0)) (HB.out.row (g:=w.heap.size) (o:=zO) (by simp)) (0,0,0,0)) Tryz.underlying24 rfl (by kernel_rfl)) rfl ?_;exact⟨rfl,z0b HB2.out (Nat.le_refl _) _ _ _ _⟩
 ·have hd:decide (p<1)=false:=decide_eq_false fun h=>hbad (.inl h)
  have hd2:decide (q<1)=false:=decide_eq_false fun h=>hbad (.inr h)
  have HR:Hid (sumA s p q=rsG s p q 2):=by unfold sumA;rw[if_neg hbad];exact zh rfl
  have hlen:s.ents.length<1000000000000:=by have:=hf.size;unfold St.size at this;omega
  have HKY:Hid (∀ t:Nat,1<=t->t<=255->∀ rs W,BV w rs W->Calls Tryz.prog 95 #[.int .i64 t,.slice (some ⟨W.heap.size,0,none⟩) 2 2] (W.alloc (.cells #[.int .i64 p,.int .i64 q] 3)) fun e w'=>e= .returned (.string (keyL t [p,q]))/\BV w rs w'):=fun t h1 h2 rs W hV=>(zch t h1 h2 p q hp hq W).mono fun e w' ⟨he,hb⟩=>⟨he,QV.below hV hb⟩
  have HUN:Hid (∀ k rs W,BV w rs W->_):=fun k rs W hV=>zxe hV (h.below (BV.bl hV)) k hlen
  have HLU:Hid (∀ t:Nat,(z0j (keyL t [p,q]) s.ents).length<1000000000000):=fun t=>Nat.lt_of_le_of_lt (z4l _ _) hlen
  have HKS:Hid (∀ (t i:Nat) (x:Ent),(z0j (keyL t [p,q]) s.ents)[i]?=some x->x.1.size<1000000000000):=fun t i x hx=>hkey x (by have h:=List.mem_of_getElem? hx;unfold z0j at h;exact(List.mem_filter.1 h).1)
  have HCU:Hid (∀ (y:IdR) rs W,BV w rs W->Calls Tryz.prog 28 #[.pointer (some ⟨b,0,none⟩),idV y.1] W fun e w'=>e= .returned (uV (cur s y.1))/\BV w rs w'):=fun y rs W hV=>(z7h W b L s f y.1 y.2 (h.below (BV.bl hV)) hf (by omega)).mono fun e w' ⟨he,hb⟩=>⟨he,QV.below hV hb⟩
  have HPD:Hid (∀ (y:IdR) rs W,BV w rs W->Calls Tryz.prog 32 #[.pointer (some ⟨b,0,none⟩),idV y.1] W fun e w'=>e= .returned (.tuple #[.int .i64 (pend s y.1).1,uV (pend s y.1).2.1,.int .i64 (pend s y.1).2.2])/\BV w rs w'):=fun y rs W hV=>(z7n W b L s f y.1 y.2 (h.below (BV.bl hV)) hf (by omega)).mono fun e w' ⟨he,hb⟩=>⟨he,QV.below hV hb⟩
  have HADD:Hid (∀ (u v:W4),u.Ok->v.Ok->∀ rs W,BV w rs W->Calls Tryz.prog 21 #[uV u,uV v] W fun e w'=>e= .returned (.tuple #[uV (sumW u v),.bool (sumB u v)])/\BV w rs w'):=fun u v hu hv rs W hV=>(zom u v hu hv W).mono fun e w' ⟨he,hb⟩=>⟨he,QV.below hV hb⟩
  have HBLW:Hid (∀ rs W,BV w rs W->Below w.heap.size w W):=fun rs W hV=>BV.bl hV
  have HPR:Hid (∀ (x:Ent) rs W,x.1.size<1000000000000->BV w rs W->Calls Tryz.prog 96 #[.string x.1] W fun e w'=>BV w rs w'/\((∃ y:IdR,z5f x=some y/\∃ (t:Int) (g c:Nat),e= .returned (.tuple #[.int .i64 t,.slice (some ⟨g,0,none⟩) 4 c,.bool true])/\IdC g y.1 w')\/(z5f x=none/\∃ (t:Int) (a:Option Addr) (m c:Nat) (ok:Bool),e= .returned (.tuple #[.int .i64 t,.slice a m c,.bool ok])/\((m:Int) != 4)=true))):=fun x rs W hs hV=>(zeh x.1 hs W).mono fun e w' hr=>by
   obtain⟨hb,h⟩:=zu8 hr;exact⟨QV.below hV hb,h⟩
  have HIX:=zh zzk;have HB:=zh hB;clear hB hb2 h hf hbad hkey hlen hp hq;go_enter Tryz.func30,Tryz.ntmps30;go_upto_region 2 with fail;generalize (w.alloc zO).alloc zO=w1 at *
  obtain⟨g,hg⟩:∃ g,g=w.heap.size:=⟨_,rfl⟩;rw[<- hg]at HB ⊢;have HG0:Hid (w.heap.size<=g):=Nat.le_of_eq hg.symm;clear hg;go_wp2_with fail
  go_loopw [29] (fun i wr=>∃ k:Nat,i= .int .i64 k/\k<=2/\BV w [(g+1,uO (rsG s p q k)),(g,zO)] wr) (fun i _=>2-(intOf i).toNat)
  case atStart=>exact⟨0,rfl,by omega,HB.out⟩
  case round =>
   obtain⟨k,rfl,hk,hV⟩:=hrel;have HV:=zh hV;clear hV HB;rcases(show k=0\/k=1\/k=2 by omega)with rfl | rfl | rfl
   ·obtain⟨G,hG0,hGO,hGS,hGN⟩:=rs29 s p q;have hix:=HIX.out.1;rw[<- hG0]at HV;have HKY2:Hid (Calls Tryz.prog 95 #[.int .i64 29,.slice (some ⟨wr.heap.size,0,none⟩) 2 2] (wr.alloc (.cells #[.int .i64 p,.int .i64 q] 3)) fun e w'=>e= .returned (.string (keyL 29 [p,q]))/\BV w [(g+1,uO (G 0)),(g,zO)] w'):=HKY.out 29 (by decide) (by decide) _ _ HV.out;have hLU2:=HLU.out 29;have HKS2:=zh (HKS.out 29);have HGO:=zh hGO;have HGS:=zh hGS;have HGN:=zh hGN;have HLT:Hid (g+1<wr.heap.size):=z01 (HV.out.row (g:=g+1) (o:=uO (G 0)) (by simp));have HLE0:=zh (BV.bl HV.out).size;clear HIX HKY HLU HKS hG0 hGO hGS hGN HV;go_wp2_with fail;refine zm HKY2.out ?_;rintro e w3 ⟨rfl,hB3⟩;have HU3:=zh (HUN.out (keyL 29 [p,q]) _ _ hB3);have HLT3:Hid (g+1<w3.heap.size):=z01 (hB3.row (g:=g+1) (o:=uO (G 0)) (by simp));clear hB3 HKY2 HUN hix HLT;generalize z0j (keyL 29 [p,q]) s.ents=us at *
    generalize keyL 29 [p,q]=kt at *
    go_wp2_with fail;refine zm HU3.out ?_;rintro e w4 ⟨ad,c,rp,rfl,hrp,hge,hB4⟩;have HRP:=zh hrp;have HNE:Hid (∀ y,y∈rp->y.1≠g+1):=fun y hy e=>by have:=hge y hy;have:=HLT3.out;omega
    have HG:Hid (∀ m,m<us.length->∃ x,us[m]?=some x):=fun m hm=>⟨_,List.getElem?_eq_getElem hm⟩
    have H4:Hid (BV w (rp ++ [(g+1,uO (G 0)),(g,zO)]) w4):=hB4;clear hrp hge hB4 HU3 HLT3;go_wp2_with fail
    go_loopw [40] (fun i wv=>∃ m:Nat,i= .int .i64 m/\m<=us.length/\BV w (rp ++ [(g+1,uO (G m)),(g,zO)]) wv) (fun i _=>us.length-(intOf i).toNat)
    case atStart=>exact⟨0,rfl,by omega,H4.out⟩
    case round =>
     obtain⟨m,rfl,hml,hV⟩:=hrel;have HV:=zh hV;clear hV H4
     by_cases hlt:m<us.length
     ·obtain⟨x,hx⟩:=HG.out m hlt;obtain⟨gp,cu2,rfl,hmem,hc1,hc2⟩:=HRP.out m x hx;have hrow:=HV.out.row (g:=gp) (o:=Obj.cells cu2 156) (List.mem_append_left _ hmem);have c1:=(cell_of_row _ _ (m*2) _ _ _ hrow).trans hc1;have c2:=(cell_of_row _ _ (m*2+1) _ _ _ hrow).trans hc2;have hstep:=HGS.out m x hx;have hks:=HKS2.out m x hx;have hV1:=HV.out.alloc (.cells #[.string x.1,.string x.2] 156);clear hmem hc1 hc2 hrow;have HPA:=zh (HPR.out x _ _ hks hV1);clear hV1 hks;go_wp2_with fail;refine zm HPA.out ?_;rintro e w5 ⟨hV5,⟨y,hy,tt,g5,c5,rfl,k0,k1,k2,k3⟩ | ⟨hno,tt,a5,m5,c5,ok,rfl,hm4⟩⟩
      ·have hst:=hstep.2 y hy;have HST:=zh hst;have HV5:=zh hV5;clear hstep hst hy HPA hV5 c1 c2;go_upto_region 12 with fail
       go_region_held3 (fun w'=>w'.cell? ⟨g5,0,none⟩=some (.int .i64 y.1.1)/\w'.cell? ⟨g5,1,none⟩=some (.int .i64 y.1.2.1)/\w'.cell? ⟨g5,2,none⟩=some (.int .i64 y.1.2.2.1)/\w'.cell? ⟨g5,3,none⟩=some (.int .i64 y.1.2.2.2)) (first | assumption | go_keep) (fail)
       have hV6:=(QV.less (qs:=rp ++ [(g+1,uO (G m)),(g,zO)]) HV5.out fun _ hy=>List.mem_cons_of_mem _ hy).alloc (riO y.1);have hV6:=hV6.drew;generalize (w5.alloc (riO y.1)).drew=w6 at *
       generalize w5.heap.size=g15 at *
       clear HV5 k0 k1 k2 k3;have HLR:Hid (∀ r,r∈(g15,riO y.1)::(rp ++ [(g+1,uO (G m)),(g,zO)])->r.1≠w6.heap.size):=fun r hr=>Nat.ne_of_lt (z01 (hV6.row (g:=r.1) (o:=r.2) hr))
       have hV7:=hV6.alloc zO;clear hV6;go_upto_region 14 with fail;generalize w6.alloc zO=w7 at *
       generalize w6.heap.size=g16 at *
       obtain⟨i0,i1,i2,i3⟩:=z0a (x:=y.1) (hV7.row (g:=g15) (o:=riO y.1) (by simp));have HV7:=zh hV7;clear hV7;go_wp2_with fail;refine zm (HCU.out y _ _ HV7.out) ?_;rintro e w8 ⟨rfl,hV8⟩;have HCO:Hid ((cur s y.1).Ok):=z4p _;clear HV7 i0 i1 i2 i3;generalize cur s y.1=cy at *
       obtain⟨z0,z1,z2,z3,zf⟩:=row4 (x:=(0,0,0,0)) (hV8.row (g:=g16) (o:=zO) (by simp));have hV9:=QV.put4 hV8 cy (y:=(0,0,0,0)) (g:=g16) (by simp) (rp ++ [(g+1,uO (G m)),(g,zO)]) (fun r hr=>⟨List.mem_cons_of_mem _ (List.mem_cons_of_mem _ hr),HLR.out r (List.mem_cons_of_mem _ hr)⟩);have HV9:=zh hV9;clear hV8 hV9;go_upto_region 19 with fail;clear z0 z1 z2 z3 zf;generalize (((w8.setCell ⟨g16,0,none⟩ (.int .u64 cy.1)).setCell ⟨g16,1,none⟩ (.int .u64 cy.2.1)).setCell ⟨g16,2,none⟩ (.int .u64 cy.2.2.1)).setCell ⟨g16,3,none⟩ (.int .u64 cy.2.2.2)=w9 at *
       obtain⟨a0,a1,a2,a3,_⟩:=row4 (x:=G m) (HV9.out.row (g:=g+1) (o:=uO (G m)) (by simp));obtain⟨b0,b1,b2,b3,_⟩:=row4 (x:=cy) (HV9.out.row (g:=g16) (o:=uO cy) (by simp));have HAD2:=zh (HADD.out (G m) cy (HGO.out m) HCO.out _ _ HV9.out);have HGM:Hid (G (m+1)=sumW (G m) cy):=HST.out;clear HV9 HST;generalize sumW (G m) cy=sw at *
       generalize sumB (G m) cy=sbb at *
       go_wp2_with fail;refine zm HAD2.out ?_;rintro e w10 ⟨rfl,hV10⟩;clear a0 a1 a2 a3 b0 b1 b2 b3 HAD2;obtain⟨a0,a1,a2,a3,az⟩:=row4 (x:=G m) (hV10.row (g:=g+1) (o:=uO (G m)) (by simp))
       have h11:=QV.put4 hV10 sw (y:=G m) (g:=g+1) (by simp) (rp ++ [(g,zO)]) (fun r hr=>by
        rcases List.mem_append.1 hr with h1 | h1
        ·exact⟨List.mem_cons_of_mem _ (List.mem_append_left _ h1),HNE.out r h1⟩
        ·rw[List.mem_singleton]at h1;subst h1
         exact⟨by simp,by simp⟩)
       have h12:=QV.less (qs:=rp ++ [(g+1,uO sw),(g,zO)]) h11 (fun r hr=>by
        rcases List.mem_append.1 hr with h1 | h1
        ·exact List.mem_cons_of_mem _ (List.mem_append_left _ h1)
        ·simp only[List.mem_cons,List.not_mem_nil,or_false]at h1;rcases h1 with rfl | rfl
         ·exact List.mem_cons_self
         ·exact List.mem_cons_of_mem _ (List.mem_append_right _ List.mem_cons_self))
       have HE:=zh h12;clear h11 h12 hV10;go_wp2_with fail;go_roundw
       case rel=>exact⟨m+1,by go_num,by omega,by rw[HGM.out];exact HE.out⟩
       case measure=>simp[intOf];omega
      ·have h9:=QV.less (qs:=rp ++ [(g+1,uO (G m)),(g,zO)]) hV5 fun _ hy=>List.mem_cons_of_mem _ hy
       rw[<- hstep.1 hno]at h9;have HE:=zh h9;clear h9 hstep hno HPA hV5 c1 c2;go_wp2_with fail;go_roundw
       case rel=>exact⟨m+1,by go_num,by omega,HE.out⟩
       case measure=>simp[intOf];omega
     ·obtain rfl:m=us.length:=by omega
      have h9:=HV.out;rw[HGN.out]at h9;have HE:=zh (QV.less (qs:=[(g+1,uO (rsG s p q 1)),(g,zO)]) h9 fun _ hy=>List.mem_append_right _ hy);clear h9;clear HV;go_wp2_with fail;go_roundw
      case rel=>exact⟨1,by go_num,by omega,HE.out⟩
      case measure=>simp[intOf]
   ·obtain⟨G,hG0,hGO,hGS,hGN⟩:=rs30 s p q;have hix:=HIX.out.2;rw[<- hG0]at HV;have HKY2:Hid (Calls Tryz.prog 95 #[.int .i64 30,.slice (some ⟨wr.heap.size,0,none⟩) 2 2] (wr.alloc (.cells #[.int .i64 p,.int .i64 q] 3)) fun e w'=>e= .returned (.string (keyL 30 [p,q]))/\BV w [(g+1,uO (G 0)),(g,zO)] w'):=HKY.out 30 (by decide) (by decide) _ _ HV.out;have hLU2:=HLU.out 30;have HKS2:=zh (HKS.out 30);have HGO:=zh hGO;have HGS:=zh hGS;have HGN:=zh hGN;have HLT:Hid (g+1<wr.heap.size):=z01 (HV.out.row (g:=g+1) (o:=uO (G 0)) (by simp));have HLE0:=zh (BV.bl HV.out).size;clear HIX HKY HLU HKS hG0 hGO hGS hGN HV;go_wp2_with fail;refine zm HKY2.out ?_;rintro e w3 ⟨rfl,hB3⟩;have HU3:=zh (HUN.out (keyL 30 [p,q]) _ _ hB3);have HLT3:Hid (g+1<w3.heap.size):=z01 (hB3.row (g:=g+1) (o:=uO (G 0)) (by simp));clear hB3 HKY2 HUN hix HLT;generalize z0j (keyL 30 [p,q]) s.ents=us at *
    generalize keyL 30 [p,q]=kt at *
    go_wp2_with fail;refine zm HU3.out ?_;rintro e w4 ⟨ad,c,rp,rfl,hrp,hge,hB4⟩;have HRP:=zh hrp;have HNE:Hid (∀ y,y∈rp->y.1≠g+1):=fun y hy e=>by have:=hge y hy;have:=HLT3.out;omega
    have HG:Hid (∀ m,m<us.length->∃ x,us[m]?=some x):=fun m hm=>⟨_,List.getElem?_eq_getElem hm⟩
    have H4:Hid (BV w (rp ++ [(g+1,uO (G 0)),(g,zO)]) w4):=hB4;clear hrp hge hB4 HU3 HLT3;go_wp2_with fail
    go_loopw [40] (fun i wv=>∃ m:Nat,i= .int .i64 m/\m<=us.length/\BV w (rp ++ [(g+1,uO (G m)),(g,zO)]) wv) (fun i _=>us.length-(intOf i).toNat)
    case atStart=>exact⟨0,rfl,by omega,H4.out⟩
    case round =>
     obtain⟨m,rfl,hml,hV⟩:=hrel;have HV:=zh hV;clear hV H4
     by_cases hlt:m<us.length
     ·obtain⟨x,hx⟩:=HG.out m hlt;obtain⟨gp,cu2,rfl,hmem,hc1,hc2⟩:=HRP.out m x hx;have hrow:=HV.out.row (g:=gp) (o:=Obj.cells cu2 156) (List.mem_append_left _ hmem);have c1:=(cell_of_row _ _ (m*2) _ _ _ hrow).trans hc1;have c2:=(cell_of_row _ _ (m*2+1) _ _ _ hrow).trans hc2;have hstep:=HGS.out m x hx;have hks:=HKS2.out m x hx;have hV1:=HV.out.alloc (.cells #[.string x.1,.string x.2] 156);clear hmem hc1 hc2 hrow;have HPA:=zh (HPR.out x _ _ hks hV1);clear hV1 hks;go_wp2_with fail;refine zm HPA.out ?_;rintro e w5 ⟨hV5,⟨y,hy,tt,g5,c5,rfl,k0,k1,k2,k3⟩ | ⟨hno,tt,a5,m5,c5,ok,rfl,hm4⟩⟩
      ·have hst:=hstep.2 y hy;have HST:=zh hst;have HV5:=zh hV5;clear hstep hst hy HPA hV5 c1 c2;go_upto_region 12 with fail
       go_region_held3 (fun w'=>w'.cell? ⟨g5,0,none⟩=some (.int .i64 y.1.1)/\w'.cell? ⟨g5,1,none⟩=some (.int .i64 y.1.2.1)/\w'.cell? ⟨g5,2,none⟩=some (.int .i64 y.1.2.2.1)/\w'.cell? ⟨g5,3,none⟩=some (.int .i64 y.1.2.2.2)) (first | assumption | go_keep) (fail)
       have hV6:=(QV.less (qs:=rp ++ [(g+1,uO (G m)),(g,zO)]) HV5.out fun _ hy=>List.mem_cons_of_mem _ hy).alloc (riO y.1);have hV6:=hV6.drew;generalize (w5.alloc (riO y.1)).drew=w6 at *
       generalize w5.heap.size=g15 at *
       clear HV5 k0 k1 k2 k3;have HLR:Hid (∀ r,r∈(g15,riO y.1)::(rp ++ [(g+1,uO (G m)),(g,zO)])->r.1≠w6.heap.size):=fun r hr=>Nat.ne_of_lt (z01 (hV6.row (g:=r.1) (o:=r.2) hr))
       have hV7:=hV6.alloc zO;clear hV6;go_upto_region 14 with fail;generalize w6.alloc zO=w7 at *
       generalize w6.heap.size=g16 at *
       obtain⟨i0,i1,i2,i3⟩:=z0a (x:=y.1) (hV7.row (g:=g15) (o:=riO y.1) (by simp));have HV7:=zh hV7;clear hV7;go_wp2_with fail;refine zm (HPD.out y _ _ HV7.out) ?_;rintro e w8 ⟨rfl,hV8⟩;have HPO:Hid ((pend s y.1).2.1.Ok):=zam s y.1;have HS1:Hid (z9u s (G m) y=if (pend s y.1).1=1 then sumW (G m) (pend s y.1).2.1 else G m):=rfl
       have hV9:=(hV8.alloc (uO (pend s y.1).2.1)).less (qs:=(w8.heap.size,uO (pend s y.1).2.1)::(g16,zO)::(rp ++ [(g+1,uO (G m)),(g,zO)])) (fun r hr=>by
        rcases List.mem_cons.1 hr with h1 | h1
        ·subst h1;exact List.mem_cons_self
        ·rcases List.mem_cons.1 h1 with h2 | h2
         ·subst h2;exact List.mem_cons_of_mem _ List.mem_cons_self
         ·exact List.mem_cons_of_mem _ (List.mem_cons_of_mem _ (List.mem_cons_of_mem _ h2)))
       have HL18:Hid (w8.heap.size≠g16):=Ne.symm (Nat.ne_of_lt (z01 (hV8.row (g:=g16) (o:=zO) (by simp))));clear HV7 hV8 i0 i1 i2 i3;go_upto_region 17 with fail;have HSTX:Hid (G (m+1)=if (pend s y.1).1=1 then sumW (G m) (pend s y.1).2.1 else G m):=by rw[HST.out,HS1.out];exact zh rfl
       clear HST HS1;generalize (pend s y.1).2.2=bb at *
       generalize (pend s y.1).2.1=pa at *
       generalize (pend s y.1).1=wy at *
       generalize w8.alloc (uO pa)=w9 at *
       generalize w8.heap.size=g18 at *
       have HV9:=zh hV9;clear hV9
       by_cases hwy:wy=1
       ·have hb1:((wy:Int)==1)=true:=by simp[hwy]
        have hb2:(wy==1)=true:=by simp[hwy]
        obtain⟨b0,b1,b2,b3,_⟩:=row4 (x:=pa) (HV9.out.row (g:=g18) (o:=uO pa) (by simp));obtain⟨z0,z1,z2,z3,zf⟩:=row4 (x:=(0,0,0,0)) (HV9.out.row (g:=g16) (o:=zO) (by simp));have hVA:=QV.put4 HV9.out pa (y:=(0,0,0,0)) (g:=g16) (by simp) (rp ++ [(g+1,uO (G m)),(g,zO)]) (fun r hr=>⟨List.mem_cons_of_mem _ (List.mem_cons_of_mem _ hr),HLR.out r (List.mem_cons_of_mem _ hr)⟩);have HVA:=zh hVA;have HSTW:Hid (G (m+1)=sumW (G m) pa):=by rw[HSTX.out,if_pos hwy];exact zh rfl
        clear hVA HV9;go_upto_region 19 with fail;clear z0 z1 z2 z3 zf b0 b1 b2 b3 hb1 hb2;generalize (((w9.setCell ⟨g16,0,none⟩ (.int .u64 pa.1)).setCell ⟨g16,1,none⟩ (.int .u64 pa.2.1)).setCell ⟨g16,2,none⟩ (.int .u64 pa.2.2.1)).setCell ⟨g16,3,none⟩ (.int .u64 pa.2.2.2)=wB at *
        obtain⟨a0,a1,a2,a3,_⟩:=row4 (x:=G m) (HVA.out.row (g:=g+1) (o:=uO (G m)) (by simp));obtain⟨b0,b1,b2,b3,_⟩:=row4 (x:=pa) (HVA.out.row (g:=g16) (o:=uO pa) (by simp));have HAD2:=zh (HADD.out (G m) pa (HGO.out m) HPO.out _ _ HVA.out);have HGM:Hid (G (m+1)=sumW (G m) pa):=HSTW.out;clear HVA HSTW HSTX hwy;generalize sumW (G m) pa=sw at *
        generalize sumB (G m) pa=sbb at *
        go_wp2_with fail;refine zm HAD2.out ?_;rintro e w10 ⟨rfl,hV10⟩;clear a0 a1 a2 a3 b0 b1 b2 b3 HAD2;obtain⟨a0,a1,a2,a3,az⟩:=row4 (x:=G m) (hV10.row (g:=g+1) (o:=uO (G m)) (by simp))
        have h11:=QV.put4 hV10 sw (y:=G m) (g:=g+1) (by simp) (rp ++ [(g,zO)]) (fun r hr=>by
         rcases List.mem_append.1 hr with h1 | h1
         ·exact⟨List.mem_cons_of_mem _ (List.mem_append_left _ h1),HNE.out r h1⟩
         ·rw[List.mem_singleton]at h1;subst h1
          exact⟨by simp,by simp⟩)
        have h12:=QV.less (qs:=rp ++ [(g+1,uO sw),(g,zO)]) h11 (fun r hr=>by
         rcases List.mem_append.1 hr with h1 | h1
         ·exact List.mem_cons_of_mem _ (List.mem_append_left _ h1)
         ·simp only[List.mem_cons,List.not_mem_nil,or_false]at h1;rcases h1 with rfl | rfl
          ·exact List.mem_cons_self
          ·exact List.mem_cons_of_mem _ (List.mem_append_right _ List.mem_cons_self))
        have HE:=zh h12;clear h11 h12 hV10;go_wp2_with fail;go_roundw
        case rel=>exact⟨m+1,by go_num,by omega,by rw[HGM.out];exact HE.out⟩
        case measure=>simp[intOf];omega
       ·have hb1:((wy:Int)==1)=false:=by simpa using (by omega:¬ (wy:Int)=1)
        have hb2:(wy==1)=false:=by simpa using hwy
        have HSTW:Hid (G (m+1)=sumW (G m) (0,0,0,0)):=by rw[HSTX.out,if_neg hwy,ztq (HGO.out m)];exact zh rfl
        have HVA:=zh (HV9.out.less (qs:=(g16,uO (0,0,0,0))::(rp ++ [(g+1,uO (G m)),(g,zO)])) fun _ hr=>List.mem_cons_of_mem _ hr);clear HV9;go_upto_region 19 with fail;clear hb1 hb2;obtain⟨a0,a1,a2,a3,_⟩:=row4 (x:=G m) (HVA.out.row (g:=g+1) (o:=uO (G m)) (by simp));obtain⟨b0,b1,b2,b3,_⟩:=row4 (x:=(0,0,0,0)) (HVA.out.row (g:=g16) (o:=uO (0,0,0,0)) (by simp));have HAD2:=zh (HADD.out (G m) (0,0,0,0) (HGO.out m) zh4 _ _ HVA.out);have HGM:Hid (G (m+1)=sumW (G m) (0,0,0,0)):=HSTW.out;clear HVA HSTW HSTX hwy;generalize sumW (G m) (0,0,0,0)=sw at *
        generalize sumB (G m) (0,0,0,0)=sbb at *
        go_wp2_with fail;refine zm HAD2.out ?_;rintro e w10 ⟨rfl,hV10⟩;clear a0 a1 a2 a3 b0 b1 b2 b3 HAD2;obtain⟨a0,a1,a2,a3,az⟩:=row4 (x:=G m) (hV10.row (g:=g+1) (o:=uO (G m)) (by simp))
        have h11:=QV.put4 hV10 sw (y:=G m) (g:=g+1) (by simp) (rp ++ [(g,zO)]) (fun r hr=>by
         rcases List.mem_append.1 hr with h1 | h1
         ·exact⟨List.mem_cons_of_mem _ (List.mem_append_left _ h1),HNE.out r h1⟩
         ·rw[List.mem_singleton]at h1;subst h1
          exact⟨by simp,by simp⟩)
        have h12:=QV.less (qs:=rp ++ [(g+1,uO sw),(g,zO)]) h11 (fun r hr=>by
         rcases List.mem_append.1 hr with h1 | h1
         ·exact List.mem_cons_of_mem _ (List.mem_append_left _ h1)
         ·simp only[List.mem_cons,List.not_mem_nil,or_false]at h1;rcases h1 with rfl | rfl
          ·exact List.mem_cons_self
          ·exact List.mem_cons_of_mem _ (List.mem_append_right _ List.mem_cons_self))
        have HE:=zh h12;clear h11 h12 hV10;go_wp2_with fail;go_roundw
        case rel=>exact⟨m+1,by go_num,by omega,by rw[HGM.out];exact HE.out⟩
        case measure=>simp[intOf];omega
      ·have h9:=QV.less (qs:=rp ++ [(g+1,uO (G m)),(g,zO)]) hV5 fun _ hy=>List.mem_cons_of_mem _ hy
       rw[<- hstep.1 hno]at h9;have HE:=zh h9;clear h9 hstep hno HPA hV5 c1 c2;go_wp2_with fail;go_roundw
       case rel=>exact⟨m+1,by go_num,by omega,HE.out⟩
       case measure=>simp[intOf];omega
     ·obtain rfl:m=us.length:=by omega
      have h9:=HV.out;rw[HGN.out]at h9;have HE:=zh (QV.less (qs:=[(g+1,uO (rsG s p q 2)),(g,zO)]) h9 fun _ hy=>List.mem_append_right _ hy);clear h9;clear HV;go_wp2_with fail;go_roundw
      case rel=>exact⟨2,by go_num,by omega,HE.out⟩
      case measure=>simp[intOf]
   ·obtain⟨z0,z1,z2,z3,zf⟩:=row4 (x:=(0,0,0,0)) (HV.out.row (g:=g) (o:=zO) (by simp));have HRG:=zh HR.out;have hrw:=HV.out.row (g:=g) (o:=zO) (by simp);have HRW:=zh hrw;generalize rsG s p q 2=rr at *
    obtain⟨y0,y1,y2,y3,_⟩:=row4 (x:=rr) (HV.out.row (g:=g+1) (o:=uO rr) (by simp));have HBW:=zh (HBLW.out _ _ HV.out);clear hrw HV HBLW;go_wp2_with fail;refine bodyPost_ret (results_cell_row rfl _ _ g 24 (uL rr) (0,0) _ rfl (put4 (x:=(0,0,0,0)) HRW.out rr) Tryz.underlying24 rfl (by kernel_rfl)) rfl ?_;exact⟨by rw[HRG.out],z0b HBW.out HG0.out _ _ _ _⟩
end Go.Proofs.YtnkilceibkkjlaaGreat
