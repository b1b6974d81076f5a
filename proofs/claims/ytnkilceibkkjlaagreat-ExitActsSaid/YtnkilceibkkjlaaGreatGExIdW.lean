/- What is proved here: exits of the program: ids, Open, All. Conditions: sizes, an int below 2^63. -/
import Derived.Test.YtnkilceibkkjlaaGreatGExNo
set_option maxRecDepth 100000
set_option maxHeartbeats 16000000
namespace Go.Proofs.YtnkilceibkkjlaaGreat
open Go.RowKit Go.Maps
theorem zf3{w w1 w2:World}{row:Option Nat}(h:w.grownBy w1 row)(h2:w1.grownBy w2 row):w.grownBy w2 row:=
 ⟨h2.os.trans h.os,h2.tape.trans h.tape,h2.output.trans h.output,Nat.le_trans h.size h2.size,fun k hk hne=>(h2.block k (Nat.lt_of_lt_of_le hk h.size) hne).trans (h.block k hk hne)⟩
theorem zrf{H:Type}{w:World}{P:Program}{t:TypeId}{R:Value->Option (DataW H × List MemPlace)}{b n:Nat}{D:DataW H}(h:w.ownsMap P t R b n D){g i:Nat}{v:Value}(hc:w.cell? ⟨g,i,none⟩=some v):g≠b:=fun e=>by
 subst e
 obtain⟨es,clock,hb,_⟩:=h
 unfold World.cell? at hc
 simp[hb]at hc
def IdTo(idf:Ent->Option Int)(w2:World)(mb:Nat)(us:List Ent)(k:Nat)(wr:World):Prop:=wr.ownsMap Tryz.prog 3 (plainElem Tryz.prog 4) mb k (setZ ((us.take k).filterMap idf))/\w2.grownBy wr (some mb)
theorem IdTo.stay{idf:Ent->Option Int}{w2:World}{mb:Nat}{us:List Ent}{k:Nat}{wr w':World}(h:IdTo idf w2 mb us k wr)(hb:Below wr.heap.size wr w'):IdTo idf w2 mb us k w':=
 ⟨h.1.kept (z6e hb none) (by simp),zf3 h.2 (z6e hb _)⟩
theorem zup{w:World}{v:Value}{x:Nat}(ho:Own w 3 1 v 1 ([x].map fun (n:Nat)=>Value.int .i64 n)):∃ g c,v= .slice (some ⟨g,0,none⟩) 1 c/\∀ w2,Below w.heap.size w w2->w2.cell? ⟨g,0,none⟩=some (.int .i64 x):=by
 rcases ho.2 with⟨_,h0⟩ | ⟨g,cap,cur,rfl,hg2,_,_,_,ht⟩
 ·cases h0
 ·refine⟨g,cap,rfl,fun w2 hb => ?_⟩;have:=congrArg (fun x=>x[0]?) ht;rw[hb.cell (p:=⟨g,0,none⟩) (z05 hg2),cell_of_row _ _ _ _ _ _ hg2]
  simpa [List.getElem?_take]using this
theorem zf2{w w':World}{k:ByteArray}{e:Ending}(h:z1p w (z2e k) e w'){y:Nat}(hn:z8l k=some y):∃ (t:Int) (g c:Nat),e= .returned (.tuple #[.int .i64 t,.slice (some ⟨g,0,none⟩) 1 c,.bool true])/\∀ w2,Below w'.heap.size w' w2->w2.cell? ⟨g,0,none⟩=some (.int .i64 y):=by
 unfold z8l at hn;cases hp:z2e k with
 | none=>rw[hp]at hn;cases hn
 | some p =>
  obtain⟨t,ns⟩:=p;rw[hp]at hn h
  match ns,hn with
  | [_],hn =>
   cases hn;obtain⟨_,v,he,ho,_⟩:=h;obtain⟨g,c,rfl,hc⟩:=zup ho;exact⟨t,g,c,he,hc⟩
theorem zas{w w':World}{k:ByteArray}{e:Ending}(h:z1p w (z2e k) e w')(hn:z8l k=none):∃ (t:Int) (a:Option Addr) (m c:Nat) (ok:Bool),e= .returned (.tuple #[.int .i64 t,.slice a m c,.bool ok])/\((m:Int)==1)=false:=by
 unfold z8l at hn;cases hp:z2e k with
 | none =>
  rw[hp]at h;obtain⟨_,he⟩:=h;exact⟨0,none,0,0,false,he,by decide⟩
 | some y =>
  obtain⟨t,ns⟩:=y;rw[hp]at hn h;obtain⟨_,v,he,ho,_⟩:=h;obtain⟨a,c,rfl,_⟩:=ho.form;refine⟨t,a,ns.length,c,true,he,?_⟩;rw[beq_eq_false_iff_ne];intro h1
  match ns,hn,h1 with
  | [],_,h1=>simp at h1
  | [_],hn,_=>simp at hn
  | _::_::_,_,h1=>simp at h1;omega
def z3x(n:Int)(l:List Nat):Bool:=l.length==4&&((l.headD 0:Nat):Int)==n
def pAll(_:List Nat):Bool:=true
theorem zwh{ops:Array Oper}{o:Oper}{a:Act}{w:World}{K:Value->World->Prop}{x:Operand}{ad:Option Addr}{n c:Nat}(hg:Region.wanted o (yielded ops a.tmps)=true)(ho:o.op= .call ⟨.builtin .len,#[x],#[75]⟩)(hx:a.eval x= .slice ad n c)(hk:K (.int .i64 n) w):rgDo Tryz.prog ops o a w K:=by
 refine z0j hg ?_ hk;clear hg hk;generalize a.eval=ev at hx ⊢;unfold execOp;simp only[ho]
 go_simp
theorem zw8{ops:Array Oper}{o:Oper}{a:Act}{w:World}{K:Value->World->Prop}{x:Operand}{n:Int}(hg:Region.wanted o (yielded ops a.tmps)=true)(ho:o.op= .binOp .eql 3 x (.const (.int .i64 4)) 3)(hx:a.eval x= .int .i64 n)(hk:K (.bool (n==4)) w):rgDo Tryz.prog ops o a w K:=by
 refine z0j hg ?_ hk;unfold execOp;simp only[ho,hx]
 go_simp
theorem zlu(W:World)(a:Option Addr)(m c:Nat)(l:List Nat)(n:Int)(gp:Nat)(ho:Own W 3 1 (.slice a m c) l.length (znj l))(hc:W.cell? ⟨gp,0,none⟩=some (.int .i64 n)):Calls Tryz.prog 119 #[.slice a m c,.pointer (some ⟨gp,0,none⟩)] W fun e w'=>e= .returned (.bool (z3x n l))/\Below W.heap.size W w':=by
 have hbd:Below W.heap.size W W.drew:=z0g (Below.refl _ W)
 by_cases h4:l.length=4
 ·rcases ho.2 with⟨_,h0⟩ | ⟨g,cap,cur,he,hg2,_,_,_,ht⟩
  ·omega
  cases he;obtain⟨x,r,rfl⟩:∃ x r,l=x::r:=by
   cases l with
   | nil=>cases h4
   | cons x r=>exact⟨x,r,rfl⟩
  have hg0:W.cell? ⟨g,0,none⟩=some (.int .i64 x):=by
   have:=congrArg (fun x=>x[0]?) ht;rw[cell_of_row _ _ _ _ _ _ hg2]
   simpa [List.getElem?_take,znj]using this
  have hP:z3x n (x::r)=(((x:Nat):Int)==n):=by
   unfold z3x;rw[h4];simp
  rw[hP,h4];have HB:=zh hbd;clear hP ht hg2 ho hbd;generalize ((x:Nat):Int)=xi at *
  go_enter Tryz.func119,Tryz.ntmps119;go_wp2_with fail
  go_region_with fail
  all_goals
   go_wp2_with fail;go_ret;exact⟨rfl,HB.out⟩
 ·have hP:z3x n l=false:=by
   unfold z3x;rw[show(l.length==4)=false by rw[beq_eq_false_iff_ne];exact h4]
   rfl
  obtain⟨_,a2,c2,he,_⟩:=ho.src;cases he;have hd:((l.length:Int)==4)=false:=by rw[beq_eq_false_iff_ne];omega
  have hd2:(l.length==4)=false:=by rw[beq_eq_false_iff_ne];exact h4
  rw[hP];have HB:=zh hbd;clear hP ho hbd h4;generalize l.length=ln at *
  go_enter Tryz.func119,Tryz.ntmps119;go_upto_region 1 with fail;refine z4w [[],[0],[0,1],[0,1,2],[0,1,2,3],[0,1,2,3,4],[0,1,2,3,4,5],[0,1,2,3],[0,1,2,3,4,5,6,7],[0,1,2,3,4,5,6,7,8],[0,1,2,3,4,5,6,7,8,9]]
   [.slice a ln c,.int .i64 ln,.bool false,.bool false,undef,undef,undef,undef,undef,.bool false,.bool false]
   [] (fun _ W2=>Below W.heap.size W W2) _ (by kernel_rfl) (by kernel_rfl) (by kernel_rfl)
   (fun vs=>by simp only[z14,z1i,List.setIfInBounds_toArray,List.set_cons_zero,List.set_cons_succ];exact rfl)
   (by simp only[List.getD_cons_zero,List.getD_cons_succ];exact rfl) HB.out ?_ ?_
  ·refine⟨?_,?_,?_,?_,?_,?_,?_,?_,?_,?_,?_,trivial⟩
   ·intro vs p w1 hA hP hq;exact z08 rfl (.inl rfl) rfl ⟨rfl,hP⟩
   ·intro vs p w1 hA hP hq;obtain⟨e0,_⟩:=hA;have e0:vs 0= .slice a ln c:=e0;exact zwh rfl rfl e0 ⟨rfl,hP⟩
   ·intro vs p w1 hA hP hq;obtain⟨_,e1,_⟩:=hA;have e1:vs 1= .int .i64 ln:=e1;exact hd▸zw8 rfl rfl e1 ⟨rfl,hP⟩
   ·intro vs p w1 hA hP hq;obtain⟨_,_,e2,_⟩:=hA;have e2:vs 2= .bool false:=e2;exact z08 rfl (.inl rfl) e2 ⟨rfl,hP⟩
   ·intro vs p w1 hA hP hq;obtain⟨_,_,_,e3,_⟩:=hA;have e3:vs 3= .bool false:=e3;exact zgn (z5p rfl rfl rfl e3 rfl) ⟨rfl,hP⟩
   ·intro vs p w1 hA hP hq;obtain⟨_,_,_,e3,_⟩:=hA;have e3:vs 3= .bool false:=e3;exact zgn (z5p rfl rfl rfl e3 rfl) ⟨rfl,hP⟩
   ·intro vs p w1 hA hP hq;obtain⟨_,_,_,e3,_⟩:=hA;have e3:vs 3= .bool false:=e3;exact zgn (z5p rfl rfl rfl e3 rfl) ⟨rfl,hP⟩
   ·intro vs p w1 hA hP hq;obtain⟨_,_,_,e3,_⟩:=hA;have e3:vs 3= .bool false:=e3;exact zgn (z5p rfl rfl rfl e3 rfl) ⟨rfl,hP⟩
   ·intro vs p w1 hA hP hq;obtain⟨_,_,_,e3,_⟩:=hA;have e3:vs 3= .bool false:=e3;exact zgn (z5p rfl rfl rfl e3 rfl) ⟨rfl,hP⟩
   ·intro vs p w1 hA hP hq;obtain⟨_,_,_,e3,_⟩:=hA;have e3:vs 3= .bool false:=e3;exact zgd rfl rfl e3 rfl ⟨rfl,hP⟩
   ·intro vs p w1 hA hP hq;obtain⟨_,_,_,_,_,_,_,_,_,e9,_⟩:=hA;have e9:vs 9= .bool false:=e9;exact z08 rfl (.inr rfl) e9 ⟨rfl,hP⟩
  ·intro W2 hW2;have HW2:Hid (Below W.heap.size W W2):=hW2;clear hW2 HB;go_wp2_with fail;go_ret;exact⟨rfl,HW2.out⟩
theorem zpx(W:World)(v:Value):Calls Tryz.prog 116 #[v] W fun e w'=>e= .returned (.bool true)/\Below W.heap.size W w':=by
 go_enter Tryz.func116,Tryz.ntmps116;go_wp2_with fail;go_ret;exact⟨rfl,Below.refl _ _⟩
theorem zwo(w:World)(h:Hand)(s:St)(f:Nat)(n:Int)(gp:Nat)(hq:QSt w h s)(hf:s.Fit f)(hm:f<10000000000)(hkey:∀ x∈s.ents,x.1.size<1000000000000)(hgp:gp<w.heap.size)(hgc:w.cell? ⟨gp,0,none⟩=some (.int .i64 n)) :
  Calls Tryz.prog 115 #[.pointer h.ptr,.func (.func 119) #[] #[.pointer (some ⟨gp,0,none⟩)]] w fun e W'=>∃ v,e= .returned v/\W'.ownsRow w.heap.size 3 1 v (s.ids (z3x n)).length ((s.ids (z3x n)).map fun x=>Value.int .i64 x)/\Below w.heap.size w W':=by
 have hmm:=@run_makeMap Tryz.prog;have hlen:s.ents.length<1000000000000:=by have:=hf.size;unfold St.size at this;omega
 have hz:s.size<1000000000000:=Nat.lt_of_le_of_lt hf.size (by omega);have HR:=zh (zg3 hf.srt (z3x n));have HT:Hid (∀ W,Calls Tryz.prog 177 #[.int .i64 15] W fun e w'=>e= .returned (.string (keyL 15 []))/\Below W.heap.size W w'):=ze2 15 (by decide) (by decide);have HU:Hid (∀ W,Below w.heap.size w W->Calls Tryz.prog 101 #[.pointer h.ptr,.string (keyL 15 [])] W fun e w2=>∃ ad c,e= .returned (.slice ad (z0o (keyL 15 []) s.ents).length c)/\z5n w2 ad (z0o (keyL 15 []) s.ents)/\Below W.heap.size W w2):=fun W hW =>
  (zpr W h s (keyL 15 []) (hq.below hW) hz).mono fun e w2 ⟨v,he,hO⟩=>by
   obtain⟨ad,c,rfl,hp⟩:=hO.1.pairs;exact⟨ad,c,he,hp,hO.2.2⟩
 have HL:Hid ((z0o (keyL 15 []) s.ents).length<1000000000000):=Nat.lt_of_le_of_lt (z3i _ _) hlen;have HKS:Hid (∀ (i:Nat) (x:Ent),(z0o (keyL 15 []) s.ents)[i]?=some x->x.1.size<1000000000000):=fun i x hx=>hkey x (by have h:=List.mem_of_getElem? hx;unfold z0o at h;exact(List.mem_filter.1 h).1)
 have HRI:Hid (∀ (k:ByteArray) W,Below w.heap.size w W->Calls Tryz.prog 75 #[.pointer h.ptr,.string k] W fun e w1=>∃ a ln c,e= .returned (.slice a ln c)/\Below W.heap.size W w1/\Calls Tryz.prog 119 #[.slice a ln c,.pointer (some ⟨gp,0,none⟩)] w1 fun e w2=>e= .returned (.bool ((z3x n) (rowOf (s.val k))))/\Below w1.heap.size w1 w2):=fun k W hW =>
  (QSt.row (hq.below hW) hf (by omega) k).mono fun e w1 ⟨v,he,ho,_,hb⟩=>by
   obtain⟨_,a,c,rfl,_⟩:=ho.src;exact⟨a,_,c,he,hb,zlu w1 a _ c _ n gp ho (by rw[(z0a hW hb).cell (p:=⟨gp,0,none⟩) hgp];exact hgc)⟩
 have hids:s.ids (z3x n)=(z0o (keyL 15 []) s.ents).filterMap (idOf s (z3x n)):=rfl;rw[hids]at HR ⊢;have hido:∀ x:Ent,idOf s (z3x n) x=match z8l x.1 with
   | some nn=>if (z3x n) (rowOf (s.val x.1))then some (nn:Int)else none
   | none=>none:=fun x=>rfl
 generalize idOf s (z3x n)=idf at *
 generalize z0o (keyL 15 []) s.ents=us at *
 clear hq hlen hkey hf hz hids;generalize keyL 15 []=kt at *
 have hM0:=World.ownsMap_made (H:=Unit) w Tryz.prog 3 (plainElem Tryz.prog 4);have hb0:=z04 (Below.refl _ w) (.map #[] 0);have HM0:=zh (And.intro hM0 hb0);have HT1:=zh (HT.out (w.alloc (.map #[] 0)));clear hM0 hb0 HT;go_enter Tryz.func115,Tryz.ntmps115;go_wp2_with fail;refine zm HT1.out ?_;rintro e w1 ⟨rfl,hb1⟩;have hM1:=HM0.out.1.kept (z6e hb1 none) (by simp);have hb01:=z0a HM0.out.2 hb1;have HU1:=zh (HU.out _ hb01);have H1:=zh (And.intro hM1 hb01);clear hb1 hM1 hb01 HU HT1 HM0;go_wp2_with fail;refine zm HU1.out ?_;rintro e w2 ⟨ad,c,rfl,hp,hb2⟩;have hM2:=H1.out.1.kept (z6e hb2 none) (by simp);have hb02:=z0a H1.out.2 hb2;have H0:Hid (IdTo idf w2 w.heap.size us 0 w2):=⟨hM2,World.grownBy.refl _ _⟩;have HG:Hid (∀ k,k<us.length->∃ x,us[k]?=some x):=fun k hk=>⟨_,List.getElem?_eq_getElem hk⟩
 have HPC:Hid (∀ k x wr,IdTo idf w2 w.heap.size us k wr->us[k]?=some x->∃ g,ad=some ⟨g,0,none⟩/\wr.cell? ⟨g,k*2,none⟩=some (.string x.1)/\wr.cell? ⟨g,k*2+1,none⟩=some (.string x.2)):=fun k x wr hS hk=>by
  obtain⟨g,e,q1,q2⟩:=hp.at0 k x hk;have hne:=zrf hM2 q1;have hbk:=hS.2.block g (World.block_lt_of_cell? w2 _ q1) (fun e=>hne (by cases e;rfl));exact⟨g,e,(World.cell?_of_block (a:=⟨g,k*2,none⟩) hbk).trans q1,(World.cell?_of_block (a:=⟨g,k*2+1,none⟩) hbk).trans q2⟩
 have HBW:Hid (∀ k wr,IdTo idf w2 w.heap.size us k wr->Below w.heap.size w wr):=fun k wr hS=>hb02.grown hS.2 hb02.size fun j hj=>by cases hj;exact Nat.le_refl _
 have HEND:Hid (∀ wr,IdTo idf w2 w.heap.size us us.length wr->Calls Tryz.prog 178 #[.func (.func 227) #[] #[.pointer (some ⟨wr.heap.size,0,none⟩)]] (wr.alloc (.cells #[.map (some w.heap.size)] 227)) fun e W'=>∃ v,e= .returned v/\∀ v',v'=v->∃ v'',Ending.returned v' = .returned v''/\W'.ownsRow w.heap.size 3 1 v'' (us.filterMap idf).length ((us.filterMap idf).map fun x=>Value.int .i64 x)/\Below w.heap.size w W'):=fun wr hS=>by
  have hown:=hS.1;rw[List.take_length]at hown;have hsz:=hown.size_le;have hL:=HL.out;refine(zd7 w.heap.size us.length _ _ wr hown (by unfold maxLen;omega) (by omega)).mono fun e W' ⟨v,ss,he,hp',hrow,hb'⟩=>⟨v,he,fun v' e'=>⟨v',rfl,?_,?_⟩⟩
  ·subst e';obtain⟨e1,e2⟩:=zhk HR.out.1 HR.out.2 hown hp';rw[e1,e2]at hrow;exact ownsRow_base_a hrow (Nat.le_trans hb02.size hS.2.size)
  ·exact z0a (HBW.out _ _ hS) hb'
 have HKC:Hid (∀ wr,Calls Tryz.prog 179 #[.map (some w.heap.size)] wr fun e w'=>e= .returned (.func (.func 227) #[] #[.pointer (some ⟨wr.heap.size,0,none⟩)])/\w'=wr.alloc (.cells #[.map (some w.heap.size)] 227)):=fun wr=>zh2 _ wr
 have HZ:Hid (∀ (k:Nat) (x:Ent) z,us[k]?=some x->idf x=some z->0<=z/\z<9223372036854775808):=fun k x z hk hx=>HR.out.2 z (List.mem_filterMap.2 ⟨x,List.mem_of_getElem? hk,hx⟩)
 clear hp hb2 HU1 hb02 hM2 HR H1;generalize hmb:w.heap.size=mb at *
 have HMB:=zh hmb;clear hmb;have HID:=zh hido;clear hido;go_wp2_with fail
 go_loopw [16] (fun iv wr=>∃ k:Nat,iv= .int .i64 k/\k<=us.length/\IdTo idf w2 mb us k wr) (fun iv _=>us.length-(intOf iv).toNat)
 case atStart=>exact⟨0,rfl,by omega,H0.out⟩
 case round =>
  obtain⟨k,rfl,hk,hR⟩:=hrel;have HRK:=zh hR;clear hR H0;have hL:=HL.out
  by_cases hlt:k<us.length
  ·obtain⟨x,hx⟩:=HG.out k hlt;obtain⟨g,rfl,c1,c2⟩:=HPC.out k x wr HRK.out hx;have hbw:=HBW.out k wr HRK.out;have hba:Below wr.heap.size wr (wr.alloc (.cells #[.string x.1,.string x.2] 156)):=(Below.refl _ wr).alloc (Nat.le_refl _) _;have hrow:(wr.alloc (.cells #[.string x.1,.string x.2] 156)).heap[wr.heap.size]?=some (.cells #[.string x.1,.string x.2] 156 (0,0)):=heap_alloc_new wr _;have hPA:=parse_any x.1 (HKS.out k x hx) (wr.alloc (.cells #[.string x.1,.string x.2] 156));have hst:=z5y idf us k x hx;have hid0:=HID.out x;cases hn:z8l x.1 with
   | none =>
    rw[hn]at hid0;rw[hid0]at hst;simp only[Option.toList_none,List.append_nil]at hst;have HPA:Hid (Calls Tryz.prog 159 #[.string x.1] (wr.alloc (.cells #[.string x.1,.string x.2] 156)) fun e w3=>(∃ (t:Int) (a:Option Addr) (m c:Nat) (ok:Bool),e= .returned (.tuple #[.int .i64 t,.slice a m c,.bool ok])/\((m:Int)==1)=false)/\IdTo idf w2 mb us (k+1) w3):=
     hPA.mono fun e w3 hr=>⟨zas hr hn,by
      have hS3:=HRK.out.stay (hba.trans (hr.1.mono (by simp)))
      exact⟨by rw[hst];exact hS3.1.mono (Nat.le_succ _),hS3.2⟩⟩
    clear hPA hst hn hx HRK hba hid0 hbw hrow;go_wp2_with fail;refine zm HPA.out ?_;rintro e w3 ⟨⟨t,a3,m3,c3,ok,rfl,hm3⟩,hR3⟩;have HR3:=zh hR3;clear hR3 HPA;cases ok with
    | true =>
     go_wp2_with fail;go_roundw
     case rel=>exact⟨k+1,by go_num,by omega,HR3.out⟩
     case measure=>simp[intOf];omega
    | false =>
     go_wp2_with fail;go_roundw
     case rel=>exact⟨k+1,by go_num,by omega,HR3.out⟩
     case measure=>simp[intOf];omega
   | some y =>
    rw[hn]at hid0;change idf x=if (z3x n) (rowOf (s.val x.1))then some (y:Int)else none at hid0
    have HPA:Hid (Calls Tryz.prog 159 #[.string x.1] (wr.alloc (.cells #[.string x.1,.string x.2] 156)) fun e w3=>∃ (t:Int) (g c:Nat),e= .returned (.tuple #[.int .i64 t,.slice (some ⟨g,0,none⟩) 1 c,.bool true])/\w3.cell? ⟨wr.heap.size,0,none⟩=some (.string x.1) /\
      Calls Tryz.prog 75 #[.pointer h.ptr,.string x.1] w3 fun e w4=>∃ a ln c,e= .returned (.slice a ln c)/\Calls Tryz.prog 119 #[.slice a ln c,.pointer (some ⟨gp,0,none⟩)] w4 fun e w5=>e= .returned (.bool ((z3x n) (rowOf (s.val x.1))))/\w5.cell? ⟨g,0,none⟩=some (.int .i64 y)/\IdTo idf w2 mb us k w5):=by
     refine hPA.mono fun e w3 hr => ?_
     obtain⟨t,g,c,he,hc⟩:=zf2 hr hn;have hb3:Below wr.heap.size wr w3:=hba.trans (hr.1.mono (by simp));refine⟨t,g,c,he,?_,?_⟩
     ·rw[hr.1.cell (p:=⟨wr.heap.size,0,none⟩) (by simp),cell_of_row _ _ _ _ _ _ hrow];rfl
     ·refine(HRI.out x.1 w3 (by have h1:=hbw;rw[<- HMB.out]at h1;have h2:=z0a h1 hb3;rw[HMB.out]at h2;exact h2)).mono fun e w4 ⟨a,n,c4,he,hb4,hC⟩=>⟨a,n,c4,he,?_⟩
      refine hC.mono fun e w5 ⟨he,hb5⟩=>⟨he,hc _ (z0a hb4 hb5),HRK.out.stay (z0a (z0a hb3 hb4) hb5)⟩
    have HZK:=zh (fun z=>HZ.out k x z hx);have hST:=hst;clear hPA hst hn hx HRK hba hbw hrow HRI HID HPC HBW HEND HKC;generalize (z3x n) (rowOf (s.val x.1))=bb at *
    cases bb with
    | false =>
     have hid1:idf x=none:=by rw[hid0];rfl
     rw[hid1]at hST;simp only[Option.toList_none,List.append_nil]at hST;have HST2:=zh hST;clear hid0 hST hid1 HZK;go_wp2_with fail;refine zm HPA.out ?_;rintro e w3 ⟨t,g3,c3,rfl,hp3,hR3⟩;have HR3:=zh hR3;clear hR3 HPA;go_wp2_with fail;refine zm HR3.out ?_;rintro e w4 ⟨a4,n4,c4,rfl,hR4⟩;have HR4:=zh hR4;clear hR4 HR3 hp3;go_wp2_with fail;refine zm HR4.out ?_;rintro e w5 ⟨rfl,hg5,hR5⟩;have HR5:Hid (IdTo idf w2 mb us (k+1) w5):=⟨by rw[HST2.out];exact hR5.1.mono (Nat.le_succ _),hR5.2⟩;clear hR5 HR4 hg5;go_wp2_with fail;go_roundw
     case rel=>exact⟨k+1,by go_num,by omega,HR5.out⟩
     case measure=>simp[intOf];omega
    | true =>
     have hid1:idf x=some (y:Int):=by rw[hid0];rfl
     have hzz:=HZK.out _ hid1;rw[hid1]at hST;simp only[Option.toList_some]at hST;have hkey:=zqs hzz.1 hzz.2;clear hid0 hid1 HZK hzz;generalize ((y:Nat):Int)=z at *
     have HST2:Hid (setZ ((us.take (k+1)).filterMap idf)=(setZ ((us.take k).filterMap idf)).put (.int .i64 z) (.lit (.bool true))):=by
      show _=_
      rw[hST,zgv]
     clear hST;go_wp2_with fail;refine zm HPA.out ?_;rintro e w3 ⟨t,g3,c3,rfl,hp3,hR3⟩;have HR3:=zh hR3;clear hR3 HPA;go_wp2_with fail;refine zm HR3.out ?_;rintro e w4 ⟨a4,n4,c4,rfl,hR4⟩;have HR4:=zh hR4;clear hR4 HR3 hp3;go_wp2_with fail;refine zm HR4.out ?_;rintro e w5 ⟨rfl,hg5,hR5⟩;have hown5:=hR5.1;have HG5:=zh hR5.2;clear hR5 HR4;go_wp2_with (at_mapUpdate;refine wpList_mapUpdate_own _ rfl _ _ _ 227 rfl 3 4 zf7 Tryz.underlying227 _ mb k _ rfl hown5 (by unfold maxLen;omega) _ _ _ rfl rfl hkey _ [] (plainElem_bool Tryz.underlying4 true) ?_;intro w6 hown6 hgrow6);have HR6:Hid (IdTo idf w2 mb us (k+1) w6):=⟨by rw[HST2.out];exact hown6,zf3 HG5.out hgrow6⟩;clear hown6 hgrow6 hown5 HST2 HG5;go_roundw
     case rel=>exact⟨k+1,by go_num,by omega,HR6.out⟩
     case measure=>simp[intOf];omega
  ·obtain rfl:k=us.length:=by omega
   have HE1:=zh (HEND.out wr HRK.out);clear HRI HID HPC HBW HEND;go_wp2_with fail;refine zm (HKC.out wr) ?_;rintro e w5 ⟨rfl,rfl⟩;go_wp2_with fail;refine zm HE1.out ?_;rintro e w6 ⟨v,rfl,hv⟩;have hv2:=hv v rfl;rw[<- HMB.out]at hv2;have HV:=zh hv2;clear hv hv2;go_wp2_with fail;go_ret;exact HV.out
theorem zxf(w:World)(h:Hand)(s:St)(f:Nat)(hq:QSt w h s)(hf:s.Fit f)(hm:f<10000000000)(hkey:∀ x∈s.ents,x.1.size<1000000000000) :
  Calls Tryz.prog 115 #[.pointer h.ptr,.func (.func 116) #[] #[]] w fun e W'=>∃ v,e= .returned v/\W'.ownsRow w.heap.size 3 1 v (s.ids pAll).length ((s.ids pAll).map fun x=>Value.int .i64 x)/\Below w.heap.size w W':=by
 have hmm:=@run_makeMap Tryz.prog;have hlen:s.ents.length<1000000000000:=by have:=hf.size;unfold St.size at this;omega
 have hz:s.size<1000000000000:=Nat.lt_of_le_of_lt hf.size (by omega);have HR:=zh (zg3 hf.srt pAll);have HT:Hid (∀ W,Calls Tryz.prog 177 #[.int .i64 15] W fun e w'=>e= .returned (.string (keyL 15 []))/\Below W.heap.size W w'):=ze2 15 (by decide) (by decide);have HU:Hid (∀ W,Below w.heap.size w W->Calls Tryz.prog 101 #[.pointer h.ptr,.string (keyL 15 [])] W fun e w2=>∃ ad c,e= .returned (.slice ad (z0o (keyL 15 []) s.ents).length c)/\z5n w2 ad (z0o (keyL 15 []) s.ents)/\Below W.heap.size W w2):=fun W hW =>
  (zpr W h s (keyL 15 []) (hq.below hW) hz).mono fun e w2 ⟨v,he,hO⟩=>by
   obtain⟨ad,c,rfl,hp⟩:=hO.1.pairs;exact⟨ad,c,he,hp,hO.2.2⟩
 have HL:Hid ((z0o (keyL 15 []) s.ents).length<1000000000000):=Nat.lt_of_le_of_lt (z3i _ _) hlen;have HKS:Hid (∀ (i:Nat) (x:Ent),(z0o (keyL 15 []) s.ents)[i]?=some x->x.1.size<1000000000000):=fun i x hx=>hkey x (by have h:=List.mem_of_getElem? hx;unfold z0o at h;exact(List.mem_filter.1 h).1)
 have HRI:Hid (∀ (k:ByteArray) W,Below w.heap.size w W->Calls Tryz.prog 75 #[.pointer h.ptr,.string k] W fun e w1=>∃ a ln c,e= .returned (.slice a ln c)/\Below W.heap.size W w1/\Calls Tryz.prog 116 #[.slice a ln c] w1 fun e w2=>e= .returned (.bool (pAll (rowOf (s.val k))))/\Below w1.heap.size w1 w2):=fun k W hW =>
  (QSt.row (hq.below hW) hf (by omega) k).mono fun e w1 ⟨v,he,ho,_,hb⟩=>by
   obtain⟨_,a,c,rfl,_⟩:=ho.src;exact⟨a,_,c,he,hb,zpx w1 _⟩
 have hids:s.ids pAll=(z0o (keyL 15 []) s.ents).filterMap (idOf s pAll):=rfl;rw[hids]at HR ⊢;have hido:∀ x:Ent,idOf s pAll x=match z8l x.1 with
   | some nn=>if pAll (rowOf (s.val x.1))then some (nn:Int)else none
   | none=>none:=fun x=>rfl
 generalize idOf s pAll=idf at *
 generalize z0o (keyL 15 []) s.ents=us at *
 clear hq hlen hkey hf hz hids;generalize keyL 15 []=kt at *
 have hM0:=World.ownsMap_made (H:=Unit) w Tryz.prog 3 (plainElem Tryz.prog 4);have hb0:=z04 (Below.refl _ w) (.map #[] 0);have HM0:=zh (And.intro hM0 hb0);have HT1:=zh (HT.out (w.alloc (.map #[] 0)));clear hM0 hb0 HT;go_enter Tryz.func115,Tryz.ntmps115;go_wp2_with fail;refine zm HT1.out ?_;rintro e w1 ⟨rfl,hb1⟩;have hM1:=HM0.out.1.kept (z6e hb1 none) (by simp);have hb01:=z0a HM0.out.2 hb1;have HU1:=zh (HU.out _ hb01);have H1:=zh (And.intro hM1 hb01);clear hb1 hM1 hb01 HU HT1 HM0;go_wp2_with fail;refine zm HU1.out ?_;rintro e w2 ⟨ad,c,rfl,hp,hb2⟩;have hM2:=H1.out.1.kept (z6e hb2 none) (by simp);have hb02:=z0a H1.out.2 hb2;have H0:Hid (IdTo idf w2 w.heap.size us 0 w2):=⟨hM2,World.grownBy.refl _ _⟩;have HG:Hid (∀ k,k<us.length->∃ x,us[k]?=some x):=fun k hk=>⟨_,List.getElem?_eq_getElem hk⟩
 have HPC:Hid (∀ k x wr,IdTo idf w2 w.heap.size us k wr->us[k]?=some x->∃ g,ad=some ⟨g,0,none⟩/\wr.cell? ⟨g,k*2,none⟩=some (.string x.1)/\wr.cell? ⟨g,k*2+1,none⟩=some (.string x.2)):=fun k x wr hS hk=>by
  obtain⟨g,e,q1,q2⟩:=hp.at0 k x hk;have hne:=zrf hM2 q1;have hbk:=hS.2.block g (World.block_lt_of_cell? w2 _ q1) (fun e=>hne (by cases e;rfl));exact⟨g,e,(World.cell?_of_block (a:=⟨g,k*2,none⟩) hbk).trans q1,(World.cell?_of_block (a:=⟨g,k*2+1,none⟩) hbk).trans q2⟩
 have HBW:Hid (∀ k wr,IdTo idf w2 w.heap.size us k wr->Below w.heap.size w wr):=fun k wr hS=>hb02.grown hS.2 hb02.size fun j hj=>by cases hj;exact Nat.le_refl _
 have HEND:Hid (∀ wr,IdTo idf w2 w.heap.size us us.length wr->Calls Tryz.prog 178 #[.func (.func 227) #[] #[.pointer (some ⟨wr.heap.size,0,none⟩)]] (wr.alloc (.cells #[.map (some w.heap.size)] 227)) fun e W'=>∃ v,e= .returned v/\∀ v',v'=v->∃ v'',Ending.returned v' = .returned v''/\W'.ownsRow w.heap.size 3 1 v'' (us.filterMap idf).length ((us.filterMap idf).map fun x=>Value.int .i64 x)/\Below w.heap.size w W'):=fun wr hS=>by
  have hown:=hS.1;rw[List.take_length]at hown;have hsz:=hown.size_le;have hL:=HL.out;refine(zd7 w.heap.size us.length _ _ wr hown (by unfold maxLen;omega) (by omega)).mono fun e W' ⟨v,ss,he,hp',hrow,hb'⟩=>⟨v,he,fun v' e'=>⟨v',rfl,?_,?_⟩⟩
  ·subst e';obtain⟨e1,e2⟩:=zhk HR.out.1 HR.out.2 hown hp';rw[e1,e2]at hrow;exact ownsRow_base_a hrow (Nat.le_trans hb02.size hS.2.size)
  ·exact z0a (HBW.out _ _ hS) hb'
 have HKC:Hid (∀ wr,Calls Tryz.prog 179 #[.map (some w.heap.size)] wr fun e w'=>e= .returned (.func (.func 227) #[] #[.pointer (some ⟨wr.heap.size,0,none⟩)])/\w'=wr.alloc (.cells #[.map (some w.heap.size)] 227)):=fun wr=>zh2 _ wr
 have HZ:Hid (∀ (k:Nat) (x:Ent) z,us[k]?=some x->idf x=some z->0<=z/\z<9223372036854775808):=fun k x z hk hx=>HR.out.2 z (List.mem_filterMap.2 ⟨x,List.mem_of_getElem? hk,hx⟩)
 clear hp hb2 HU1 hb02 hM2 HR H1;generalize hmb:w.heap.size=mb at *
 have HMB:=zh hmb;clear hmb;have HID:=zh hido;clear hido;go_wp2_with fail
 go_loopw [16] (fun iv wr=>∃ k:Nat,iv= .int .i64 k/\k<=us.length/\IdTo idf w2 mb us k wr) (fun iv _=>us.length-(intOf iv).toNat)
 case atStart=>exact⟨0,rfl,by omega,H0.out⟩
 case round =>
  obtain⟨k,rfl,hk,hR⟩:=hrel;have HRK:=zh hR;clear hR H0;have hL:=HL.out
  by_cases hlt:k<us.length
  ·obtain⟨x,hx⟩:=HG.out k hlt;obtain⟨g,rfl,c1,c2⟩:=HPC.out k x wr HRK.out hx;have hbw:=HBW.out k wr HRK.out;have hba:Below wr.heap.size wr (wr.alloc (.cells #[.string x.1,.string x.2] 156)):=(Below.refl _ wr).alloc (Nat.le_refl _) _;have hrow:(wr.alloc (.cells #[.string x.1,.string x.2] 156)).heap[wr.heap.size]?=some (.cells #[.string x.1,.string x.2] 156 (0,0)):=heap_alloc_new wr _;have hPA:=parse_any x.1 (HKS.out k x hx) (wr.alloc (.cells #[.string x.1,.string x.2] 156));have hst:=z5y idf us k x hx;have hid0:=HID.out x;cases hn:z8l x.1 with
   | none =>
    rw[hn]at hid0;rw[hid0]at hst;simp only[Option.toList_none,List.append_nil]at hst;have HPA:Hid (Calls Tryz.prog 159 #[.string x.1] (wr.alloc (.cells #[.string x.1,.string x.2] 156)) fun e w3=>(∃ (t:Int) (a:Option Addr) (m c:Nat) (ok:Bool),e= .returned (.tuple #[.int .i64 t,.slice a m c,.bool ok])/\((m:Int)==1)=false)/\IdTo idf w2 mb us (k+1) w3):=
     hPA.mono fun e w3 hr=>⟨zas hr hn,by
      have hS3:=HRK.out.stay (hba.trans (hr.1.mono (by simp)))
      exact⟨by rw[hst];exact hS3.1.mono (Nat.le_succ _),hS3.2⟩⟩
    clear hPA hst hn hx HRK hba hid0 hbw hrow;go_wp2_with fail;refine zm HPA.out ?_;rintro e w3 ⟨⟨t,a3,m3,c3,ok,rfl,hm3⟩,hR3⟩;have HR3:=zh hR3;clear hR3 HPA;cases ok with
    | true =>
     go_wp2_with fail;go_roundw
     case rel=>exact⟨k+1,by go_num,by omega,HR3.out⟩
     case measure=>simp[intOf];omega
    | false =>
     go_wp2_with fail;go_roundw
     case rel=>exact⟨k+1,by go_num,by omega,HR3.out⟩
     case measure=>simp[intOf];omega
   | some y =>
    rw[hn]at hid0;change idf x=if pAll (rowOf (s.val x.1))then some (y:Int)else none at hid0
    have HPA:Hid (Calls Tryz.prog 159 #[.string x.1] (wr.alloc (.cells #[.string x.1,.string x.2] 156)) fun e w3=>∃ (t:Int) (g c:Nat),e= .returned (.tuple #[.int .i64 t,.slice (some ⟨g,0,none⟩) 1 c,.bool true])/\w3.cell? ⟨wr.heap.size,0,none⟩=some (.string x.1) /\
      Calls Tryz.prog 75 #[.pointer h.ptr,.string x.1] w3 fun e w4=>∃ a ln c,e= .returned (.slice a ln c)/\Calls Tryz.prog 116 #[.slice a ln c] w4 fun e w5=>e= .returned (.bool (pAll (rowOf (s.val x.1))))/\w5.cell? ⟨g,0,none⟩=some (.int .i64 y)/\IdTo idf w2 mb us k w5):=by
     refine hPA.mono fun e w3 hr => ?_
     obtain⟨t,g,c,he,hc⟩:=zf2 hr hn;have hb3:Below wr.heap.size wr w3:=hba.trans (hr.1.mono (by simp));refine⟨t,g,c,he,?_,?_⟩
     ·rw[hr.1.cell (p:=⟨wr.heap.size,0,none⟩) (by simp),cell_of_row _ _ _ _ _ _ hrow];rfl
     ·refine(HRI.out x.1 w3 (by have h1:=hbw;rw[<- HMB.out]at h1;have h2:=z0a h1 hb3;rw[HMB.out]at h2;exact h2)).mono fun e w4 ⟨a,n,c4,he,hb4,hC⟩=>⟨a,n,c4,he,?_⟩
      refine hC.mono fun e w5 ⟨he,hb5⟩=>⟨he,hc _ (z0a hb4 hb5),HRK.out.stay (z0a (z0a hb3 hb4) hb5)⟩
    have HZK:=zh (fun z=>HZ.out k x z hx);have hST:=hst;clear hPA hst hn hx HRK hba hbw hrow HRI HID HPC HBW HEND HKC;generalize pAll (rowOf (s.val x.1))=bb at *
    cases bb with
    | false =>
     have hid1:idf x=none:=by rw[hid0];rfl
     rw[hid1]at hST;simp only[Option.toList_none,List.append_nil]at hST;have HST2:=zh hST;clear hid0 hST hid1 HZK;go_wp2_with fail;refine zm HPA.out ?_;rintro e w3 ⟨t,g3,c3,rfl,hp3,hR3⟩;have HR3:=zh hR3;clear hR3 HPA;go_wp2_with fail;refine zm HR3.out ?_;rintro e w4 ⟨a4,n4,c4,rfl,hR4⟩;have HR4:=zh hR4;clear hR4 HR3 hp3;go_wp2_with fail;refine zm HR4.out ?_;rintro e w5 ⟨rfl,hg5,hR5⟩;have HR5:Hid (IdTo idf w2 mb us (k+1) w5):=⟨by rw[HST2.out];exact hR5.1.mono (Nat.le_succ _),hR5.2⟩;clear hR5 HR4 hg5;go_wp2_with fail;go_roundw
     case rel=>exact⟨k+1,by go_num,by omega,HR5.out⟩
     case measure=>simp[intOf];omega
    | true =>
     have hid1:idf x=some (y:Int):=by rw[hid0];rfl
     have hzz:=HZK.out _ hid1;rw[hid1]at hST;simp only[Option.toList_some]at hST;have hkey:=zqs hzz.1 hzz.2;clear hid0 hid1 HZK hzz;generalize ((y:Nat):Int)=z at *
     have HST2:Hid (setZ ((us.take (k+1)).filterMap idf)=(setZ ((us.take k).filterMap idf)).put (.int .i64 z) (.lit (.bool true))):=by
      show _=_
      rw[hST,zgv]
     clear hST;go_wp2_with fail;refine zm HPA.out ?_;rintro e w3 ⟨t,g3,c3,rfl,hp3,hR3⟩;have HR3:=zh hR3;clear hR3 HPA;go_wp2_with fail;refine zm HR3.out ?_;rintro e w4 ⟨a4,n4,c4,rfl,hR4⟩;have HR4:=zh hR4;clear hR4 HR3 hp3;go_wp2_with fail;refine zm HR4.out ?_;rintro e w5 ⟨rfl,hg5,hR5⟩;have hown5:=hR5.1;have HG5:=zh hR5.2;clear hR5 HR4;go_wp2_with (at_mapUpdate;refine wpList_mapUpdate_own _ rfl _ _ _ 227 rfl 3 4 zf7 Tryz.underlying227 _ mb k _ rfl hown5 (by unfold maxLen;omega) _ _ _ rfl rfl hkey _ [] (plainElem_bool Tryz.underlying4 true) ?_;intro w6 hown6 hgrow6);have HR6:Hid (IdTo idf w2 mb us (k+1) w6):=⟨by rw[HST2.out];exact hown6,zf3 HG5.out hgrow6⟩;clear hown6 hgrow6 hown5 HST2 HG5;go_roundw
     case rel=>exact⟨k+1,by go_num,by omega,HR6.out⟩
     case measure=>simp[intOf];omega
  ·obtain rfl:k=us.length:=by omega
   have HE1:=zh (HEND.out wr HRK.out);clear HRI HID HPC HBW HEND;go_wp2_with fail;refine zm (HKC.out wr) ?_;rintro e w5 ⟨rfl,rfl⟩;go_wp2_with fail;refine zm HE1.out ?_;rintro e w6 ⟨v,rfl,hv⟩;have hv2:=hv v rfl;rw[<- HMB.out]at hv2;have HV:=zh hv2;clear hv hv2;go_wp2_with fail;go_ret;exact HV.out
theorem zwt(w:World)(h:Hand)(s:St)(f:Nat)(n:Int)(hq:QSt w h s)(hf:s.Fit f)(hm:f<10000000000)(hkey:∀ x∈s.ents,x.1.size<1000000000000) :
  Calls Tryz.prog 47 #[.pointer h.ptr,.int .i64 n] w fun e W'=>∃ v,e= .returned v/\W'.ownsRow w.heap.size 3 1 v (s.ids (z3x n)).length ((s.ids (z3x n)).map fun x=>Value.int .i64 x)/\Below w.heap.size w W':=by
 have hb0:=z04 (Below.refl _ w) (.cells #[.int .i64 n] 3);have HI:Hid (Calls Tryz.prog 115 #[.pointer h.ptr,.func (.func 119) #[] #[.pointer (some ⟨w.heap.size,0,none⟩)]] (w.alloc (.cells #[.int .i64 n] 3)) fun e W'=>∃ v,e= .returned v/\W'.ownsRow w.heap.size 3 1 v (s.ids (z3x n)).length ((s.ids (z3x n)).map fun x=>Value.int .i64 x)/\Below w.heap.size w W'):=
  (zwo _ h s f n w.heap.size (hq.below hb0) hf hm hkey (by simp) (by rw[cell_of_row _ _ _ _ _ _ (heap_alloc_new w _)];rfl)).mono fun e w' ⟨v,he,ho,hb⟩=>⟨v,he,ownsRow_base_a ho (by simp),z0a hb0 hb⟩
 clear hq hf hkey hb0;generalize s.ids (z3x n)=il at *
 go_enter Tryz.func47,Tryz.ntmps47;go_wp2_with fail;refine zm HI.out ?_;rintro e w2 ⟨v,rfl,hv⟩;have HB:=zh hv;clear hv HI;go_wp2_with fail;go_ret;exact⟨_,rfl,HB.out⟩
theorem zys(w:World)(h:Hand)(s:St)(f:Nat)(hq:QSt w h s)(hf:s.Fit f)(hm:f<10000000000)(hkey:∀ x∈s.ents,x.1.size<1000000000000) :
  Calls Tryz.prog 43 #[.pointer h.ptr] w fun e W'=>∃ v,e= .returned v/\W'.ownsRow w.heap.size 3 1 v (s.ids pAll).length ((s.ids pAll).map fun x=>Value.int .i64 x)/\Below w.heap.size w W':=by
 have HI:Hid (Calls Tryz.prog 115 #[.pointer h.ptr,.func (.func 116) #[] #[]] w fun e W'=>∃ v,e= .returned v/\W'.ownsRow w.heap.size 3 1 v (s.ids pAll).length ((s.ids pAll).map fun x=>Value.int .i64 x)/\Below w.heap.size w W'):=zxf w h s f hq hf hm hkey;clear hq hf hkey;generalize s.ids pAll=il at *
 go_enter Tryz.func43,Tryz.ntmps43;go_wp2_with fail;refine zm HI.out ?_;rintro e w2 ⟨v,rfl,hv⟩;have HB:=zh hv;clear hv HI;go_wp2_with fail;go_ret;exact⟨_,rfl,HB.out⟩
end Go.Proofs.YtnkilceibkkjlaaGreat
