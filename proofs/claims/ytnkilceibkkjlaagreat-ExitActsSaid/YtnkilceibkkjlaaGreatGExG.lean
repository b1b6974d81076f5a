/- What is proved here: history of the program: where a checkpoint stands, how many there are, one of th -/
import Derived.Test.YtnkilceibkkjlaaGreatGExA
import Derived.Test.YtnkilceibkkjlaaGreatGRFacA
set_option maxRecDepth 100000
set_option maxHeartbeats 16000000
namespace Go.Proofs.YtnkilceibkkjlaaGreat
open Go.RowKit
theorem zk0{w:World}{v:Value}{l:List Int}(h:Own w 3 1 v l.length (l.map fun n=>Value.int .i64 n)):z0w w v l:=by
 obtain⟨_,a,c,he,hc⟩:=h.src;rcases h.2 with⟨rfl,h0⟩ | ⟨g,cap,cur,rfl,_⟩
 ·exact .inl ⟨rfl,List.eq_nil_of_length_eq_zero h0⟩
 ·cases he;refine .inr ⟨_,_,rfl,fun j x hj => ?_⟩;obtain⟨ad,h5,h6⟩:=hc j (.int .i64 x) (by simp[hj]);cases h5;exact h6
theorem zlg{w:World}{y:Value}{l:List Int}(h:z0w w y l):Src w 1 y l.length (l.map fun n=>Value.int .i64 n):=by
 refine⟨by simp,?_⟩;rcases h with⟨rfl,rfl⟩ | ⟨a,c,rfl,hc⟩
 ·exact⟨none,0,rfl,fun j u hj=>by simp at hj⟩
 ·refine⟨some a,c,rfl,fun j u hj => ?_⟩;rw[List.getElem?_map,Option.map_eq_some_iff]at hj;obtain⟨x,hx,rfl⟩:=hj;exact⟨a,rfl,hc j x hx⟩
def zaj(w:World)(l:List Int)(e:Ending)(w':World):Prop:=∃ v,e= .returned v/\Own w' 3 1 v l.length (l.map fun n=>Value.int .i64 n)/\(∀ g,v.ownBlock=some g->w.heap.size<=g)/\Below w.heap.size w w'
theorem zmx(w:World)(y:Value)(l:List Int)(h:z0w w y l)(hl:l.length<1000000000000):Calls Tryz.prog 210 #[y] w (zaj w l):=by
 have hS:=zlg h;rcases h with⟨rfl,rfl⟩ | ⟨ad,c,rfl,hc⟩
 ·have HE:Hid (zaj w [] (.returned (.slice none 0 0)) w):=⟨_,rfl,Own.nil _ _ _,fun g hg=>by simp[Value.ownBlock]at hg,Below.refl _ _⟩;have hsn:=fun (w:World)=>Lib.run_eql_slice_nil (P:=Tryz.prog) w 75 3 none 0 0 0 0 intT.und
  generalize zaj w []=R at *
  clear hS;go_enter Tryz.func210,Tryz.ntmps210;go_wp2;exact HE.out
 ·have hown:Own (w.alloc (.cells #[] 3)) 3 1 (.slice (some ⟨w.heap.size,0,none⟩) 0 0) 0 []:=
   ⟨rfl,.inr ⟨w.heap.size,0,#[],rfl,heap_alloc_new w _,Nat.le_refl _,Nat.zero_le _,Nat.zero_le _,rfl⟩⟩
  have hS2:=hS.below (w':=w.alloc (.cells #[] 3)) ((Below.refl _ w).alloc (Nat.le_refl _) _);have HE:Hid (∀ v' w',z0t (w.alloc (.cells #[] 3)) 3 1 (.slice (some ⟨w.heap.size,0,none⟩) 0 0) 0 l.length [] (l.map fun n=>Value.int .i64 n) v' w'->zaj w l (.returned v') w'):=fun v' w' hA=>by
   refine⟨v',rfl,by simpa using hA.own,fun g hg => ?_,((Below.refl _ w).alloc (Nat.le_refl _) _).grown hA.grown (by simp) (fun k hk=>by simp[Value.ownBlock]at hk;omega)⟩;rcases hA.block g hg with h | h
   ·simp[Value.ownBlock]at h;omega
   ·simp at h;omega
  have hmx:0+l.length<=maxLen:=by unfold maxLen;omega
  have hone:∀ u∈l.map (fun n=>Value.int .i64 n),u.oneCell'=true:=fun u hu=>by
   obtain⟨x,_,rfl⟩:=List.mem_map.1 hu;rfl
  generalize zaj w l=R at *
  generalize (l.map fun n=>Value.int .i64 n)=xs at *
  generalize l.length=n at *
  have hsn:=fun (w:World)=>Lib.run_eql_slice_nil (P:=Tryz.prog) w 75 3 (some ad) n c 0 0 intT.und
  clear hS hc;go_enter Tryz.func210,Tryz.ntmps210;go_wp2_with (at_builtin;refine z2g rfl _ _ 75 75 rfl intT intT _ 0 [] rfl hown _ n xs rfl hS2 hone hmx (by omega) ?_);intro v' w' hA;have hR:=HE.out v' w' hA;go_wp2;exact hR
structure IdOk (l:List Int):Prop where
 len:l.length<=100
 lt:∀ x∈l,I63 x
theorem zdy(t:Nat)(ht1:1<=t)(ht2:t<=255)(w:World)(y:Value)(l:List Int)(n:Int)(h:z0w w y l)(hl:IdOk l)(hn:I63 n):Calls Tryz.prog 228 #[.int .i64 t,y,.int .i64 n] w fun e w'=>e= .returned (.string (keyL t (l ++ [n])))/\Below w.heap.size w w':=by
 have HCL:=zh (zmx w y l h (by have:=hl.len;omega));have hll:=hl.len
 have HF:Hid (∀ w2 v,Own w2 3 1 v l.length (l.map fun n=>Value.int .i64 n)->(∀ g,v.ownBlock=some g->w.heap.size<=g)->Below w.heap.size w w2->∃ a c,v= .slice a l.length c/\Own (w2.alloc (.cells #[.int .i64 n] 3)) 3 1 (.slice a l.length c) l.length (l.map fun n=>Value.int .i64 n)/\∀ v' w',z0t (w2.alloc (.cells #[.int .i64 n] 3)) 3 1 (.slice a l.length c) l.length 1 (l.map fun n=>Value.int .i64 n) [.int .i64 n] v' w' ->
   Calls Tryz.prog 90 #[.int .i64 t,v'] w' fun e w3=>e= .returned (.string (keyL t (l ++ [n])))/\Below w.heap.size w w3):=fun w2 v ho hg hb=>by
  obtain⟨_,a,c,rfl,_⟩:=ho.src;refine⟨a,c,rfl,ho.frame fun k hk=>(z04 (Below.refl _ w2) _).block k (ho.lt k hk),fun v' w' hA => ?_⟩;have hI:z0w w' v' (l ++ [n]):=zk0 (by have:=hA.own;simpa using this);refine(z90 t ht1 ht2 v' (l ++ [n]) w' hI (by simp;omega) fun x hx => ?_).mono fun e w3 ⟨he,hb3⟩=>⟨he,?_⟩
  ·rcases List.mem_append.1 hx with h1 | h1
   ·exact hl.lt x h1
   ·rw[List.mem_singleton]at h1;subst h1;exact hn
  ·have hb':Below w.heap.size w w':=(z04 hb (.cells #[.int .i64 n] 3)).grown hA.grown (Nat.le_trans hb.size (by simp)) fun k hk=>hg k hk
   exact z0a hb' hb3
 unfold zaj at HCL;clear h hl hn;generalize (l.map fun n=>Value.int .i64 n)=xs at *
 generalize keyL t (l ++ [n])=kk at *
 go_enter Tryz.func228,Tryz.ntmps228;go_wp2_with fail;refine zm HCL.out ?_;rintro e w2 ⟨v,rfl,ho,hg,hb⟩;obtain⟨a,c,rfl,hO,hA⟩:=HF.out w2 v ho hg hb;have HOO:=zh hO;have HAP:=zh hA;clear ho hg hb HF HCL hO hA;generalize l.length=m at *
 go_wp2_with (at_builtin;refine z07 rfl _ _ 75 75 rfl intT intT _ m xs rfl HOO.out _ 1 _ [.int .i64 n] rfl rfl (z1d _ _ _) (by intro u hu;rw[List.mem_singleton.1 hu];rfl) (by unfold maxLen;omega) (by omega) ?_);intro v' w' hA';have HK:=zh (HAP.out _ _ hA');clear hA' HAP HOO;go_wp2_with fail;refine zm HK.out ?_;rintro e w3 ⟨rfl,hb3⟩;go_wp2_with fail;go_ret;exact⟨rfl,hb3⟩
def St.hlen(s:St)(t:Nat)(l:List Int):Nat:=s.int (keyL t l)
theorem zd8(w:World)(h:Hand)(s:St)(f:Nat)(t:Nat)(ht1:1<=t)(ht2:t<=255)(y:Value)(l:List Int)(hi:z0w w y l)(hl:IdOk l)(hq:QSt w h s)(hf:s.Fit f)(hm:f<100000000000) :
  Calls Tryz.prog 180 #[.pointer h.ptr,.int .i64 t,y] w fun e w'=>e= .returned (.int .i64 (s.hlen t l))/\Below w.heap.size w w':=by
 have HK:=zh (z90 t ht1 ht2 y l w hi (by have:=hl.len;omega) hl.lt);have hr:=hq.read hf hm;have HI:Hid (∀ W,Below w.heap.size w W->Calls Tryz.prog 99 #[.pointer h.ptr,.string (keyL t l)] W fun e w'=>e= .returned (.int .i64 (s.hlen t l))/\Below w.heap.size w w'):=fun W hb=>((hr.below hb).int (keyL t l)).mono fun e w' ⟨he,h1⟩=>⟨he,z0a hb h1⟩
 clear hi hl hq hf hr;generalize s.hlen t l=n at *
 generalize keyL t l=kk at *
 go_enter Tryz.func180,Tryz.ntmps180;go_wp2_with fail;refine zm HK.out ?_;rintro e w2 ⟨rfl,hb⟩;have HI2:=zh (HI.out w2 hb);clear hb HI HK;go_wp2_with fail;refine zm HI2.out ?_;rintro e w3 ⟨rfl,hb⟩;have HB:=zh hb;clear hb HI2;go_wp2_with fail;go_ret;exact⟨rfl,HB.out⟩
def hpt(v:ByteArray):Nat × W4:=if v.size<8 then(0,(0,0,0,0))else match numsL (v.extract 0 8).data.toList with
 | some [n]=>if (v.extract 8 v.size).size=32 then(n,z3a (v.extract 8 v.size))else(0,(0,0,0,0))
 | _=>(0,(0,0,0,0))
theorem zh7{l:List UInt8}(h:l.length=8):numsL l=if be l<9223372036854775808 then some [be l]else none:=by
 rw[z2o l (by omega),List.take_of_length_le (by omega),List.drop_of_length_le (by omega)];split
 ·rfl
 ·rfl
abbrev pL(n:Int)(a:W4):Array Value:=#[.int .i64 n,.int .u64 a.1,.int .u64 a.2.1,.int .u64 a.2.2.1,.int .u64 a.2.2.2]
abbrev pO(n:Int)(a:W4):Obj:=.cells (pL n a) 233
theorem row5{w:World}{g:Nat}{n:Int}{a:W4}(h:w.heap[g]?=some (pO n a)):(w.cell? ⟨g,0,none⟩=some (.int .i64 n)/\w.cell? ⟨g,1,none⟩=some (.int .u64 a.1)/\w.cell? ⟨g,2,none⟩=some (.int .u64 a.2.1)/\w.cell? ⟨g,3,none⟩=some (.int .u64 a.2.2.1)/\w.cell? ⟨g,4,none⟩=some (.int .u64 a.2.2.2))/\w.frozen? ⟨g,0,none⟩=false/\w.frozen? ⟨g,1,none⟩=false/\w.frozen? ⟨g,2,none⟩=false/\w.frozen? ⟨g,3,none⟩=false/\w.frozen? ⟨g,4,none⟩=false:=
 ⟨⟨by rw[cell_of_row _ _ _ _ _ _ h];rfl,by rw[cell_of_row _ _ _ _ _ _ h];rfl,by rw[cell_of_row _ _ _ _ _ _ h];rfl,by rw[cell_of_row _ _ _ _ _ _ h];rfl,by rw[cell_of_row _ _ _ _ _ _ h];rfl⟩,frozen_of_row _ _ _ _ _ h,frozen_of_row _ _ _ _ _ h,frozen_of_row _ _ _ _ _ h,frozen_of_row _ _ _ _ _ h,frozen_of_row _ _ _ _ _ h⟩
theorem put5{w:World}{g:Nat}{n:Int}{a:W4}(h:w.heap[g]?=some (pO n a))(m:Int)(y:W4):(((((w.setCell ⟨g,0,none⟩ (.int .i64 m)).setCell ⟨g,1,none⟩ (.int .u64 y.1)).setCell ⟨g,2,none⟩ (.int .u64 y.2.1)).setCell ⟨g,3,none⟩ (.int .u64 y.2.2.1)).setCell ⟨g,4,none⟩ (.int .u64 y.2.2.2)).heap[g]?=some (pO m y):=
 z0b _ (z0b _ (z0b _ (z0b _ (z0b _ h))))
theorem z8i{k g:Nat}{w0 w:World}(h:Below k w0 w)(hg:k<=g)(a b c d e:Value):Below k w0 (((((w.setCell ⟨g,0,none⟩ a).setCell ⟨g,1,none⟩ b).setCell ⟨g,2,none⟩ c).setCell ⟨g,3,none⟩ d).setCell ⟨g,4,none⟩ e):=
 ((((h.setCell (p:=⟨g,0,none⟩) hg _).setCell (p:=⟨g,1,none⟩) hg _).setCell (p:=⟨g,2,none⟩) hg _).setCell (p:=⟨g,3,none⟩) hg _).setCell (p:=⟨g,4,none⟩) hg _
theorem z4b.get{n:Nat}{w:World}{q:Option Addr}{s:St}(h:z4b n w q s)(k:ByteArray):∃ ok,zb7 w q k (s.val k) ok:=by
 rcases h with⟨b,L,rfl,h,_,hv,_⟩ | ⟨h,_,rfl⟩
 ·exact⟨_,h.get k⟩
 ·exact⟨false,h.get k⟩
theorem z4b.vsz{n:Nat}{w:World}{q:Option Addr}{s:St}(h:z4b n w q s)(k:ByteArray):(s.val k).size<1000000000000:=by
 rcases h with⟨b,L,rfl,h,_,hv,_⟩ | ⟨h,_,rfl⟩
 ·exact hv k
 ·show z0d.size<_;decide
theorem zax(w:World)(h:Hand)(s:St)(f:Nat)(t:Nat)(ht1:1<=t)(ht2:t<=255)(y:Value)(l:List Int)(n:Int)(hi:z0w w y l)(hl:IdOk l)(hn:I63 n)(hq:QSt w h s)(hf:s.Fit f)(hm:f<100000000000) :
  Calls Tryz.prog 181 #[.pointer h.ptr,.int .i64 t,y,.int .i64 n] w fun e w'=>e= .returned (.agg (pL (hpt (s.val (keyL t (l ++ [n])))).1 (hpt (s.val (keyL t (l ++ [n])))).2))/\Below w.heap.size w w':=by
 have hB:=(BV.start w).alloc (pO 0 (0,0,0,0));have HAT:=zh (zdy t ht1 ht2 (w.alloc (pO 0 (0,0,0,0))) y l n (hi.below (z04 (Below.refl _ w) _)) hl hn);have hr:=hq.read hf hm;have hvs:=hr.vsz (keyL t (l ++ [n]));have HGT:Hid (∀ rs W,BV w rs W->∃ ok,Calls Tryz.prog 140 #[.pointer h.ptr,.string (keyL t (l ++ [n]))] W fun e w'=>e= .returned (.tuple #[.string (s.val (keyL t (l ++ [n]))),.bool ok])/\BV w rs w'):=fun rs W hW=>by
  obtain⟨ok,hg⟩:=(hr.below (BV.bl hW)).get (keyL t (l ++ [n]));exact⟨ok,zm hg fun e w' ⟨he,hw⟩=>⟨he,by subst hw;exact hW⟩⟩
 generalize s.val (keyL t (l ++ [n]))=v at *
 generalize keyL t (l ++ [n])=kk at *
 have HATB:Hid (Calls Tryz.prog 228 #[.int .i64 t,y,.int .i64 n] (w.alloc (pO 0 (0,0,0,0))) fun e w'=>e= .returned (.string kk)/\BV w [(w.heap.size,pO 0 (0,0,0,0))] w'):=HAT.out.mono fun e w' ⟨he,hb⟩=>⟨he,QV.below hB hb⟩
 clear hB HAT hr hi hl hn hq hf
 by_cases h8:v.size<8
 ·have hp:hpt v=(0,(0,0,0,0)):=by unfold hpt;rw[if_pos h8]
  rw[hp];have hd:decide ((v.size:Int)<8)=true:=decide_eq_true (by omega);clear hp;go_enter Tryz.func181,Tryz.ntmps181;go_wp2_with fail;refine zm HATB.out ?_;rintro e w2 ⟨rfl,hB2⟩;obtain⟨ok,hg⟩:=HGT.out _ _ hB2;have HG:=zh hg;clear hB2 HATB HGT hg;go_wp2_with fail;refine zm HG.out ?_;rintro e w3 ⟨rfl,hB3⟩;have hz:=hB3.row (g:=w.heap.size) (o:=pO 0 (0,0,0,0)) (by simp);obtain⟨⟨z0,z1,z2,z3,z4⟩,f0,f1,f2,f3,f4⟩:=row5 hz;have HZ:=zh (put5 hz 0 (0,0,0,0));have HB:=zh (z8i (BV.bl hB3) (Nat.le_refl _) (.int .i64 0) (.int .u64 0) (.int .u64 0) (.int .u64 0) (.int .u64 0));clear hz hB3 HG;go_wp2_with fail;refine bodyPost_ret (results_cell_row rfl _ _ w.heap.size 233 (pL 0 (0,0,0,0)) (0,0) _ rfl HZ.out Tryz.underlying233 rfl (by kernel_rfl)) rfl ?_;exact⟨rfl,HB.out⟩
 ·have h8':8<=v.size:=Nat.not_lt.1 h8;have hd:decide ((v.size:Int)<8)=false:=decide_eq_false (by omega);have hs8:(8:Int)<=(v.size:Int):=by omega
  have hl8:(v.extract 0 8).data.toList.length=8:=by
   show(v.extract 0 8).data.size=8
   have:(v.extract 0 8).size=8:=by rw[ByteArray.size_extract];omega
   exact this
  have HTA:Hid (∀ rs W,BV w rs W->Calls Tryz.prog 141 #[.string (v.extract 8 v.size)] W fun e w'=>e= .returned (.tuple #[uV (z3a (v.extract 8 v.size)),.bool ((v.extract 8 v.size).size==32)])/\BV w rs w'):=fun rs W hW=>hW.reads (zb5 _ W)
  have hnu:∀ rs W,BV w rs W->Calls Tryz.prog 147 #[.string (v.extract 0 8)] W (z1o W (numsL (v.extract 0 8).data.toList)):=fun rs W _=>zf5 (v.extract 0 8) (by rw[ByteArray.size_extract];omega) W
  rw[zh7 hl8]at hnu
  by_cases hbe:be (v.extract 0 8).data.toList<9223372036854775808
  ·rw[if_pos hbe]at hnu;have HNU:Hid (∀ rs W,BV w rs W->Calls Tryz.prog 147 #[.string (v.extract 0 8)] W fun e w'=>∃ g c cur,e= .returned (.tuple #[.slice (some ⟨g,0,none⟩) 1 c,.bool true])/\BV w ((g,.cells cur 3)::rs) w'/\cur[0]?=some (.int .i64 (be (v.extract 0 8).data.toList))):=fun rs W hW=>(hnu rs W hW).mono fun e w' ⟨hb,sl,he,ho,hg⟩=>by
    rcases ho.2 with⟨_,h0⟩ | ⟨g,cap,cur,rfl,hg2,_,_,_,ht⟩
    ·cases h0
    ·refine⟨g,cap,cur,he,QV.add1 hW hb (hg g rfl) hg2,?_⟩;have:=congrArg (fun x=>x[0]?) ht
     simpa [List.getElem?_take]using this
   have hp:hpt v=if (v.extract 8 v.size).size=32 then(be (v.extract 0 8).data.toList,z3a (v.extract 8 v.size))else(0,(0,0,0,0)):=by
    unfold hpt;rw[if_neg h8,zh7 hl8,if_pos hbe]
   clear hnu hl8 h8 hvs;cases h32:((v.extract 8 v.size).size==32)with
   | true =>
    rw[if_pos (by simpa using h32)]at hp;rw[hp];rw[h32]at HTA;clear hp h32;generalize be (v.extract 0 8).data.toList=bn at *
    generalize z3a (v.extract 8 v.size)=am at *
    go_enter Tryz.func181,Tryz.ntmps181;go_wp2_with fail;refine zm HATB.out ?_;rintro e w2 ⟨rfl,hB2⟩;obtain⟨ok,hg⟩:=HGT.out _ _ hB2;have HG:=zh hg;clear hB2 HATB HGT hg;go_wp2_with fail;refine zm HG.out ?_;rintro e w3 ⟨rfl,hB3⟩;have HN3:=zh (HNU.out _ _ hB3);clear hB3 HNU HG;go_wp2_with fail;refine zm HN3.out ?_;rintro e w4 ⟨g,c,cur,rfl,hB4,hcur⟩;have HT4:=zh (HTA.out _ _ hB4);clear hB4 HTA HN3;go_wp2_with fail;refine zm HT4.out ?_;rintro e w5 ⟨rfl,hB5⟩;have hB6:=hB5.alloc (uO am);clear hB5 HT4;go_upto_region 6 with fail;generalize w5.alloc (uO am)=w6 at *
    generalize w5.heap.size=g1 at *
    have hg0:w6.cell? ⟨g,0,none⟩=some (.int .i64 bn):=by rw[cell_of_row _ _ _ _ _ _ (hB6.row (g:=g) (o:=.cells cur 3) (by simp))];exact hcur
    obtain⟨a0,a1,a2,a3,_⟩:=row4 (hB6.u4 (g:=g1) (x:=am) (by simp));have hz:=hB6.row (g:=w.heap.size) (o:=pO 0 (0,0,0,0)) (by simp);obtain⟨⟨z0,z1,z2,z3,z4⟩,f0,f1,f2,f3,f4⟩:=row5 hz;have HZ:=zh (put5 hz bn am);have HB:=zh (z8i (BV.bl hB6) (Nat.le_refl _) (.int .i64 bn) (.int .u64 am.1) (.int .u64 am.2.1) (.int .u64 am.2.2.1) (.int .u64 am.2.2.2));clear hz hB6 hcur;go_upto_region 8 with fail
    go_region_with fail
    all_goals
     go_wp2_with fail;refine bodyPost_ret (results_cell_row rfl _ _ w.heap.size 233 (pL bn am) (0,0) _ rfl ?_ Tryz.underlying233 rfl (by kernel_rfl)) rfl ?_
     ·exact HZ.out
     ·exact⟨rfl,z0g HB.out⟩
   | false =>
    rw[if_neg (by simpa using h32)]at hp;rw[hp];rw[h32]at HTA;clear hp h32;generalize be (v.extract 0 8).data.toList=bn at *
    generalize z3a (v.extract 8 v.size)=am at *
    go_enter Tryz.func181,Tryz.ntmps181;go_wp2_with fail;refine zm HATB.out ?_;rintro e w2 ⟨rfl,hB2⟩;obtain⟨ok,hg⟩:=HGT.out _ _ hB2;have HG:=zh hg;clear hB2 HATB HGT hg;go_wp2_with fail;refine zm HG.out ?_;rintro e w3 ⟨rfl,hB3⟩;have HN3:=zh (HNU.out _ _ hB3);clear hB3 HNU HG;go_wp2_with fail;refine zm HN3.out ?_;rintro e w4 ⟨g,c,cur,rfl,hB4,hcur⟩;have HT4:=zh (HTA.out _ _ hB4);clear hB4 HTA HN3 hcur;go_wp2_with fail;refine zm HT4.out ?_;rintro e w5 ⟨rfl,hB5⟩;have hB6:=hB5.alloc (uO am);clear hB5 HT4;go_upto_region 6 with fail;generalize w5.alloc (uO am)=w6 at *
    generalize w5.heap.size=g1 at *
    have hz:=hB6.row (g:=w.heap.size) (o:=pO 0 (0,0,0,0)) (by simp);obtain⟨⟨z0,z1,z2,z3,z4⟩,f0,f1,f2,f3,f4⟩:=row5 hz;have HZ:=zh (put5 hz 0 (0,0,0,0));have HB:=zh (z8i (BV.bl hB6) (Nat.le_refl _) (.int .i64 0) (.int .u64 0) (.int .u64 0) (.int .u64 0) (.int .u64 0));clear hz hB6;go_wp2_with fail;refine bodyPost_ret (results_cell_row rfl _ _ w.heap.size 233 (pL 0 (0,0,0,0)) (0,0) _ rfl HZ.out Tryz.underlying233 rfl (by kernel_rfl)) rfl ?_;exact⟨rfl,HB.out⟩
  ·rw[if_neg hbe]at hnu;have HNU:Hid (∀ rs W,BV w rs W->Calls Tryz.prog 147 #[.string (v.extract 0 8)] W fun e w'=>e= .returned (.tuple #[.slice none 0 0,.bool false])/\BV w rs w'):=fun rs W hW=>(hnu rs W hW).mono fun e w' ⟨hb,he⟩=>⟨he,QV.below hW hb⟩
   have hp:hpt v=(0,(0,0,0,0)):=by
    unfold hpt;rw[if_neg h8,zh7 hl8,if_neg hbe]
   rw[hp];clear hnu hl8 h8 hvs hp hbe;generalize ((v.extract 8 v.size).size==32)=b32 at *
   generalize z3a (v.extract 8 v.size)=am at *
   go_enter Tryz.func181,Tryz.ntmps181;go_wp2_with fail;refine zm HATB.out ?_;rintro e w2 ⟨rfl,hB2⟩;obtain⟨ok,hg⟩:=HGT.out _ _ hB2;have HG:=zh hg;clear hB2 HATB HGT hg;go_wp2_with fail;refine zm HG.out ?_;rintro e w3 ⟨rfl,hB3⟩;have HN3:=zh (HNU.out _ _ hB3);clear hB3 HNU HG;go_wp2_with fail;refine zm HN3.out ?_;rintro e w4 ⟨rfl,hB4⟩;have HT4:=zh (HTA.out _ _ hB4);clear hB4 HTA HN3;go_wp2_with fail;refine zm HT4.out ?_;rintro e w5 ⟨rfl,hB5⟩;have hB6:=hB5.alloc (uO am);clear hB5 HT4;go_upto_region 6 with fail;generalize w5.alloc (uO am)=w6 at *
   generalize w5.heap.size=g1 at *
   have hz:=hB6.row (g:=w.heap.size) (o:=pO 0 (0,0,0,0)) (by simp);obtain⟨⟨z0,z1,z2,z3,z4⟩,f0,f1,f2,f3,f4⟩:=row5 hz;have HZ:=zh (put5 hz 0 (0,0,0,0));have HB:=zh (z8i (BV.bl hB6) (Nat.le_refl _) (.int .i64 0) (.int .u64 0) (.int .u64 0) (.int .u64 0) (.int .u64 0));clear hz hB6;go_wp2_with fail;refine bodyPost_ret (results_cell_row rfl _ _ w.heap.size 233 (pL 0 (0,0,0,0)) (0,0) _ rfl HZ.out Tryz.underlying233 rfl (by kernel_rfl)) rfl ?_;exact⟨rfl,HB.out⟩
theorem zn7(v:ByteArray):(hpt v).2.Ok:=by
 unfold hpt;split
 ·exact z6u
 ·split
  ·split
   ·exact zkw _
   ·exact z6u
  ·exact z6u
def St.hlast(s:St)(t:Nat)(l:List Int):W4:=if s.hlen t l=0 then(0,0,0,0)else(hpt (s.val (keyL t (l ++ [((s.hlen t l:Nat):Int)-1])))).2
theorem zja{r:List UInt8}{n:Nat}(h:numsL r=some [n]):n<9223372036854775808:=by
 have hl:=za8 r.length r [n] (Nat.le_refl _) h;simp at hl;rw[zh7 hl]at h;split at h
 ·next hb =>
  simp at h;subst h;exact hb
 ·cases h
theorem z7y(s:St)(k:ByteArray):s.int k<9223372036854775808:=by
 unfold St.int z9h rowOf;cases h:numsL (s.val k).data.toList with
 | none=>simp
 | some ns =>
  match ns,h with
  | [],_=>simp
  | [n],h=>exact zja h
  | _::_::_,_=>simp
theorem q04(n:Int)(a:W4)(w:World):(Instr.field 233 (.agg (pL n a)) 1).run Tryz.prog w= .ok (uV a) w:=by
 show(Instr.field 233 (.agg #[.int .i64 n,.int .u64 a.1,.int .u64 a.2.1,.int .u64 a.2.2.1,.int .u64 a.2.2.2]) 1).run Tryz.prog w= .ok (.agg #[.int .u64 a.1,.int .u64 a.2.1,.int .u64 a.2.2.1,.int .u64 a.2.2.2]) w
 kernel_rfl
theorem q1b(n:Int)(a:W4)(w:World):(Instr.field 233 (.agg (pL n a)) 0).run Tryz.prog w= .ok (.int .i64 n) w:=by
 show(Instr.field 233 (.agg #[.int .i64 n,.int .u64 a.1,.int .u64 a.2.1,.int .u64 a.2.2.1,.int .u64 a.2.2.2]) 0).run Tryz.prog w= .ok (.int .i64 n) w
 kernel_rfl
theorem z81(w:World)(h:Hand)(s:St)(f:Nat)(t:Nat)(ht1:1<=t)(ht2:t<=255)(y:Value)(l:List Int)(hi:z0w w y l)(hl:IdOk l)(hq:QSt w h s)(hf:s.Fit f)(hm:f<100000000000) :
  Calls Tryz.prog 117 #[.pointer h.ptr,.int .i64 t,y] w fun e w'=>e= .returned (.tuple #[uV (s.hlast t l),.bool (decide (s.hlen t l≠0))])/\Below w.heap.size w w':=by
 have hB:=(HV.start hq).alloc zO;have hI:∀ W,Below w.heap.size w W->z0w W y l:=fun W hW=>hi.below hW
 have HLN:Hid (∀ rs W,HV h w s rs W->Below w.heap.size w W->Calls Tryz.prog 180 #[.pointer h.ptr,.int .i64 t,y] W fun e w'=>e= .returned (.int .i64 (s.hlen t l))/\HV h w s rs w'/\Below w.heap.size w w'):=fun rs W hW hb=>by
  obtain⟨L',h1,_⟩:=hW.on;exact(zd8 W ⟨h.ptr,h.on,L'⟩ s f t ht1 ht2 y l (hI W hb) hl h1 hf hm).mono fun e w' ⟨he,h2⟩=>⟨he,QV.below hW h2,z0a hb h2⟩
 have hnl:=z7y s (keyL t l);have HRD:Hid (∀ rs W,HV h w s rs W->Below w.heap.size w W->Calls Tryz.prog 181 #[.pointer h.ptr,.int .i64 t,y,.int .i64 (((s.hlen t l:Nat):Int)-1)] W fun e w'=>e= .returned (.agg (pL (hpt (s.val (keyL t (l ++ [((s.hlen t l:Nat):Int)-1])))).1 (hpt (s.val (keyL t (l ++ [((s.hlen t l:Nat):Int)-1])))).2))/\HV h w s rs w'/\Below w.heap.size w w'):=fun rs W hW hb=>by
  obtain⟨L',h1,_⟩:=hW.on;exact(zax W ⟨h.ptr,h.on,L'⟩ s f t ht1 ht2 y l (((s.hlen t l:Nat):Int)-1) (hI W hb) hl (by show((s.int (keyL t l):Nat):Int)-1<9223372036854775808;omega) h1 hf hm).mono fun e w' ⟨he,h2⟩=>⟨he,QV.below hW h2,z0a hb h2⟩
 have hlast:(s.hlen t l=0->s.hlast t l=(0,0,0,0))/\(s.hlen t l≠0->s.hlast t l=(hpt (s.val (keyL t (l ++ [((s.hlen t l:Nat):Int)-1])))).2):=by
  unfold St.hlast;exact⟨fun h=>if_pos h,fun h=>if_neg h⟩
 have HLA:=zh hlast;have HB:=zh (And.intro hB (z04 (Below.refl _ w) zO));have hnl':s.hlen t l<9223372036854775808:=hnl;clear hi hl hq hf hI hB hlast hnl;generalize s.hlast t l=hw at *
 generalize hpt (s.val (keyL t (l ++ [((s.hlen t l:Nat):Int)-1])))=pt at *
 generalize s.hlen t l=n at *
 by_cases h0:n=0
 ·have h1:=HLA.out.1 h0;subst h1 h0;clear HRD HLA;go_enter Tryz.func117,Tryz.ntmps117;go_wp2_with fail;refine zm (HLN.out _ _ HB.out.1 HB.out.2) ?_;rintro e w2 ⟨rfl,hB2,hb2⟩;have hz:=QV.u4 hB2 (g:=w.heap.size) (x:=(0,0,0,0)) (by simp);obtain⟨z0,z1,z2,z3,z4,z5,z6,z7⟩:=row4 hz;have HZ:=zh (put4 hz (0,0,0,0));have HBB:=zh (z09 hb2 (Nat.le_refl _) (.int .u64 0) (.int .u64 0) (.int .u64 0) (.int .u64 0));clear hz hB2 hb2 HLN HB;go_wp2_with fail;refine bodyPost_ret (z00 rfl _ _ w.heap.size 24 (uL (0,0,0,0)) (0,0) _ rfl HZ.out Tryz.underlying24 rfl (by kernel_rfl)) rfl ?_;exact⟨rfl,HBB.out⟩
 ·have h1:=HLA.out.2 h0;have hd:decide (n≠0)=true:=decide_eq_true h0;rw[hd];have hne:((n:Int)==0)=false:=by rw[beq_eq_false_iff_ne];omega
  have hF:=fun w=>q04 pt.1 pt.2 w
  rw[<- h1]at hF HRD;obtain⟨n1,hn1⟩:∃ n1:Int,n1=(n:Int)-1:=⟨_,rfl⟩;have hwr:IntKind.i64.wrap ((n:Int)-1)=n1:=by rw[hn1,IntKind.wrap_i64];omega
  have hwr2:wrap64 ((n:Int)-1)=n1:=by rw[hn1];unfold wrap64;omega
  rw[<- hn1]at HRD;clear HLA h1 hd hn1 h0 hnl';generalize ((pt.1:Nat):Int)=p1 at *
  go_enter Tryz.func117,Tryz.ntmps117;go_wp2_with fail;refine zm (HLN.out _ _ HB.out.1 HB.out.2) ?_;rintro e w2 ⟨rfl,hB2,hb2⟩;have HR2:=zh (HRD.out _ _ hB2 hb2);clear hB2 hb2 HLN HB HRD;go_wp2_with fail;refine zm HR2.out ?_;rintro e w3 ⟨rfl,hB3,hb3⟩;have hz:=QV.u4 hB3 (g:=w.heap.size) (x:=(0,0,0,0)) (by simp);obtain⟨z0,z1,z2,z3,z4,z5,z6,z7⟩:=row4 hz;have HZ:=zh (put4 hz hw);have HBB:=zh (z09 hb3 (Nat.le_refl _) (.int .u64 hw.1) (.int .u64 hw.2.1) (.int .u64 hw.2.2.1) (.int .u64 hw.2.2.2));clear hz hB3 hb3 HR2;go_wp2_with fail;refine bodyPost_ret (z00 rfl _ _ w.heap.size 24 (uL hw) (0,0) _ rfl HZ.out Tryz.underlying24 rfl (by kernel_rfl)) rfl ?_;exact⟨rfl,HBB.out⟩
def St.left(s:St)(t:Int):W4:=s.amt (keyL 19 [t])
theorem z7x(t:Nat)(ht1:1<=t)(ht2:t<=255)(a:Int)(ha:I63 a)(W:World):Calls Tryz.prog 90 #[.int .i64 t,.slice (some ⟨W.heap.size,0,none⟩) 1 1] (W.alloc (.cells #[.int .i64 a] 3)) fun e w'=>e= .returned (.string (keyL t [a]))/\Below W.heap.size W w':=
 (z90 t ht1 ht2 _ [a] _ (z6v W a) (show([a]:List Int).length<1000000000 from (by decide:1<1000000000)) (by intro x hx;rw[List.mem_singleton]at hx;subst hx;exact ha)).mono fun e w' ⟨he,hb⟩=>⟨he,z0a (z04 (Below.refl _ W) _) hb⟩
theorem zih(w:World)(h:Hand)(s:St)(f:Nat)(t:Int)(ht:I63 t)(hq:QSt w h s)(hf:s.Fit f)(hm:f<100000000000) :
  Calls Tryz.prog 45 #[.pointer h.ptr,.int .i64 t] w fun e w'=>e= .returned (uV (s.left t))/\Below w.heap.size w w':=by
 have hB:=(HV.start hq).alloc zO;have hb0:=z04 (Below.refl _ w) zO;have hk:=z7x 19 (by decide) (by decide) t ht (w.alloc zO);rw[World.size_alloc]at hk;have HK:Hid (Calls Tryz.prog 90 #[.int .i64 19,.slice (some ⟨w.heap.size+1,0,none⟩) 1 1] ((w.alloc zO).alloc (.cells #[.int .i64 t] 3)) fun e w'=>e= .returned (.string (keyL 19 [t]))/\Below (w.alloc zO).heap.size (w.alloc zO) w'):=hk.mono fun e w' ⟨he,hb⟩=>⟨he,by rwa [World.size_alloc]⟩
 have HA:Hid (∀ rs W,HV h w s rs W->Below w.heap.size w W->Calls Tryz.prog 64 #[.pointer h.ptr,.string (keyL 19 [t])] W fun e w'=>e= .returned (uV (s.left t))/\HV h w s rs w'/\Below w.heap.size w w'):=fun rs W hW hb=>(HV.camt hW hf hm _).mono fun e w' ⟨he,h2⟩=>⟨he,QV.below hW h2,z0a hb h2⟩
 have HB:=zh (And.intro hB hb0);clear hB hb0 hq hf hk;generalize s.left t=u at *
 generalize keyL 19 [t]=kk at *
 go_enter Tryz.func45,Tryz.ntmps45;go_wp2_with fail;refine zm HK.out ?_;rintro e w2 ⟨rfl,hb⟩;have HA2:=zh (HA.out _ _ (QV.below HB.out.1 hb) (z0a HB.out.2 hb));clear hb HB HK HA;go_wp2_with fail;refine zm HA2.out ?_;rintro e w3 ⟨rfl,hB3,hb3⟩;have hz:=QV.u4 hB3 (g:=w.heap.size) (x:=(0,0,0,0)) (by simp);obtain⟨z0,z1,z2,z3,z4,z5,z6,z7⟩:=row4 hz;have HZ:=zh (put4 hz u);have HBB:=zh (z09 hb3 (Nat.le_refl _) (.int .u64 u.1) (.int .u64 u.2.1) (.int .u64 u.2.2.1) (.int .u64 u.2.2.2));clear hz hB3 hb3 HA2;go_wp2_with fail;refine bodyPost_ret (results_cell_row rfl _ _ w.heap.size 24 (uL u) (0,0) _ rfl HZ.out Tryz.underlying24 rfl (by kernel_rfl)) rfl ?_;exact⟨rfl,HBB.out⟩
def sdC(a m:W4):Bool:=decide (uN a<M128)&&decide (uCmp m oneW<=0)
def sdW(a m:W4):W4:=if sdC a m then(if m=(0,0,0,0)then(0,0,0,0)else dnW a sqW m)else(0,0,0,0)
def sdB(a m:W4):Bool:=sdC a m&&(if m=(0,0,0,0)then true else dnB a sqW m)
theorem zv6(a m:W4):(sdW a m).Ok:=by
 unfold sdW;split
 ·split
  ·exact z6u
  ·unfold dnW;split
   ·exact z6u
   ·exact zhy _
 ·exact z6u
theorem zjb(a m:W4)(ha:a.Ok)(hm:m.Ok)(w:World):Calls Tryz.prog 171 #[uV a,uV m] w fun e w'=>e= .returned (.tuple #[uV (sdW a m),.bool (sdB a m)])/\Below w.heap.size w w':=by
 have HV:=zh (VAt.vr (l:=[a,m]) (VAt.start w [a,m,(0,0,0,0)])).vp;have HA:Hid (∀ W,VP w [a,m] 2 [] W->Calls Tryz.prog 11 #[uV a] W fun e w'=>e= .returned (.bool (decide (uN a<M128)))/\VP w [a,m] 2 [] w'):=fun W hW=>(z94 a ha W).mono fun e w' ⟨he,hb⟩=>⟨he,hW.below hb⟩
 have HG:Hid (∀ W,VP w [a,m] 2 [] W->Calls Tryz.prog 69 #[uV m] W fun e w'=>e= .returned (.bool (decide (uCmp m oneW<=0)))/\VP w [a,m] 2 [] w'):=fun W hW=>(zcc m hm W).mono fun e w' ⟨he,hb⟩=>⟨he,hW.below hb⟩
 have HD:Hid (∀ W,Calls Tryz.prog 111 #[uV a,uV sqW,uV m] W fun e w'=>e= .returned (.tuple #[uV (dnW a sqW m),.bool (dnB a sqW m)])/\Below W.heap.size W w'):=zib a sqW m ha zs4 hm;have hlaw:((decide (uN a<M128))=false->sdW a m=(0,0,0,0)/\sdB a m=false)/\((decide (uN a<M128))=true->(decide (uCmp m oneW<=0))=false->sdW a m=(0,0,0,0)/\sdB a m=false) /\
   ((decide (uN a<M128))=true->(decide (uCmp m oneW<=0))=true->(m=(0,0,0,0)->sdW a m=(0,0,0,0)/\sdB a m=true)/\(m≠(0,0,0,0)->sdW a m=dnW a sqW m/\sdB a m=dnB a sqW m)):=by
  unfold sdW sdB sdC
  refine⟨fun h=>by rw[h];exact⟨rfl,rfl⟩,fun h h2=>by rw[h,h2];exact⟨rfl,rfl⟩,fun h h2=>by
   rw[h,h2]
   exact⟨fun h3=>by simp[h3],fun h3=>by simp[h3]⟩⟩
 have HL:=zh hlaw;clear hlaw;generalize sdW a m=u at *
 generalize sdB a m=v at *
 generalize hdw:dnW a sqW m=dw at *
 generalize hdb:dnB a sqW m=db at *
 generalize decide (uN a<M128)=b1 at *
 generalize decide (uCmp m oneW<=0)=b2 at *
 clear hdw hdb;obtain⟨c0,c1,c2,c3,_⟩:=row4 HV.out.r0;obtain⟨d0,d1,d2,d3,_⟩:=row4 (HV.out.r 1 m rfl);go_enter Tryz.func171,Tryz.ntmps171;go_wp2_with fail;refine zm (HA.out _ HV.out) ?_;rintro e w3 ⟨rfl,hV3⟩;clear c0 c1 c2 c3 d0 d1 d2 d3 HA HV;obtain⟨d0,d1,d2,d3,_⟩:=row4 (hV3.r 1 m rfl);cases b1 with
 | false =>
  obtain⟨h1,h2⟩:=HL.out.1 (by trivial);subst h1 h2;obtain⟨z,z0,z1,z2,z3,z4,z5,z6,z7⟩:=hV3.vr.zc;have HR:=zh (hV3.vr.res (0,0,0,0));clear hV3 HL HG HD;go_wp2_with fail;refine bodyPost_ret (z00 rfl _ _ (w.heap.size+2) 24 (uL (0,0,0,0)) (0,0) _ rfl HR.out.2 Tryz.underlying24 rfl (by kernel_rfl)) rfl ?_;exact⟨rfl,HR.out.1⟩
 | true =>
  have HV3:=zh hV3;clear hV3;go_wp2_with fail;refine zm (HG.out _ HV3.out) ?_;rintro e w4 ⟨rfl,hV4⟩;clear d0 d1 d2 d3 HG HV3;cases b2 with
  | false =>
   obtain⟨h1,h2⟩:=HL.out.2.1 (by trivial) (by trivial);subst h1 h2;obtain⟨z,z0,z1,z2,z3,z4,z5,z6,z7⟩:=hV4.vr.zc;have HR:=zh (hV4.vr.res (0,0,0,0));clear hV4 HL HD;go_wp2_with fail;refine bodyPost_ret (z00 rfl _ _ (w.heap.size+2) 24 (uL (0,0,0,0)) (0,0) _ rfl HR.out.2 Tryz.underlying24 rfl (by kernel_rfl)) rfl ?_;exact⟨rfl,HR.out.1⟩
  | true =>
   obtain⟨d0,d1,d2,d3,_⟩:=row4 (hV4.r 1 m rfl)
   by_cases hm0:m=(0,0,0,0)
   ·have hE:∀ w,(Op.equalIn 10000 24 (uV m) (.agg #[.int .u64 0,.int .u64 0,.int .u64 0,.int .u64 0])).run Tryz.prog w= .ok true w:=fun w=>by
     have:=eqU m (0,0,0,0) w
     rwa [decide_eq_true hm0]at this
    obtain⟨h1,h2⟩:=(HL.out.2.2 (by trivial) (by trivial)).1 hm0;subst h1 h2;obtain⟨z,z0,z1,z2,z3,z4,z5,z6,z7⟩:=hV4.vr.zc;have HR:=zh (hV4.vr.res (0,0,0,0));clear hV4 HL HD hm0;go_wp2_with fail;refine bodyPost_ret (z00 rfl _ _ (w.heap.size+2) 24 (uL (0,0,0,0)) (0,0) _ rfl HR.out.2 Tryz.underlying24 rfl (by kernel_rfl)) rfl ?_;exact⟨rfl,HR.out.1⟩
   ·have hE:∀ w,(Op.equalIn 10000 24 (uV m) (.agg #[.int .u64 0,.int .u64 0,.int .u64 0,.int .u64 0])).run Tryz.prog w= .ok false w:=fun w=>by
     have:=eqU m (0,0,0,0) w
     rwa [decide_eq_false hm0]at this
    obtain⟨h1,h2⟩:=(HL.out.2.2 (by trivial) (by trivial)).2 hm0;subst h1 h2;have HV4:=zh hV4.drew;clear hV4 HL hm0;go_upto_region 5 with fail;clear d0 d1 d2 d3 hE;refine z16 [[],[],[],[0,1,2],[0,1,2,3],[0,1,2,3],[0,1,2,3,4,5],[0,1,2,3,4,5,6]]
     [rgC (VP w [a,m] 2 []),rgV 0 (uV a),rgV 1 (uV sqW),rgV 2 (uV m),rgV 3 (.tuple #[uV u,.bool v]),rgV 4 (uV u),rgV 5 (.bool v),rgV 7 (.bool v),rgR 6 (w.heap.size+2) (u)] _ (by kernel_rfl) (by kernel_rfl) (by kernel_rfl)
     (fun vs=>by simp only[z14,z1i,List.setIfInBounds_toArray,List.set_cons_zero,List.set_cons_succ];exact rfl)
     ⟨fun _ _ _ hb h=>h.below hb,z02,z02,z02,z02,z02,z02,z02,zkc,trivial⟩ ?_ ?_ ?_
    ·refine z0p rfl HV4.out ?_;iterate 8 refine z0u rfl ?_
     exact trivial
    ·refine⟨?_,?_,?_,?_,?_,?_,?_,?_,trivial⟩
     ·rintro vs w1 ⟨hC,_⟩ K hK;refine z1b rfl rfl rfl (hC.r 0 a rfl) (hK _ _ (.inl zb) ?_);exact z01 1
     ·rintro vs w1 ⟨_,_⟩ K hK;refine z0v rfl rfl rfl (by kernel_rfl) rfl (zm (zef _) ?_);rintro e w2 ⟨rfl,hb⟩;refine⟨_,rfl,hK _ _ (.inl hb) ?_⟩;exact z01 2
     ·rintro vs w1 ⟨hC,_⟩ K hK;refine z1b rfl rfl rfl (hC.r 1 m rfl) (hK _ _ (.inl zb) ?_);exact z01 3
     ·rintro vs w1 ⟨_,e0,e1,e2,_⟩ K hK;refine z0v rfl rfl rfl (by kernel_rfl) (show [vs 0,vs 1,vs 2]=_ from by rw[rg1 e0,rg1 e1,rg1 e2]) (zm (HD.out _) ?_);rintro e w2 ⟨rfl,hb⟩;refine⟨_,rfl,hK _ _ (.inl hb) ?_⟩;exact z01 4
     ·rintro vs w1 ⟨_,_,_,_,e3,_⟩ K hK;refine z18 rfl rfl (rg1 e3) rfl (hK _ _ (.inl zb) ?_);exact z01 5
     ·rintro vs w1 ⟨_,_,_,_,e3,_⟩ K hK;refine z18 rfl rfl (rg1 e3) rfl (hK _ _ (.inl zb) ?_);exact z01 6
     ·rintro vs w1 ⟨hC,_,_,_,_,e4,_,_⟩ K hK;refine z2k rfl rfl rfl (rg1 e4) hC.vr.z.choose_spec (hK _ _ (.inr ?_) ?_)
      ·refine z0l rfl (fun hC _=>hC.put _) ?_;iterate 6 refine z0l rfl (fun h _=>h) ?_
       iterate 2 refine z2l rfl ?_
       exact trivial
      ·iterate 8 refine z0k rfl ?_
       refine z0r rfl (fun _=>setRow_heap _ _ _ _ _ _ hC.vr.z.choose_spec) ?_;exact trivial
     ·rintro vs w1 ⟨_,_,_,_,_,_,e5,_,_⟩ K hK;refine z08 rfl (.inr rfl) (rg1 e5) (hK _ _ (.inl zb) ?_);exact z01 7
    ·intro vs w1 hA;obtain⟨hC,e0,e1,e2,e3,e4,e5,e7,t6,_⟩:=hA;have e0:=rg1 e0;have e1:=rg1 e1;have e2:=rg1 e2;have e3:=rg1 e3;have e4:=rg1 e4;have e5:=rg1 e5;have e7:=rg1 e7;simp only[e0,e1,e2,e3,e4,e5,e7];have HR:=zh t6;have HB:=zh hC.b;go_wp2_with fail;refine bodyPost_ret (z00 rfl _ _ (w.heap.size+2) 24 (uL u) (0,0) _ rfl HR.out Tryz.underlying24 rfl (by kernel_rfl)) rfl ?_;exact⟨rfl,HB.out⟩
def Ex.good(x:Ex):Bool:=decide (1<=x.st)&&(decide (1<=x.sg)&&(decide (0<=x.op)&&(decide (0<=x.bl)&&(decide (x.bl<=1099511627776)&&(decide (uN x.wo<M128)&&decide (uCmp x.mx oneW<=0))))))
theorem zne(x:Ex)(hwo:x.wo.Ok)(hmx:x.mx.Ok)(w:World):Calls Tryz.prog 102 #[.agg x.L] w fun e w'=>e= .returned (.bool x.good)/\Below w.heap.size w w':=by
 have hB:=(BV.start w).alloc (exO x);have HA:Hid (∀ rs W,BV w rs W->Calls Tryz.prog 11 #[uV x.wo] W fun e w'=>e= .returned (.bool (decide (uN x.wo<M128)))/\BV w rs w'):=fun rs W h=>h.reads (z94 _ hwo W)
 have HG:Hid (∀ rs W,BV w rs W->Calls Tryz.prog 69 #[uV x.mx] W fun e w'=>e= .returned (.bool (decide (uCmp x.mx oneW<=0)))/\BV w rs w'):=fun rs W h=>h.reads (zcc _ hmx W)
 have hgd:x.good=(decide (1<=x.st)&&(decide (1<=x.sg)&&(decide (0<=x.op)&&(decide (0<=x.bl)&&(decide (x.bl<=1099511627776)&&(decide (uN x.wo<M128)&&decide (uCmp x.mx oneW<=0))))))):=rfl;generalize decide (uN x.wo<M128)=b1 at *
 generalize decide (uCmp x.mx oneW<=0)=b2 at *
 generalize x.good=gd at *
 clear hwo hmx;obtain⟨xs,xo,xt,xb,W,M⟩:=x;have HB:=zh hB;dsimp only[exO,Ex.L]at HB HA HG hgd ⊢;clear hB;go_enter Tryz.func102,Tryz.ntmps102;go_upto_region 1 with fail;generalize w.alloc (.cells #[.int .i64 xs,.int .i64 xo,.int .i64 xt,.int .i64 xb,.int .u64 W.1,.int .u64 W.2.1,.int .u64 W.2.2.1,.int .u64 W.2.2.2,.int .u64 M.1,.int .u64 M.2.1,.int .u64 M.2.2.1,.int .u64 M.2.2.2] 26)=w4 at *
 have hB:=HB.out;obtain⟨⟨k0,k1,k2,k3⟩,⟨p0,p1,p2,p3⟩,⟨q0,q1,q2,q3⟩⟩:=rowE (x:=⟨xs,xo,xt,xb,W,M⟩) (hB.row (g:=w.heap.size) (o:=(.cells #[.int .i64 xs,.int .i64 xo,.int .i64 xt,.int .i64 xb,.int .u64 W.1,.int .u64 W.2.1,.int .u64 W.2.2.1,.int .u64 W.2.2.2,.int .u64 M.1,.int .u64 M.2.1,.int .u64 M.2.2.1,.int .u64 M.2.2.2] 26)) (by simp));have HBL:=zh (BV.bl hB);clear hB
 by_cases h0:1<=xs
 case' neg =>
  rw[decide_eq_false h0]at hgd;simp only[Bool.false_and]at hgd;subst hgd;clear HA HG HB;go_wp2_with fail;go_ret;exact⟨rfl,HBL.out⟩
 by_cases h1:1<=xt
 case' neg =>
  rw[decide_eq_true h0,decide_eq_false h1]at hgd;simp only[Bool.true_and,Bool.false_and]at hgd;subst hgd;clear HA HG HB;go_wp2_with fail;go_ret;exact⟨rfl,HBL.out⟩
 by_cases h2:0<=xo
 case' neg =>
  rw[decide_eq_true h0,decide_eq_true h1,decide_eq_false h2]at hgd;simp only[Bool.true_and,Bool.false_and]at hgd;subst hgd;clear HA HG HB;go_wp2_with fail;go_ret;exact⟨rfl,HBL.out⟩
 by_cases h3:0<=xb
 case' neg =>
  rw[decide_eq_true h0,decide_eq_true h1,decide_eq_true h2,decide_eq_false h3]at hgd;simp only[Bool.true_and,Bool.false_and]at hgd;subst hgd;clear HA HG HB;go_wp2_with fail;go_ret;exact⟨rfl,HBL.out⟩
 by_cases h4:xb<=1099511627776
 case' neg =>
  rw[decide_eq_true h0,decide_eq_true h1,decide_eq_true h2,decide_eq_true h3,decide_eq_false h4]at hgd;simp only[Bool.true_and,Bool.false_and]at hgd;subst hgd;clear HA HG HB;go_wp2_with fail;go_ret;exact⟨rfl,HBL.out⟩
 rw[decide_eq_true h0,decide_eq_true h1,decide_eq_true h2,decide_eq_true h3,decide_eq_true h4]at hgd;simp only[Bool.true_and]at hgd;go_wp2_with fail;refine zm (HA.out _ _ HB.out) ?_;rintro e w5 ⟨rfl,hB5⟩;obtain⟨⟨k0,k1,k2,k3⟩,⟨p0,p1,p2,p3⟩,⟨q0,q1,q2,q3⟩⟩:=rowE (x:=⟨xs,xo,xt,xb,W,M⟩) (hB5.row (g:=w.heap.size) (o:=(.cells #[.int .i64 xs,.int .i64 xo,.int .i64 xt,.int .i64 xb,.int .u64 W.1,.int .u64 W.2.1,.int .u64 W.2.2.1,.int .u64 W.2.2.2,.int .u64 M.1,.int .u64 M.2.1,.int .u64 M.2.2.1,.int .u64 M.2.2.2] 26)) (by simp));clear HBL;cases b1 with
 | false =>
  simp only[Bool.false_and]at hgd;subst hgd;have HBL:=zh (BV.bl hB5);clear hB5 HA HG HB;go_wp2_with fail;go_ret;exact⟨rfl,HBL.out⟩
 | true =>
  simp only[Bool.true_and]at hgd;subst hgd;have HG5:=zh (HG.out _ _ hB5);clear hB5 HA HG HB;go_wp2_with fail;refine zm HG5.out ?_;rintro e w6 ⟨rfl,hB6⟩;have HBL:=zh (BV.bl hB6);clear hB6 HG5;go_wp2_with fail;go_ret;exact⟨rfl,HBL.out⟩
end Go.Proofs.YtnkilceibkkjlaaGreat
