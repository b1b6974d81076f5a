/- What is proved here: the reference's history: how many checkpoints, one of them, one written, the las -/
import Derived.Test.YtnkilceibkkjlaaGreatGExHat
import Derived.Test.YtnkilceibkkjlaaGreatGExA
set_option maxRecDepth 100000
set_option maxHeartbeats 16000000
namespace Go.Proofs.YtnkilceibkkjlaaGreat
open Go.RowKit
theorem z3s{P:Program}{fn:Func}{u p:Tmp}{ty:TypeId}(h:fn.results=#[.tmp u,.cell p ty])(tmps:Array Value)(w:World)(g:Nat)(t:TypeId)(cs:Array Value)(fr:Nat × Nat)(d:TypeDesc)
  (hp:tmps.getD p undef= .pointer (some ⟨g,0,none⟩)) (hg:w.heap[g]?=some (.cells cs t fr))
  (hu:P.underlying ty=some d) (hd:(match d with | .struct _ | .array _ _=>true | _=>false)=true) (hi:(P.info? ty).map (·.size)=some cs.size) :
  (results fn tmps).run P w= .ok (.tuple #[tmps.getD u undef,.agg cs]) w:=by
 have hp':tmps[p]?.getD undef= .pointer (some ⟨g,0,none⟩):=by simpa using hp
 simp[results,h,hp',asAddr,Result.andThen,run_loadVar_row w g t ty cs fr d hg hu hd hi]
theorem zhv(w:World)(y:Value)(l:List Int)(n:Int)(h:z0w w y l)(hl:IdOk l):Calls Tryz.prog 201 #[y,.int .i64 n] w fun e w'=>∃ v,e= .returned v/\z0w w' v (l ++ [n])/\Below w.heap.size w w':=by
 have hS:=zlg h;have hown:Own (w.alloc (.cells #[] 3)) 3 1 (.slice (some ⟨w.heap.size,0,none⟩) 0 0) 0 []:=
  ⟨rfl,.inr ⟨w.heap.size,0,#[],rfl,heap_alloc_new w _,Nat.le_refl _,Nat.zero_le _,Nat.zero_le _,rfl⟩⟩
 have hS2:=hS.below (w':=w.alloc (.cells #[] 3)) ((Below.refl _ w).alloc (Nat.le_refl _) _);have hll:=hl.len;have hys:∃ ya yk,y= .slice ya l.length yk:=by
  rcases h with⟨rfl,rfl⟩ | ⟨a,c,rfl,_⟩
  ·exact⟨_,_,rfl⟩
  ·exact⟨_,_,rfl⟩
 have HF:Hid (∀ v' w',z0t (w.alloc (.cells #[] 3)) 3 1 (.slice (some ⟨w.heap.size,0,none⟩) 0 0) 0 l.length [] (l.map fun n=>Value.int .i64 n) v' w'->∃ a c,v' = .slice a l.length c/\Own (w'.alloc (.cells #[.int .i64 n] 3)) 3 1 (.slice a l.length c) l.length (l.map fun n=>Value.int .i64 n)/\∀ v2 w2,z0t (w'.alloc (.cells #[.int .i64 n] 3)) 3 1 (.slice a l.length c) l.length 1 (l.map fun n=>Value.int .i64 n) [.int .i64 n] v2 w2->z0w w2 v2 (l ++ [n])/\Below w.heap.size w w2):=fun v' w' hA=>by
  have ho:Own w' 3 1 v' l.length (l.map fun n=>Value.int .i64 n):=by have:=hA.own;simpa using this
  have hg:∀ g,v'.ownBlock=some g->w.heap.size<=g:=fun g hg=>by
   rcases hA.block g hg with h | h
   ·simp[Value.ownBlock]at h;omega
   ·simp at h;omega
  have hb:Below w.heap.size w w':=((Below.refl _ w).alloc (Nat.le_refl _) _).grown hA.grown (by simp) (fun k hk=>by simp[Value.ownBlock]at hk;omega);obtain⟨_,a,c,rfl,_⟩:=ho.src;refine⟨a,c,rfl,ho.frame fun k hk=>(z04 (Below.refl _ w') _).block k (ho.lt k hk),fun v2 w2 hA2=>⟨zk0 (by have:=hA2.own;simpa using this),?_⟩⟩;exact(z04 hb (.cells #[.int .i64 n] 3)).grown hA2.grown (Nat.le_trans hb.size (by simp)) fun k hk=>hg k hk
 have hmx:0+l.length<=maxLen:=by unfold maxLen;omega
 have hone:∀ u∈l.map (fun n=>Value.int .i64 n),u.oneCell'=true:=fun u hu=>by
  obtain⟨x,_,rfl⟩:=List.mem_map.1 hu;rfl
 obtain⟨ya,yk,rfl⟩:=hys;clear h hl hS;generalize hxs:(l.map fun n=>Value.int .i64 n)=xs at *
 generalize hln:l.length=m at *
 clear hxs hln;go_enter Tryz.func201,Tryz.ntmps201;go_wp2_with (at_builtin;refine z2g rfl _ _ 75 75 rfl intT intT _ 0 [] rfl hown _ m xs rfl hS2 hone hmx (by omega) ?_);intro v' w' hA;obtain⟨a,c,rfl,hO,hA2⟩:=HF.out v' w' hA;have HOO:=zh hO;have HAP:=zh hA2;clear hA hO hA2 HF hS2 hown hone;go_wp2_with (at_builtin;refine z07 rfl _ _ 75 75 rfl intT intT _ m xs rfl HOO.out _ 1 _ [.int .i64 n] rfl rfl (z1d _ _ _) (by intro u hu;rw[List.mem_singleton.1 hu];rfl) (by unfold maxLen;omega) (by omega) ?_);intro v2 w2 hA2;obtain⟨hI,hb⟩:=HAP.out _ _ hA2;have HE:=zh (And.intro hI hb);clear hA2 HAP HOO hI hb;go_wp2_with fail;go_ret;exact⟨_,rfl,HE.out.1,HE.out.2⟩
theorem ziu(w:World)(b:Nat)(s:St)(L:List Nat)(f:Nat)(t:Nat)(ht1:1<=t)(ht2:t<=255)(y:Value)(l:List Int)(hi:z0w w y l)(hl:IdOk l)(hq:RRep w b s L)(hf:s.Fit f)(hm:f<100000000000) :
  Calls Tryz.prog 192 #[.pointer (some ⟨b,0,none⟩),.int .i64 t,y] w fun e w'=>e= .returned (.int .i64 (s.hlen t l))/\Below w.heap.size w w':=by
 have HK:=zh (z9t t ht1 ht2 y l w hi (by have:=hl.len;omega) hl.lt);have hz:s.size<1000000000000:=Nat.lt_of_le_of_lt hf.size (by omega);have HI:Hid (∀ W,Below w.heap.size w W->Calls Tryz.prog 100 #[.pointer (some ⟨b,0,none⟩),.string (keyL t l)] W fun e w'=>e= .returned (.int .i64 (s.hlen t l))/\Below w.heap.size w w'):=fun W hb=>(zfy W b s L (keyL t l) (hq.below hb) (Nat.lt_of_le_of_lt (hf.val _) (by decide)) hz).mono fun e w' ⟨he,h1⟩=>⟨he,z0a hb h1⟩
 clear hi hl hq hf hz;generalize s.hlen t l=n at *
 generalize keyL t l=kk at *
 generalize ((t:Nat):Int)=tt at *
 go_enter Tryz.func192,Tryz.ntmps192;go_wp2_with fail;refine zm HK.out ?_;rintro e w2 ⟨rfl,hb⟩;have HI2:=zh (HI.out w2 hb);clear hb HI HK;go_wp2_with fail;refine zm HI2.out ?_;rintro e w3 ⟨rfl,hb⟩;have HB:=zh hb;clear hb HI2;go_wp2_with fail;go_ret;exact⟨rfl,HB.out⟩
theorem zgl(W:World)(t:Nat)(ht1:1<=t)(ht2:t<=255)(v:Value)(l:List Int)(n:Int)(hv:z0w W v (l ++ [n]))(hl:IdOk l)(hn:I63 n):Calls Tryz.prog 95 #[.int .i64 t,v] W fun e w'=>e= .returned (.string (keyL t (l ++ [n])))/\Below W.heap.size W w':=
 z9t t ht1 ht2 v (l ++ [n]) W hv (by have:=hl.len;simp;omega) fun x hx=>by
  rcases List.mem_append.1 hx with h1 | h1
  ·exact hl.lt x h1
  ·rw[List.mem_singleton]at h1;subst h1;exact hn
theorem zv8(v:ByteArray):(v.size≠40->hpt v=(0,(0,0,0,0)))/\(v.size=40->(¬ be (v.extract 0 8).data.toList<9223372036854775808->hpt v=(0,(0,0,0,0)))/\(be (v.extract 0 8).data.toList<9223372036854775808->hpt v=(be (v.extract 0 8).data.toList,z3a (v.extract 8 v.size)))):=by
 have hl8:8<=v.size->(v.extract 0 8).data.toList.length=8:=fun h=>by
  show(v.extract 0 8).data.size=8
  have:(v.extract 0 8).size=8:=by rw[ByteArray.size_extract];omega
  exact this
 have h32:(v.extract 8 v.size).size=v.size-8:=by rw[ByteArray.size_extract];omega
 refine⟨fun h => ?_,fun h=>⟨fun hb => ?_,fun hb => ?_⟩⟩
 ·unfold hpt
  by_cases h8:v.size<8
  ·rw[if_pos h8]
  ·rw[if_neg h8,zh7 (hl8 (by omega))]
   by_cases hb:be (v.extract 0 8).data.toList<9223372036854775808
   ·rw[if_pos hb];show(if (v.extract 8 v.size).size=32 then _ else _)=_
    rw[if_neg (by rw[h32];omega)]
   ·rw[if_neg hb]
 ·unfold hpt;rw[if_neg (by omega),zh7 (hl8 (by omega)),if_neg hb]
 ·unfold hpt;rw[if_neg (by omega),zh7 (hl8 (by omega)),if_pos hb];show(if (v.extract 8 v.size).size=32 then _ else _)=_
  rw[if_pos (by rw[h32];omega)]
theorem zsh(o:Option ByteArray):o.isSome=false->hpt (o.getD z0d)=(0,(0,0,0,0)):=fun h=>by
 cases o with
 | none=>exact(zv8 z0d).1 (by decide)
 | some v=>cases h
theorem zj8(w:World)(b:Nat)(s:St)(L:List Nat)(f:Nat)(t:Nat)(ht1:1<=t)(ht2:t<=255)(y:Value)(l:List Int)(n:Int)(hi:z0w w y l)(hl:IdOk l)(hn:I63 n)(hq:RRep w b s L)(hf:s.Fit f)(hm:f<100000000000) :
  Calls Tryz.prog 193 #[.pointer (some ⟨b,0,none⟩),.int .i64 t,y,.int .i64 n] w fun e w'=>e= .returned (.tuple #[.int .i64 (hpt (s.val (keyL t (l ++ [n])))).1,uV (hpt (s.val (keyL t (l ++ [n])))).2])/\Below w.heap.size w w':=by
 have hB:=(BV.start w).alloc zO;have HWT:=zh (zhv (w.alloc zO) y l n (hi.below (z04 (Below.refl _ w) _)) hl);have HWK:Hid (∀ v W,z0w W v (l ++ [n])->Below (w.alloc zO).heap.size (w.alloc zO) W->Calls Tryz.prog 95 #[.int .i64 t,v] W fun e w'=>e= .returned (.string (keyL t (l ++ [n])))/\BV w [(w.heap.size,zO)] w'):=fun v W hv hW=>(zgl W t ht1 ht2 v l n hv hl hn).mono fun e w' ⟨he,hb⟩=>⟨he,QV.below (QV.below hB hW) hb⟩
 have hz:s.ents.length<1000000000000:=by have:=hf.size;unfold St.size at this;omega
 have HGT:Hid (∀ rs W,BV w rs W->Calls Tryz.prog 164 #[.pointer (some ⟨b,0,none⟩),.string (keyL t (l ++ [n]))] W fun e w'=>e= .returned (.tuple #[.string (s.val (keyL t (l ++ [n]))),.bool (getE s.ents (keyL t (l ++ [n]))).isSome])/\BV w rs w'):=fun rs W hW =>
  (z88 W b s L _ (hq.below (BV.bl hW)) hz).mono fun e w' ⟨he,hw⟩=>⟨he,by subst hw;exact hW⟩
 have hvs:(s.val (keyL t (l ++ [n]))).size<=1000000:=hf.val _;have hno:=zsh (getE s.ents (keyL t (l ++ [n])));have hp:=zv8 (s.val (keyL t (l ++ [n])));change _->hpt (s.val (keyL t (l ++ [n])))=_ at hno;generalize (getE s.ents (keyL t (l ++ [n]))).isSome=ok at *
 generalize s.val (keyL t (l ++ [n]))=v at *
 generalize keyL t (l ++ [n])=kk at *
 clear hi hl hn hq hf hz ht1 ht2;generalize ((t:Nat):Int)=tt at *
 cases ok with
 | false =>
  rw[hno rfl];clear hno hp;go_enter Tryz.func193,Tryz.ntmps193;go_wp2_with fail;refine zm HWT.out ?_;rintro e w2 ⟨v2,rfl,hv2,hb2⟩;have HK2:=zh (HWK.out _ _ hv2 hb2);clear hv2 hb2 HWT HWK hB;go_wp2_with fail;refine zm HK2.out ?_;rintro e w3 ⟨rfl,hB3⟩;have HG3:=zh (HGT.out _ _ hB3);clear hB3 HK2 HGT;go_wp2_with fail;refine zm HG3.out ?_;rintro e w4 ⟨rfl,hB4⟩;have hz:=hB4.u4 (g:=w.heap.size) (x:=(0,0,0,0)) (by simp);obtain⟨z0,z1,z2,z3,z4,z5,z6,z7⟩:=row4 hz;have HZ:=zh (put4 hz (0,0,0,0));have HB:=zh (z09 (BV.bl hB4) (Nat.le_refl _) (.int .u64 0) (.int .u64 0) (.int .u64 0) (.int .u64 0));clear hz hB4 HG3;go_wp2_with fail;refine bodyPost_ret (z3s rfl _ _ w.heap.size 24 (uL (0,0,0,0)) (0,0) _ rfl HZ.out Tryz.underlying24 rfl (by kernel_rfl)) rfl ?_;exact⟨rfl,HB.out⟩
 | true =>
 clear hno
 by_cases h40:v.size=40
 ·have hp:=hp.2 h40;have hd:((v.size:Int)==40)=true:=by rw[h40];rfl
  have hd2:(v.size==40)=true:=by rw[h40];rfl
  have hs8:(8:Int)<=(v.size:Int):=by omega
  have hl8:(v.extract 0 8).data.toList.length=8:=by
   show(v.extract 0 8).data.size=8
   have:(v.extract 0 8).size=8:=by rw[ByteArray.size_extract];omega
   exact this
  have HTA:Hid (∀ rs W,BV w rs W->Calls Tryz.prog 165 #[.string (v.extract 8 v.size)] W fun e w'=>e= .returned (.tuple #[uV (z3a (v.extract 8 v.size)),.bool ((v.extract 8 v.size).size==32)])/\BV w rs w'):=fun rs W hW=>hW.reads (za7 _ W)
  have hnu:∀ rs W,BV w rs W->Calls Tryz.prog 167 #[.string (v.extract 0 8)] W (z1o W (numsL (v.extract 0 8).data.toList)):=fun rs W _=>zby (v.extract 0 8) (by rw[ByteArray.size_extract];omega) W
  rw[zh7 hl8]at hnu;clear h40
  by_cases hbe:be (v.extract 0 8).data.toList<9223372036854775808
  ·rw[if_pos hbe]at hnu;have HNU:Hid (∀ rs W,BV w rs W->Calls Tryz.prog 167 #[.string (v.extract 0 8)] W fun e w'=>∃ g c cur,e= .returned (.tuple #[.slice (some ⟨g,0,none⟩) 1 c,.bool true])/\BV w ((g,.cells cur 3)::rs) w'/\cur[0]?=some (.int .i64 (be (v.extract 0 8).data.toList))):=fun rs W hW=>(hnu rs W hW).mono fun e w' ⟨hb,sl,he,ho,hg⟩=>by
    rcases ho.2 with⟨_,h0⟩ | ⟨g,cap,cur,rfl,hg2,_,_,_,ht⟩
    ·cases h0
    ·refine⟨g,cap,cur,he,QV.add1 hW hb (hg g rfl) hg2,?_⟩;have:=congrArg (fun x=>x[0]?) ht
     simpa [List.getElem?_take]using this
   rw[hp.2 hbe];clear hnu hl8 hvs hp hbe;generalize be (v.extract 0 8).data.toList=bn at *
   generalize z3a (v.extract 8 v.size)=am at *
   generalize ((v.extract 8 v.size).size==32)=o32 at *
   go_enter Tryz.func193,Tryz.ntmps193;go_wp2_with fail;refine zm HWT.out ?_;rintro e w2 ⟨v2,rfl,hv2,hb2⟩;have HK2:=zh (HWK.out _ _ hv2 hb2);clear hv2 hb2 HWT HWK hB;go_wp2_with fail;refine zm HK2.out ?_;rintro e w3 ⟨rfl,hB3⟩;have HG3:=zh (HGT.out _ _ hB3);clear hB3 HK2 HGT;go_wp2_with fail;refine zm HG3.out ?_;rintro e w4 ⟨rfl,hB4⟩;have HN4:=zh (HNU.out _ _ hB4);clear hB4 HNU HG3;go_wp2_with fail;refine zm HN4.out ?_;rintro e w5 ⟨g,c,cur,rfl,hB5,hcur⟩;have HT5:=zh (HTA.out _ _ hB5);clear hB5 HTA HN4;go_wp2_with fail;refine zm HT5.out ?_;rintro e w6 ⟨rfl,hB6⟩;have hB7:=hB6.alloc (uO am);clear hB6 HT5;go_upto_region 6 with fail;generalize w6.alloc (uO am)=w7 at *
   generalize w6.heap.size=g1 at *
   have hB8:=hB7.drew;have hg0:w7.cell? ⟨g,0,none⟩=some (.int .i64 bn):=by rw[cell_of_row _ _ _ _ _ _ (hB7.row (g:=g) (o:=.cells cur 3) (by simp))];exact hcur
   obtain⟨a0,a1,a2,a3,_⟩:=row4 (hB7.u4 (g:=g1) (x:=am) (by simp));have hz:=hB7.row (g:=w.heap.size) (o:=zO) (by simp);obtain⟨z0,z1,z2,z3,z4,z5,z6,z7⟩:=row4 (x:=(0,0,0,0)) hz;have HZ:=zh (put4 (x:=(0,0,0,0)) hz am);have HB:=zh (z09 (BV.bl hB7) (Nat.le_refl _) (.int .u64 am.1) (.int .u64 am.2.1) (.int .u64 am.2.2.1) (.int .u64 am.2.2.2));clear hz hB7 hB8 hcur;go_upto_region 8 with fail
   go_region_with fail
   all_goals
    go_wp2_with fail;refine bodyPost_ret (z3s rfl _ _ w.heap.size 24 (uL am) (0,0) _ rfl ?_ Tryz.underlying24 rfl (by kernel_rfl)) rfl ?_
    ·exact HZ.out
    ·exact⟨rfl,z0g HB.out⟩
  ·rw[if_neg hbe]at hnu;have HNU:Hid (∀ rs W,BV w rs W->Calls Tryz.prog 167 #[.string (v.extract 0 8)] W fun e w'=>e= .returned (.tuple #[.slice none 0 0,.bool false])/\BV w rs w'):=fun rs W hW=>(hnu rs W hW).mono fun e w' ⟨hb,he⟩=>⟨he,QV.below hW hb⟩
   rw[hp.1 hbe];clear hnu hl8 hvs hp hbe;generalize z3a (v.extract 8 v.size)=am at *
   generalize ((v.extract 8 v.size).size==32)=o32 at *
   go_enter Tryz.func193,Tryz.ntmps193;go_wp2_with fail;refine zm HWT.out ?_;rintro e w2 ⟨v2,rfl,hv2,hb2⟩;have HK2:=zh (HWK.out _ _ hv2 hb2);clear hv2 hb2 HWT HWK hB;go_wp2_with fail;refine zm HK2.out ?_;rintro e w3 ⟨rfl,hB3⟩;have HG3:=zh (HGT.out _ _ hB3);clear hB3 HK2 HGT;go_wp2_with fail;refine zm HG3.out ?_;rintro e w4 ⟨rfl,hB4⟩;have HN4:=zh (HNU.out _ _ hB4);clear hB4 HNU HG3;go_wp2_with fail;refine zm HN4.out ?_;rintro e w5 ⟨rfl,hB5⟩;have HT5:=zh (HTA.out _ _ hB5);clear hB5 HTA HN4;go_wp2_with fail;refine zm HT5.out ?_;rintro e w6 ⟨rfl,hB6⟩;have hB7:=hB6.alloc (uO am);clear hB6 HT5;go_upto_region 6 with fail;generalize w6.alloc (uO am)=w7 at *
   generalize w6.heap.size=g1 at *
   have hz:=hB7.row (g:=w.heap.size) (o:=zO) (by simp);obtain⟨z0,z1,z2,z3,z4,z5,z6,z7⟩:=row4 (x:=(0,0,0,0)) hz;have HZ:=zh (put4 (x:=(0,0,0,0)) hz (0,0,0,0));have HB:=zh (z09 (BV.bl hB7) (Nat.le_refl _) (.int .u64 0) (.int .u64 0) (.int .u64 0) (.int .u64 0));clear hz hB7;go_wp2_with fail;refine bodyPost_ret (z3s rfl _ _ w.heap.size 24 (uL (0,0,0,0)) (0,0) _ rfl HZ.out Tryz.underlying24 rfl (by kernel_rfl)) rfl ?_;exact⟨rfl,HB.out⟩
 ·rw[hp.1 h40];have hd:((v.size:Int)==40)=false:=by rw[beq_eq_false_iff_ne];omega
  have hd2:(v.size==40)=false:=by rw[beq_eq_false_iff_ne];omega
  clear hp h40;go_enter Tryz.func193,Tryz.ntmps193;go_wp2_with fail;refine zm HWT.out ?_;rintro e w2 ⟨v2,rfl,hv2,hb2⟩;have HK2:=zh (HWK.out _ _ hv2 hb2);clear hv2 hb2 HWT HWK hB;go_wp2_with fail;refine zm HK2.out ?_;rintro e w3 ⟨rfl,hB3⟩;have HG3:=zh (HGT.out _ _ hB3);clear hB3 HK2 HGT;go_wp2_with fail;refine zm HG3.out ?_;rintro e w4 ⟨rfl,hB4⟩;have hz:=hB4.u4 (g:=w.heap.size) (x:=(0,0,0,0)) (by simp);obtain⟨z0,z1,z2,z3,z4,z5,z6,z7⟩:=row4 hz;have HZ:=zh (put4 hz (0,0,0,0));have HB:=zh (z09 (BV.bl hB4) (Nat.le_refl _) (.int .u64 0) (.int .u64 0) (.int .u64 0) (.int .u64 0));clear hz hB4 HG3;go_wp2_with fail;refine bodyPost_ret (z3s rfl _ _ w.heap.size 24 (uL (0,0,0,0)) (0,0) _ rfl HZ.out Tryz.underlying24 rfl (by kernel_rfl)) rfl ?_;exact⟨rfl,HB.out⟩
theorem zbt(W:World)(x y z u:Int):z0w (W.alloc (.cells #[.int .i64 x,.int .i64 y,.int .i64 z,.int .i64 u] 3)) (.slice (some ⟨W.heap.size,0,none⟩) 4 4) [x,y,z,u]:=
 z7i (l:=[x,y,z,u]) fun j v hj=>by
  rw[cell_of_row _ _ _ _ _ _ (heap_alloc_new W _)]
  match j,hj with
  | 0,hj=>cases hj;rfl
  | 1,hj=>cases hj;rfl
  | 2,hj=>cases hj;rfl
  | 3,hj=>cases hj;rfl
theorem z8g{ops:Array Oper}{o:Oper}{a:Act}{w:World}{K:Value->World->Prop}{x:Operand}{m:Int}(hg:Region.wanted o (yielded ops a.tmps)=true)(ho:o.op= .buildSlice 75 1 #[(0,x)])(hx:a.eval x= .int .i64 m)
  (hk:K (.slice (some ⟨w.heap.size,0,none⟩) 1 1) (w.alloc (.cells #[.int .i64 m] 3))):rgDo Tryz.prog ops o a w K:=by
 refine za1 hg ?_ hk;unfold execOp;simp only[ho,hx,List.map_toArray,List.map_cons,List.map_nil]
 go_simp
theorem zfg{ops:Array Oper}{o:Oper}{a:Act}{w:World}{K:Value->World->Prop}{x y z u:Operand}{m n k l:Int}(hg:Region.wanted o (yielded ops a.tmps)=true)(ho:o.op= .buildSlice 75 4 #[(0,x),(1,y),(2,z),(3,u)])(hx:a.eval x= .int .i64 m)(hy:a.eval y= .int .i64 n)(hz:a.eval z= .int .i64 k)(hu:a.eval u= .int .i64 l)
  (hk:K (.slice (some ⟨w.heap.size,0,none⟩) 4 4) (w.alloc (.cells #[.int .i64 m,.int .i64 n,.int .i64 k,.int .i64 l] 3))):rgDo Tryz.prog ops o a w K:=by
 refine za1 hg ?_ hk;unfold execOp;simp only[ho,hx,hy,hz,hu,List.map_toArray,List.map_cons,List.map_nil]
 go_simp
theorem z6f(t:Nat)(ht1:1<=t)(ht2:t<=255)(a:Int)(ha:I63 a)(W:World)(v:Value)(hv:z0w W v [a]):Calls Tryz.prog 90 #[.int .i64 t,v] W fun e w'=>e= .returned (.string (keyL t [a]))/\Below W.heap.size W w':=
 z90 t ht1 ht2 v [a] W hv (show([a]:List Int).length<1000000000 from (by decide:1<1000000000)) (by intro x hx;rw[List.mem_singleton]at hx;subst hx;exact ha)
theorem zzn{ops:Array Oper}{o:Oper}{a:Act}{w:World}{K:Value->World->Prop}{x:Operand}{g:Nat}(hg:Region.wanted o (yielded ops a.tmps)=true)(ho:o.op= .fieldAddr 26 x 0)(hx:a.eval x= .pointer (some ⟨g,0,none⟩))(hk:K (.pointer (some ⟨g,0,none⟩)) w):rgDo Tryz.prog ops o a w K:=by
 refine z0j hg ?_ hk;unfold execOp;simp only[ho,hx]
 go_simp
theorem q07{ops:Array Oper}{o:Oper}{a:Act}{w:World}{K:Value->World->Prop}{x:Operand}{g:Nat}(hg:Region.wanted o (yielded ops a.tmps)=true)(ho:o.op= .fieldAddr 26 x 1)(hx:a.eval x= .pointer (some ⟨g,0,none⟩))(hk:K (.pointer (some ⟨g,1,none⟩)) w):rgDo Tryz.prog ops o a w K:=by
 refine z0j hg ?_ hk;unfold execOp;simp only[ho,hx]
 go_simp
theorem zqg{ops:Array Oper}{o:Oper}{a:Act}{w:World}{K:Value->World->Prop}{x:Operand}{g:Nat}(hg:Region.wanted o (yielded ops a.tmps)=true)(ho:o.op= .fieldAddr 26 x 2)(hx:a.eval x= .pointer (some ⟨g,0,none⟩))(hk:K (.pointer (some ⟨g,2,none⟩)) w):rgDo Tryz.prog ops o a w K:=by
 refine z0j hg ?_ hk;unfold execOp;simp only[ho,hx]
 go_simp
theorem zyu{ops:Array Oper}{o:Oper}{a:Act}{w:World}{K:Value->World->Prop}{x:Operand}{g:Nat}(hg:Region.wanted o (yielded ops a.tmps)=true)(ho:o.op= .fieldAddr 26 x 3)(hx:a.eval x= .pointer (some ⟨g,0,none⟩))(hk:K (.pointer (some ⟨g,3,none⟩)) w):rgDo Tryz.prog ops o a w K:=by
 refine z0j hg ?_ hk;unfold execOp;simp only[ho,hx]
 go_simp
theorem zuw{ops:Array Oper}{o:Oper}{a:Act}{w:World}{K:Value->World->Prop}{x:Operand}{g:Nat}(hg:Region.wanted o (yielded ops a.tmps)=true)(ho:o.op= .fieldAddr 26 x 4)(hx:a.eval x= .pointer (some ⟨g,0,none⟩))(hk:K (.pointer (some ⟨g,4,none⟩)) w):rgDo Tryz.prog ops o a w K:=by
 refine z0j hg ?_ hk;unfold execOp;simp only[ho,hx]
 go_simp
theorem zyk{ops:Array Oper}{o:Oper}{a:Act}{w:World}{K:Value->World->Prop}{x:Operand}{g:Nat}(hg:Region.wanted o (yielded ops a.tmps)=true)(ho:o.op= .fieldAddr 26 x 5)(hx:a.eval x= .pointer (some ⟨g,0,none⟩))(hk:K (.pointer (some ⟨g,8,none⟩)) w):rgDo Tryz.prog ops o a w K:=by
 refine z0j hg ?_ hk;unfold execOp;simp only[ho,hx]
 go_simp
end Go.Proofs.YtnkilceibkkjlaaGreat
