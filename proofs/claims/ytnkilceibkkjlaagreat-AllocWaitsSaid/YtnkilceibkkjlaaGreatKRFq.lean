/- What is proved here: the reference's queues: ends, Len, B -/
import Derived.Test.YtnkilceibkkjlaaGreatKRExD
set_option maxRecDepth 100000
set_option maxHeartbeats 16000000
namespace Go.Proofs.YtnkilceibkkjlaaGreat
open Go.RowKit
theorem zne{n:Nat}(h:n<9223372036854775808):I63 (n:Int):=by unfold I63;omega
theorem zz6(s:St)(k:ByteArray):s.del k=s.put k z05:=by unfold St.put;rw[if_pos rfl]
theorem FV.ints{b:Nat}{w W:World}{L:List Nat}{s:St}{rs:List (Nat × Obj)}(hV:FV b w L s rs W){y:Value}{l:List Int}(hy:z0w w y l)(hn:∀ k,y.ownBlock=some k->k∉L):z0w W y l:=by
 obtain⟨L',_,st⟩:=QV.done hV
 rcases hy with⟨rfl,rfl⟩ | ⟨a,c,rfl,hc⟩
 ·exact .inl ⟨rfl,rfl⟩
 ·refine .inr ⟨a,c,rfl,fun j x hx => ?_⟩;have h0:=hc j x hx;have hlt:=World.block_lt_of_cell? w _ h0;have hb:(a.add j).block=a.block:=by simp[Addr.add];split<;>rfl
  rw[hb]at hlt;rw[World.cell?_of_block (w:=w) (a:=a.add j) (by rw[hb];exact st.fr.block _ hlt (hn _ rfl))];exact h0
theorem FV.reads{b:Nat}{w W:World}{L:List Nat}{s:St}{rs:List (Nat × Obj)}(hq:FV b w L s rs W){f:FuncId}{args:Array Value}{v:Value}(hC:∀ L',RRep W b s L'->Calls Tryz.prog f args W fun e W'=>e= .returned v/\Below W.heap.size W W'):Calls Tryz.prog f args W fun e W'=>e= .returned v/\FV b w L s rs W':=
 QV.reads hq hC
theorem FV.putRow{b:Nat}{w W:World}{L:List Nat}{s:St}{rs:List (Nat × Obj)}(hq:FV b w L s rs W)(hz:s.size<1000000000000)(k:ByteArray)(hk:k≠z05)(v:Value)(l:List Int)(hv:z0w W v l)(hl:l.length<1000)(hne:l≠[])(hr:∀ n∈l,0<=n/\n<9223372036854775808) :
  Calls Tryz.prog 187 #[.pointer (some ⟨b,0,none⟩),.string k,v] W fun e W'=>e= .returned (.tuple #[])/\FV b w L (s.put k (rowB l)) rs W':=
 QV.call hq fun L' h1=>(zii W b s L' k v l h1 hz hk hv (by omega) hne hr).mono fun _ _ ⟨he,h2⟩=>⟨he,h2⟩
theorem FV.del{b:Nat}{w W:World}{L:List Nat}{s:St}{rs:List (Nat × Obj)}(hq:FV b w L s rs W)(hz:s.size<1000000000000)(k:ByteArray) :
  Calls Tryz.prog 136 #[.pointer (some ⟨b,0,none⟩),.string k] W fun e W'=>(∃ d,e= .returned (.bool d))/\FV b w L (s.del k) rs W':=by
 have hC:Calls Tryz.prog 136 #[.pointer (some ⟨b,0,none⟩),.string k] W fun e W'=>e= .returned (.bool (getE s.ents k).isSome)/\FV b w L (s.del k) rs W':=
  QV.call hq fun L' h1=>(z8z W b s L' k h1 hz).mono fun _ _ ⟨he,h2⟩=>⟨he,h2⟩
 exact hC.mono fun e W' ⟨he,h⟩=>⟨⟨_,he⟩,h⟩
theorem zg9(w:World)(b:Nat)(L:List Nat)(s:St)(f t:Nat)(ht1:1<=t)(ht2:t<=255)(y:Value)(l:List Int)(hy:z0w w y l)(hl:IdOk l)(hq:RRep w b s L)(hf:s.Fit f)(hm:f<100000000000) :
  Calls Tryz.prog 168 #[.pointer (some ⟨b,0,none⟩),.int .i64 t,y] w fun e w'=>e= .returned (.tuple #[.int .i64 (ends s t l).1,.int .i64 (ends s t l).2])/\Below w.heap.size w w':=by
 have HC:Hid (Calls Tryz.prog 95 #[.int .i64 t,y] w fun e w1=>e= .returned (.string (keyL t l)) /\
  Calls Tryz.prog 98 #[.pointer (some ⟨b,0,none⟩),.string (keyL t l)] w1 fun e w2=>∃ v,e= .returned v/\Own w2 3 1 v (rowOf (s.val (keyL t l))).length (zmx (rowOf (s.val (keyL t l))))/\Below w.heap.size w w2):=
  (z7a t ht1 ht2 y l w hy (by have:=hl.len;omega) hl.lt).mono fun e w1 ⟨he,hb⟩=>⟨he,(zov (hq.below hb) hf hm (keyL t l)).mono fun e w2 ⟨v,he,ho,_,hb2⟩=>⟨v,he,ho,z0b hb hb2⟩⟩
 have HP:Hid (ends s t l=z3d (rowOf (s.val (keyL t l)))):=rfl;clear hq hf hy hl;generalize ends s t l=p at *
 generalize rowOf (s.val (keyL t l))=r at *
 generalize keyL t l=k at *
 by_cases h2:r.length=2
 ·obtain⟨x,z,rfl⟩:∃ a b,r = [a,b]:=by
   match r,h2 with
   | [a,b],_=>exact⟨a,b,rfl⟩
  by_cases hab:x<=z
  ·have hp:p=(x,z):=by rw[HP.out];simp[z3d,hab]
   subst hp;have hd:decide ((z:Int)<(x:Int))=false:=decide_eq_false (by omega);have hd2:(z<x)=False:=eq_false (by omega);clear h2 HP hab;go_enter Tryz.func168,Tryz.ntmps168;go_wp2_with fail;refine zm HC.out ?_;rintro e w1 ⟨rfl,hD⟩;have HD:=zh hD;clear hD HC;go_wp2_with fail;refine zm HD.out ?_;rintro e w2 ⟨v,rfl,ho,hb2⟩;obtain⟨g,cc,rfl,c0,c1⟩:=z7h ho;have HB:=zh hb2;clear HD ho hb2;go_upto_region 2 with fail
   go_region
   all_goals
    go_wp2_with fail
    go_region
    all_goals
     go_wp2_with fail;exact bodyPost_ret_by (results_tmp2 rfl _ _ _) rfl ⟨rfl,z0h (z0h HB.out)⟩
  ·have hp:p=(0,0):=by rw[HP.out];simp[z3d,hab]
   subst hp;have hd:decide ((z:Int)<(x:Int))=true:=decide_eq_true (by omega);have hd2:(z<x)=True:=eq_true (by omega);clear h2 HP hab;go_enter Tryz.func168,Tryz.ntmps168;go_wp2_with fail;refine zm HC.out ?_;rintro e w1 ⟨rfl,hD⟩;have HD:=zh hD;clear hD HC;go_wp2_with fail;refine zm HD.out ?_;rintro e w2 ⟨v,rfl,ho,hb2⟩;obtain⟨g,cc,rfl,c0,c1⟩:=z7h ho;have HB:=zh hb2;clear HD ho hb2;go_upto_region 2 with fail
   go_region
   all_goals
    go_wp2_with fail;exact bodyPost_ret_by (results_tmp2 rfl _ _ _) rfl ⟨rfl,z0h HB.out⟩
 ·have hp:p=(0,0):=by
   rw[HP.out];unfold z3d
   match r,h2 with
   | [],_=>rfl
   | [_],_=>rfl
   | _::_::_::_,_=>rfl
  subst hp;have hne:((r.length:Int) != 2)=true:=by simp;omega
  have hne2:((r.length:Int)==2)=false:=beq_eq_false_iff_ne.2 (by omega)
  have HC1:Hid (Calls Tryz.prog 95 #[.int .i64 t,y] w fun e w1=>e= .returned (.string k) /\
   Calls Tryz.prog 98 #[.pointer (some ⟨b,0,none⟩),.string k] w1 fun e w2=>∃ a2 c2,e= .returned (.slice a2 r.length c2)/\Below w.heap.size w w2):=by
   refine HC.out.mono fun e w1 ⟨he,h1⟩=>⟨he,h1.mono fun e w2 ⟨v,he,ho,hb⟩ => ?_⟩
   obtain⟨ad,c,hu,_⟩:=ho.form;subst hu;exact⟨ad,c,he,hb⟩
  clear HC HP h2;generalize r.length=rn at *
  go_enter Tryz.func168,Tryz.ntmps168;go_wp2_with fail;refine zm HC1.out ?_;rintro e w1 ⟨rfl,hD⟩;have HD:=zh hD;clear hD HC1;go_wp2_with fail;refine zm HD.out ?_;rintro e w2 ⟨ad,c,rfl,hb2⟩;have HB:=zh hb2;clear HD hb2;go_upto_region 2 with fail
  go_region
  all_goals
   go_wp2_with fail;exact bodyPost_ret_by (results_tmp2 rfl _ _ _) rfl ⟨rfl,z0h HB.out⟩
theorem zbd(s:St)(t:Nat)(l:List Int):(ends s t l).1<9223372036854775808/\(ends s t l).2<9223372036854775808:=by
 unfold ends z3d;split
 ·rename_i a b h;split
  ·exact⟨zke _ (by rw[h];simp),zke _ (by rw[h];simp)⟩
  ·exact⟨by decide,by decide⟩
 ·exact⟨by decide,by decide⟩
theorem zo7(w:World)(y:Value)(l:List Int)(hy:z0w w y l)(hl0:0<l.length)(hl:l.length<1000000)(hp:∀ n∈l,0<=n):Calls Tryz.prog 232 #[y] w fun e w'=>e= .returned (.bool false)/\w=w':=by
 obtain⟨a,c,rfl,hc⟩:∃ a c,y= .slice (some a) l.length c/\∀ j x,l[j]?=some x->w.cell? (a.add j)=some (.int .i64 x):=by
  rcases hy with⟨_,rfl⟩ | h
  ·cases hl0
  ·exact h
 have HC:Hid (∀ k,k<l.length->∃ n:Int,0<=n/\w.cell? (a.add k)=some (.int .i64 n)):=fun k hk=>⟨l[k],hp _ (List.getElem_mem hk),hc k _ (List.getElem?_eq_getElem hk)⟩
 have hne:((l.length:Int)==0)=false:=beq_eq_false_iff_ne.2 (by omega);clear hc hy hp;generalize l.length=n at *
 go_enter Tryz.func232,Tryz.ntmps232;go_wp2_with fail
 go_loopw [7] (fun i wr=>∃ k:Nat,i= .int .i64 k/\k<=n/\wr=w) (fun i _=>n-(intOf i).toNat)
 case atStart=>exact⟨0,rfl,by omega,rfl⟩
 case round =>
  obtain⟨k,rfl,hk,rfl⟩:=hrel
  by_cases hlt:k<n
  ·obtain⟨m,hm0,hm⟩:=HC.out k hlt;have hd:decide (m<0)=false:=decide_eq_false (by omega);go_wp2_with fail;go_roundw
   case rel=>exact⟨k+1,by go_num,by omega,by trivial⟩
   case measure=>simp[intOf];omega
  ·go_wp2_with fail;go_ret;exact⟨rfl,rfl⟩
theorem zrv(w:World)(b:Nat)(L:List Nat)(s:St)(f t:Nat)(ht1:1<=t)(ht2:t<=255)(y z:Value)(l r:List Int)(most:Nat)(hy:z0w w y l)(hyn:∀ k,y.ownBlock=some k->k∉L)(hl:IdOk l)(hl0:∀ x∈l,0<=x)(hz:z0w w z r)(hzn:∀ k,z.ownBlock=some k->k∉L)
  (hr0:0<r.length) (hr1:r.length<1000) (hr:∀ n∈r,0<=n/\n<9223372036854775808) (hmo:1<=most/\most<1000) (he:(ends s t l).2<4611686018427387904) (hq:RRep w b s L) (hf:s.Fit f) (hm:f<10000000000) :
  Calls Tryz.prog 196 #[.pointer (some ⟨b,0,none⟩),.int .i64 t,y,.int .i64 most,z] w fun e w'=>e= .returned (.int .i64 (z9d s t l most))/\ROn w b L (z2s s t l most r) w':=by
 have hle:=z5o s t l;have hk0:keyL t l≠z05:=z5l t hl0;have hk1:keyL t (l ++ [((ends s t l).2:Int)])≠z05:=z5l t fun x hx=>by
  rcases List.mem_append.1 hx with h1 | h1
  ·exact hl0 x h1
  ·rw[List.mem_singleton]at h1;subst h1;omega
 have hf1:=hf.put (keyL t (l ++ [((ends s t l).2:Int)])) (z15 r (by omega));have hsz:s.size<1000000000000:=Nat.lt_of_le_of_lt hf.size (by omega);have hsz1:(s.put (keyL t (l ++ [((ends s t l).2:Int)])) (rowB r)).size<1000000000000:=Nat.lt_of_le_of_lt hf1.size (by omega);have HKY:Hid (∀ rs W,FV b w L s rs W->Calls Tryz.prog 95 #[.int .i64 t,y] W fun e w'=>e= .returned (.string (keyL t l))/\FV b w L s rs w'):=fun rs W hV=>hV.reads fun L' h1=>z7a t ht1 ht2 _ l W (hV.ints hy hyn) (by have:=hl.len;omega) hl.lt
 have HBD:Hid (∀ rs W,FV b w L s rs W->Calls Tryz.prog 232 #[z] W fun e w'=>e= .returned (.bool false)/\FV b w L s rs w'):=fun rs W hV=>(zo7 W z r (hV.ints hz hzn) hr0 (by omega) (fun n hn=>(hr n hn).1)).mono fun e w' ⟨he,hw⟩=>⟨he,by rw[<- hw];exact hV⟩
 have HEN:Hid (∀ rs W,FV b w L s rs W->Calls Tryz.prog 168 #[.pointer (some ⟨b,0,none⟩),.int .i64 t,y] W fun e w'=>e= .returned (.tuple #[.int .i64 (ends s t l).1,.int .i64 (ends s t l).2])/\FV b w L s rs w'):=fun rs W hV=>hV.reads fun L' h1=>zg9 W b L' s f t ht1 ht2 y l (hV.ints hy hyn) hl h1 hf (by omega)
 have HWT:Hid (∀ rs W,FV b w L s rs W->Calls Tryz.prog 201 #[y,.int .i64 ((ends s t l).2:Int)] W fun e w'=>∃ v,e= .returned v/\z0w w' v (l ++ [((ends s t l).2:Int)])/\FV b w L s rs w'):=fun rs W hV=>(zcy W y l _ (hV.ints hy hyn) hl).mono fun e w' ⟨v,he,hv,hb⟩=>⟨v,he,hv,QV.below hV hb⟩
 have HK2:Hid (∀ rs W v,z0w W v (l ++ [((ends s t l).2:Int)])->FV b w L s rs W->Calls Tryz.prog 95 #[.int .i64 t,v] W fun e w'=>e= .returned (.string (keyL t (l ++ [((ends s t l).2:Int)])))/\FV b w L s rs w'):=fun rs W v hv hV=>hV.reads fun L' h1=>zc2 W t ht1 ht2 v l _ hv hl (show I63 _ from zne (by have:=(zbd s t l).2;omega))
 have HSR:Hid (∀ rs W,FV b w L s rs W->Calls Tryz.prog 187 #[.pointer (some ⟨b,0,none⟩),.string (keyL t (l ++ [((ends s t l).2:Int)])),z] W fun e w'=>e= .returned (.tuple #[])/\FV b w L (s.put (keyL t (l ++ [((ends s t l).2:Int)])) (rowB r)) rs w'):=fun rs W hV=>hV.putRow hsz _ hk1 z r (hV.ints hz hzn) hr1 (fun e=>by rw[e]at hr0;cases hr0) hr
 have HTN:Hid (∀ rs W,FV b w L (s.put (keyL t (l ++ [((ends s t l).2:Int)])) (rowB r)) rs W->Calls Tryz.prog 187 #[.pointer (some ⟨b,0,none⟩),.string (keyL t l),.slice (some ⟨W.heap.size,0,none⟩) 2 2] (W.alloc (.cells #[.int .i64 ((ends s t l).1:Int),.int .i64 (((ends s t l).2:Int)+1)] 3)) fun e w'=>e= .returned (.tuple #[])/\FV b w L (z1m (s.put (keyL t (l ++ [((ends s t l).2:Int)])) (rowB r)) t l ((ends s t l).1:Int) (((ends s t l).2+1:Nat):Int)) rs w'):=fun rs W hV=>by
  have h1:=(QV.alloc hV (.cells #[.int .i64 ((ends s t l).1:Int),.int .i64 (((ends s t l).2:Int)+1)] 3))
  have h2:=FV.putRow h1 hsz1 (keyL t l) hk0 (.slice (some ⟨W.heap.size,0,none⟩) 2 2) [((ends s t l).1:Int),((ends s t l).2:Int)+1] (z2u _ _ _ _ (heap_alloc_new W _)) (by simp) (by simp) (fun n hn=>by
   simp only[List.mem_cons,List.not_mem_nil,or_false]at hn
   rcases hn with rfl | rfl<;>omega)
  have e2:z1m (s.put (keyL t (l ++ [((ends s t l).2:Int)])) (rowB r)) t l ((ends s t l).1:Int) (((ends s t l).2+1:Nat):Int)=(s.put (keyL t (l ++ [((ends s t l).2:Int)])) (rowB r)).put (keyL t l) (rowB [((ends s t l).1:Int),((ends s t l).2:Int)+1]):=by
   unfold z1m;rw[if_neg (by omega)];rfl
  rw[e2];exact h2.mono fun e w' ⟨he,hv⟩=>⟨he,QV.less hv fun _ hx=>List.mem_cons_of_mem _ hx⟩
 have hkl:(keyL t l).toList≠[]:=fun e=>hk0 (by
  have h1:=z4i (keyL t l) z05;rw[e]at h1;have h2:z05.toList = []:=by unfold ByteArray.toList ByteArray.toList.loop;rfl
  rw[h2]at h1
  exact of_decide_eq_true (h1.symm.trans rfl))
 have hke:(keyL t l).toList.isEmpty=false:=by simpa using hkl
 have hd1:decide ((most:Int)<1)=false:=decide_eq_false (by omega);have hlaw:(most<=(ends s t l).2-(ends s t l).1->z9d s t l most=7/\z2s s t l most r=s)/\(¬ most<=(ends s t l).2-(ends s t l).1->z9d s t l most=0/\z2s s t l most r=z1m (s.put (keyL t (l ++ [((ends s t l).2:Int)])) (rowB r)) t l ((ends s t l).1:Int) (((ends s t l).2+1:Nat):Int)):=by
  unfold z9d z2s;exact⟨fun h=>by rw[if_pos h,if_pos h];exact⟨rfl,rfl⟩,fun h=>by rw[if_neg h,if_neg h];exact⟨rfl,rfl⟩⟩
 have HLAW:=zh hlaw;have HV0:=zh (FV.start hq);clear hlaw hq hf hf1 hsz hsz1 hy hz hyn hzn hk0 hk1 hr hr0 hl hl0 hkl;generalize z9d s t l most=rE at *
 generalize z2s s t l most r=rS at *
 generalize z1m (s.put (keyL t (l ++ [((ends s t l).2:Int)])) (rowB r)) t l ((ends s t l).1:Int) (((ends s t l).2+1:Nat):Int)=s2 at *
 generalize s.put (keyL t (l ++ [((ends s t l).2:Int)])) (rowB r)=s1 at *
 generalize keyL t (l ++ [((ends s t l).2:Int)])=k1 at *
 generalize (ends s t l).1=e1 at *
 generalize (ends s t l).2=e2 at *
 generalize keyL t l=kk at *
 go_enter Tryz.func196,Tryz.ntmps196;go_wp2_with fail;refine zm (HKY.out _ _ HV0.out) ?_;rintro e w1 ⟨rfl,hV1⟩;have HV1:=zh hV1;clear hV1 HKY HV0;go_wp2_with fail;refine zm (HBD.out _ _ HV1.out) ?_;rintro e w2 ⟨rfl,hV2⟩;have HV2:=zh hV2;clear hV2 HBD HV1;go_wp2_with fail;refine zm (HEN.out _ _ HV2.out) ?_;rintro e w3 ⟨rfl,hV3⟩;have HV3:=zh hV3;clear hV3 HEN HV2
 by_cases hfull:most<=e2-e1
 ·have hd2:decide ((most:Int)<=(e2:Int)-(e1:Int))=true:=decide_eq_true (by omega);obtain⟨r1,r2⟩:=HLAW.out.1 hfull;have HR:Hid (ROn w b L s w3):=FV.done HV3.out
  rw[<- r2]at HR;have HRE:=zh r1;clear r1 r2 HLAW HV3;go_wp2_with fail;go_ret;exact⟨by rw[HRE.out];rfl,HR.out⟩
 ·have hd2:decide ((most:Int)<=(e2:Int)-(e1:Int))=false:=decide_eq_false (by omega);obtain⟨r1,r2⟩:=HLAW.out.2 hfull;subst r2;have HRE:=zh r1;clear r1 HLAW;go_wp2_with fail;refine zm (HWT.out _ _ HV3.out) ?_;rintro e w4 ⟨v,rfl,hv,hV4⟩;have HV4:=zh hV4;have HIV:=zh hv;clear hV4 hv HWT HV3;go_wp2_with fail;refine zm (HK2.out _ _ _ HIV.out HV4.out) ?_;rintro e w5 ⟨rfl,hV5⟩;have HV5:=zh hV5;clear hV5 HK2 HV4 HIV;go_wp2_with fail;refine zm (HSR.out _ _ HV5.out) ?_;rintro e w6 ⟨rfl,hV6⟩;have HT6:=zh (HTN.out _ _ hV6);clear hV6 HSR HV5 HTN;go_wp2_with fail;refine zm HT6.out ?_;rintro e w7 ⟨rfl,hV7⟩;have HR:Hid (ROn w b L rS w7):=FV.done hV7
  clear hV7 HT6;go_wp2_with fail;go_ret;exact⟨by rw[HRE.out];rfl,HR.out⟩
theorem zrf(w:World)(b:Nat)(L:List Nat)(s:St)(f t:Nat)(ht1:1<=t)(ht2:t<=255)(y:Value)(l:List Int)(hy:z0w w y l)(hl:IdOk l)(hq:RRep w b s L)(hf:s.Fit f)(hm:f<100000000000) :
  Calls Tryz.prog 200 #[.pointer (some ⟨b,0,none⟩),.int .i64 t,y] w fun e w'=>(∃ v,e= .returned (.tuple #[v,.bool (!decide ((ends s t l).1=(ends s t l).2))]))/\Below w.heap.size w w':=by
 have HEN:=zh (zg9 w b L s f t ht1 ht2 y l hy hl hq hf hm);have HWT:Hid (∀ W,Below w.heap.size w W->Calls Tryz.prog 201 #[y,.int .i64 ((ends s t l).1:Int)] W fun e w'=>∃ v,e= .returned v/\z0w w' v (l ++ [((ends s t l).1:Int)])/\Below w.heap.size w w'):=fun W hB=>(zcy W y l _ (hy.below hB) hl).mono fun e w' ⟨v,he,hv,hb⟩=>⟨v,he,hv,z0b hB hb⟩
 have HK2:Hid (∀ W v,z0w W v (l ++ [((ends s t l).1:Int)])->Below w.heap.size w W->Calls Tryz.prog 95 #[.int .i64 t,v] W fun e w'=>e= .returned (.string (keyL t (l ++ [((ends s t l).1:Int)])))/\Below w.heap.size w w'):=fun W v hv hB=>(zc2 W t ht1 ht2 v l _ hv hl (show I63 _ from zne (zbd s t l).1)).mono fun e w' ⟨he,hb⟩=>⟨he,z0b hB hb⟩
 have HRW:Hid (∀ W,Below w.heap.size w W->Calls Tryz.prog 98 #[.pointer (some ⟨b,0,none⟩),.string (keyL t (l ++ [((ends s t l).1:Int)]))] W fun e w'=>(∃ v,e= .returned v)/\Below w.heap.size w w'):=fun W hB=>(zov (hq.below hB) hf hm _).mono fun e w' ⟨v,he,_,_,hb⟩=>⟨⟨v,he⟩,z0b hB hb⟩
 clear hq hf hy hl;generalize keyL t (l ++ [((ends s t l).1:Int)])=k1 at *
 generalize (ends s t l).1=e1 at *
 generalize (ends s t l).2=e2 at *
 by_cases h:e1=e2
 ·have hd:decide (e1=e2)=true:=decide_eq_true h;have hd2:((e1:Int)==(e2:Int))=true:=by rw[h];simp
  rw[hd];clear h hd;go_enter Tryz.func200,Tryz.ntmps200;go_wp2_with fail;refine zm HEN.out ?_;rintro e w1 ⟨rfl,hb1⟩;have HB:=zh hb1;clear hb1 HEN;go_wp2_with fail;exact bodyPost_ret_by (results_tmp2 rfl _ _ _) rfl ⟨⟨_,rfl⟩,HB.out⟩
 ·have hd:decide (e1=e2)=false:=decide_eq_false h;have hd2:((e1:Int)==(e2:Int))=false:=beq_eq_false_iff_ne.2 (by omega);have hd3:(e1=e2)=False:=eq_false h;rw[hd];clear h hd;go_enter Tryz.func200,Tryz.ntmps200;go_wp2_with fail;refine zm HEN.out ?_;rintro e w1 ⟨rfl,hb1⟩;have HB:=zh hb1;clear hb1 HEN;go_wp2_with fail;refine zm (HWT.out _ HB.out) ?_;rintro e w2 ⟨v,rfl,hv,hb2⟩;have HB2:=zh hb2;have HIV:=zh hv;clear hb2 hv HWT HB;go_wp2_with fail;refine zm (HK2.out _ _ HIV.out HB2.out) ?_;rintro e w3 ⟨rfl,hb3⟩;have HB3:=zh hb3;clear hb3 HK2 HB2 HIV;go_wp2_with fail;refine zm (HRW.out _ HB3.out) ?_;rintro e w4 ⟨⟨v4,rfl⟩,hb4⟩;have HB4:=zh hb4;clear hb4 HRW HB3;go_wp2_with fail;exact bodyPost_ret_by (results_tmp2 rfl _ _ _) rfl ⟨⟨_,rfl⟩,HB4.out⟩
theorem zwv:rowB []=z05:=rfl
theorem zvu(s:St)(t:Nat)(l:List Int):((ends s t l).1=(ends s t l).2->z3o s t l=s)/\(¬ (ends s t l).1=(ends s t l).2->((ends s t l).1+1=(ends s t l).2->z3o s t l=(s.del (keyL t (l ++ [((ends s t l).1:Int)]))).del (keyL t l))/\(¬ (ends s t l).1+1=(ends s t l).2->z3o s t l=(s.del (keyL t (l ++ [((ends s t l).1:Int)]))).put (keyL t l) (rowB [((ends s t l).1:Int)+1,((ends s t l).2:Int)]))):=by
 have hle:=z5o s t l;unfold z3o;refine⟨fun h=>by rw[if_pos (by omega)],fun h => ?_⟩;rw[if_neg (by omega)];unfold z1m;refine⟨fun h2 => ?_,fun h2 => ?_⟩
 ·rw[if_pos (by omega),zwv,<- zz6]
 ·rw[if_neg (by omega)];rfl
theorem zvt(w:World)(b:Nat)(L:List Nat)(s:St)(f t:Nat)(ht1:1<=t)(ht2:t<=255)(y:Value)(l:List Int)(hy:z0w w y l)(hyn:∀ k,y.ownBlock=some k->k∉L)(hl:IdOk l)(hl0:∀ x∈l,0<=x)(he:(ends s t l).2<4611686018427387904)(hq:RRep w b s L)(hf:s.Fit f)(hm:f<10000000000) :
  Calls Tryz.prog 135 #[.pointer (some ⟨b,0,none⟩),.int .i64 t,y] w fun e w'=>(∃ v ok,e= .returned (.tuple #[v,.bool ok]))/\ROn w b L (z3o s t l) w':=by
 have hle:=z5o s t l;have hk0:keyL t l≠z05:=z5l t hl0;have hf1:=zdf hf (keyL t (l ++ [((ends s t l).1:Int)]));have hsz:s.size<1000000000000:=Nat.lt_of_le_of_lt hf.size (by omega);have hsz1:(s.del (keyL t (l ++ [((ends s t l).1:Int)]))).size<1000000000000:=Nat.lt_of_le_of_lt hf1.size (by omega);have HPK:Hid (Calls Tryz.prog 200 #[.pointer (some ⟨b,0,none⟩),.int .i64 t,y] w fun e w'=>(∃ v,e= .returned (.tuple #[v,.bool (!decide ((ends s t l).1=(ends s t l).2))]))/\FV b w L s [] w'):=(zrf w b L s f t ht1 ht2 y l hy hl hq hf (by omega)).mono fun e w' ⟨he,hb⟩=>⟨he,QV.below (FV.start hq) hb⟩
 have HEN:Hid (∀ rs W,FV b w L s rs W->Calls Tryz.prog 168 #[.pointer (some ⟨b,0,none⟩),.int .i64 t,y] W fun e w'=>e= .returned (.tuple #[.int .i64 (ends s t l).1,.int .i64 (ends s t l).2])/\FV b w L s rs w'):=fun rs W hV=>hV.reads fun L' h1=>zg9 W b L' s f t ht1 ht2 y l (hV.ints hy hyn) hl h1 hf (by omega)
 have HWT:Hid (∀ rs W,FV b w L s rs W->Calls Tryz.prog 201 #[y,.int .i64 ((ends s t l).1:Int)] W fun e w'=>∃ v,e= .returned v/\z0w w' v (l ++ [((ends s t l).1:Int)])/\FV b w L s rs w'):=fun rs W hV=>(zcy W y l _ (hV.ints hy hyn) hl).mono fun e w' ⟨v,he,hv,hb⟩=>⟨v,he,hv,QV.below hV hb⟩
 have HK2:Hid (∀ rs W v,z0w W v (l ++ [((ends s t l).1:Int)])->FV b w L s rs W->Calls Tryz.prog 95 #[.int .i64 t,v] W fun e w'=>e= .returned (.string (keyL t (l ++ [((ends s t l).1:Int)])))/\FV b w L s rs w'):=fun rs W v hv hV=>hV.reads fun L' h1=>zc2 W t ht1 ht2 v l _ hv hl (show I63 _ from zne (zbd s t l).1)
 have HDL:Hid (∀ rs W,FV b w L s rs W->Calls Tryz.prog 136 #[.pointer (some ⟨b,0,none⟩),.string (keyL t (l ++ [((ends s t l).1:Int)]))] W fun e w'=>(∃ d,e= .returned (.bool d))/\FV b w L (s.del (keyL t (l ++ [((ends s t l).1:Int)]))) rs w'):=fun rs W hV=>hV.del hsz _
 have HKY:Hid (∀ rs W,FV b w L (s.del (keyL t (l ++ [((ends s t l).1:Int)]))) rs W->Calls Tryz.prog 95 #[.int .i64 t,y] W fun e w'=>e= .returned (.string (keyL t l))/\FV b w L (s.del (keyL t (l ++ [((ends s t l).1:Int)]))) rs w'):=fun rs W hV=>hV.reads fun L' h1=>z7a t ht1 ht2 _ l W (hV.ints hy hyn) (by have:=hl.len;omega) hl.lt
 have HD2:Hid (∀ rs W,FV b w L (s.del (keyL t (l ++ [((ends s t l).1:Int)]))) rs W->Calls Tryz.prog 136 #[.pointer (some ⟨b,0,none⟩),.string (keyL t l)] W fun e w'=>(∃ d,e= .returned (.bool d))/\FV b w L ((s.del (keyL t (l ++ [((ends s t l).1:Int)]))).del (keyL t l)) rs w'):=fun rs W hV=>hV.del hsz1 _
 have HTN:Hid (∀ rs W,FV b w L (s.del (keyL t (l ++ [((ends s t l).1:Int)]))) rs W->Calls Tryz.prog 187 #[.pointer (some ⟨b,0,none⟩),.string (keyL t l),.slice (some ⟨W.heap.size,0,none⟩) 2 2] (W.alloc (.cells #[.int .i64 (((ends s t l).1:Int)+1),.int .i64 ((ends s t l).2:Int)] 3)) fun e w'=>e= .returned (.tuple #[])/\FV b w L ((s.del (keyL t (l ++ [((ends s t l).1:Int)]))).put (keyL t l) (rowB [((ends s t l).1:Int)+1,((ends s t l).2:Int)])) rs w'):=fun rs W hV=>by
  have h1:=(QV.alloc hV (.cells #[.int .i64 (((ends s t l).1:Int)+1),.int .i64 ((ends s t l).2:Int)] 3))
  have h2:=FV.putRow h1 hsz1 (keyL t l) hk0 (.slice (some ⟨W.heap.size,0,none⟩) 2 2) [((ends s t l).1:Int)+1,((ends s t l).2:Int)] (z2u _ _ _ _ (heap_alloc_new W _)) (by simp) (by simp) (fun n hn=>by
   simp only[List.mem_cons,List.not_mem_nil,or_false]at hn
   rcases hn with rfl | rfl<;>omega)
  exact h2.mono fun e w' ⟨he,hv⟩=>⟨he,QV.less hv fun _ hx=>List.mem_cons_of_mem _ hx⟩
 have HLAW:=zh (zvu s t l);clear hq hf hf1 hsz hsz1 hy hyn hk0 hl hl0;generalize z3o s t l=rS at *
 generalize (s.del (keyL t (l ++ [((ends s t l).1:Int)]))).put (keyL t l) (rowB [((ends s t l).1:Int)+1,((ends s t l).2:Int)])=s3 at *
 generalize (s.del (keyL t (l ++ [((ends s t l).1:Int)]))).del (keyL t l)=s2 at *
 generalize s.del (keyL t (l ++ [((ends s t l).1:Int)]))=s1 at *
 generalize keyL t (l ++ [((ends s t l).1:Int)])=k1 at *
 generalize (ends s t l).1=e1 at *
 generalize (ends s t l).2=e2 at *
 generalize keyL t l=kk at *
 by_cases h:e1=e2
 ·have hd:decide (e1=e2)=true:=decide_eq_true h;rw[hd]at HPK;have hr:=HLAW.out.1 h;subst hr;clear HLAW h hd;go_enter Tryz.func135,Tryz.ntmps135;go_wp2_with fail;refine zm HPK.out ?_;rintro e w1 ⟨⟨v,rfl⟩,hV1⟩;have HR:Hid (ROn w b L rS w1):=FV.done hV1
  clear hV1 HPK;go_wp2_with fail;exact bodyPost_ret_by (results_tmp2 rfl _ _ _) rfl ⟨⟨_,_,rfl⟩,HR.out⟩
 ·have hd:decide (e1=e2)=false:=decide_eq_false h;rw[hd]at HPK
  by_cases h2:e1+1=e2
  ·have hr:=(HLAW.out.2 h).1 h2;subst hr;have hd2:((e1:Int)+1==(e2:Int))=true:=by rw[beq_iff_eq];omega
   clear HLAW h hd HTN;go_enter Tryz.func135,Tryz.ntmps135;go_wp2_with fail;refine zm HPK.out ?_;rintro e w1 ⟨⟨v,rfl⟩,hV1⟩;have HV1:=zh hV1;clear hV1 HPK;go_wp2_with fail;refine zm (HEN.out _ _ HV1.out) ?_;rintro e w2 ⟨rfl,hV2⟩;have HV2:=zh hV2;clear hV2 HEN HV1;go_wp2_with fail;refine zm (HWT.out _ _ HV2.out) ?_;rintro e w3 ⟨v3,rfl,hv,hV3⟩;have HV3:=zh hV3;have HIV:=zh hv;clear hV3 hv HWT HV2;go_wp2_with fail;refine zm (HK2.out _ _ _ HIV.out HV3.out) ?_;rintro e w4 ⟨rfl,hV4⟩;have HV4:=zh hV4;clear hV4 HK2 HV3 HIV;go_wp2_with fail;refine zm (HDL.out _ _ HV4.out) ?_;rintro e w5 ⟨⟨d5,rfl⟩,hV5⟩;have HV5:=zh hV5;clear hV5 HDL HV4;go_wp2_with fail;refine zm (HKY.out _ _ HV5.out) ?_;rintro e w6 ⟨rfl,hV6⟩;have HV6:=zh hV6;clear hV6 HKY HV5;go_wp2_with fail;refine zm (HD2.out _ _ HV6.out) ?_;rintro e w7 ⟨⟨d7,rfl⟩,hV7⟩;have HR:Hid (ROn w b L rS w7):=FV.done hV7
   clear hV7 HD2 HV6;go_wp2_with fail;exact bodyPost_ret_by (results_tmp2 rfl _ _ _) rfl ⟨⟨_,_,rfl⟩,HR.out⟩
  ·have hr:=(HLAW.out.2 h).2 h2;subst hr;have hd2:((e1:Int)+1==(e2:Int))=false:=beq_eq_false_iff_ne.2 (by omega);clear HLAW h hd HD2;go_enter Tryz.func135,Tryz.ntmps135;go_wp2_with fail;refine zm HPK.out ?_;rintro e w1 ⟨⟨v,rfl⟩,hV1⟩;have HV1:=zh hV1;clear hV1 HPK;go_wp2_with fail;refine zm (HEN.out _ _ HV1.out) ?_;rintro e w2 ⟨rfl,hV2⟩;have HV2:=zh hV2;clear hV2 HEN HV1;go_wp2_with fail;refine zm (HWT.out _ _ HV2.out) ?_;rintro e w3 ⟨v3,rfl,hv,hV3⟩;have HV3:=zh hV3;have HIV:=zh hv;clear hV3 hv HWT HV2;go_wp2_with fail;refine zm (HK2.out _ _ _ HIV.out HV3.out) ?_;rintro e w4 ⟨rfl,hV4⟩;have HV4:=zh hV4;clear hV4 HK2 HV3 HIV;go_wp2_with fail;refine zm (HDL.out _ _ HV4.out) ?_;rintro e w5 ⟨⟨d5,rfl⟩,hV5⟩;have HV5:=zh hV5;clear hV5 HDL HV4;go_wp2_with fail;refine zm (HKY.out _ _ HV5.out) ?_;rintro e w6 ⟨rfl,hV6⟩;have HT6:=zh (HTN.out _ _ hV6);clear hV6 HKY HV5 HTN;go_wp2_with fail;refine zm HT6.out ?_;rintro e w7 ⟨rfl,hV7⟩;have HR:Hid (ROn w b L rS w7):=FV.done hV7
   clear hV7 HT6;go_wp2_with fail;exact bodyPost_ret_by (results_tmp2 rfl _ _ _) rfl ⟨⟨_,_,rfl⟩,HR.out⟩
end Go.Proofs.YtnkilceibkkjlaaGreat
