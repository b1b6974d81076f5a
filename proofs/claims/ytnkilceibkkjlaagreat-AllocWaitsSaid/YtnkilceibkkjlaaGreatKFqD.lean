/- What is proved here: fifo.Push, Peek, Pop and Len, over a -/
import Derived.Test.YtnkilceibkkjlaaGreatKAllocW
set_option maxRecDepth 100000
set_option maxHeartbeats 16000000
namespace Go.Proofs.YtnkilceibkkjlaaGreat
open Go.RowKit
theorem HV.ints{h:Hand}{w W:World}{s:St}{rs:List (Nat × Obj)}(hV:HV h w s rs W){y:Value}{l:List Int}(hy:z0w w y l)(hn:∀ k,y.ownBlock=some k->k∉h.L):z0w W y l:=by
 obtain⟨L',_,st⟩:=QV.done hV
 rcases hy with⟨rfl,rfl⟩ | ⟨a,c,rfl,hc⟩
 ·exact .inl ⟨rfl,rfl⟩
 ·refine .inr ⟨a,c,rfl,fun j x hx => ?_⟩;have h0:=hc j x hx;have hlt:=World.block_lt_of_cell? w _ h0;have hb:(a.add j).block=a.block:=by simp[Addr.add];split<;>rfl
  rw[hb]at hlt;rw[World.cell?_of_block (w:=w) (a:=a.add j) (by rw[hb];exact st.fr.block _ hlt (hn _ rfl))];exact h0
theorem HV.lie{h:Hand}{w W:World}{s:St}{rs:List (Nat × Obj)}(hV:HV h w s rs W){g:Nat}{l:List Int}(hy:zce w g l)(hn:g∉h.L):zce W g l:=by
 obtain⟨L',_,st⟩:=QV.done hV
 intro j x hx;have h0:=hy j x hx;have hlt:=World.block_lt_of_cell? w _ h0;rw[World.cell?_of_block (w:=w) (a:=⟨g,j,none⟩) (st.fr.block _ hlt hn)];exact h0
def z9d(s:St)(t:Nat)(l:List Int)(most:Nat):Int:=if most<=(ends s t l).2-(ends s t l).1 then 7 else 0
def z2s(s:St)(t:Nat)(l:List Int)(most:Nat)(r:List Int):St:=if most<=(ends s t l).2-(ends s t l).1 then s else z1m (s.put (keyL t (l ++ [((ends s t l).2:Int)])) (rowB r)) t l ((ends s t l).1:Int) (((ends s t l).2+1:Nat):Int)
theorem z5o(s:St)(t:Nat)(l:List Int):(ends s t l).1<=(ends s t l).2:=by
 unfold ends z3d;split
 ·split
  ·assumption
  ·exact Nat.le_refl _
 ·exact Nat.le_refl _
theorem zrp(t:Nat)(ht1:1<=t)(ht2:t<=255)(w:World)(h:Hand)(s:St)(f:Nat)(ad:Option Addr)(c:Nat)(l:List Int)(most g c2:Nat)(r:List Int)(hon:h.on=true)(hq:QSt w h s)(hf:s.Fit f)(hm:f<10000000000)(hy:z0w w (.slice ad l.length c) l)(hl:IdOk l)(hl0:∀ x∈l,0<=x)(hyn:∀ k,(Value.slice ad l.length c).ownBlock=some k->k∉h.L)
  (hz:zce w g r) (hgn:g∉h.L) (hr0:0<r.length) (hr1:r.length<1000) (hr:∀ n∈r,0<=n/\n<9223372036854775808) (hmo:1<=most/\most<1000) (he:(ends s t l).2<4611686018427387904) :
  Calls Tryz.prog 145 #[.pointer h.ptr,.int .i64 t,.slice ad l.length c,.int .i64 most,.slice (some ⟨g,0,none⟩) r.length c2] w fun e w'=>e= .returned (.int .i64 (z9d s t l most))/\QOn w h (z2s s t l most r) w':=by
 have hle:=z5o s t l;have HOF:Hid (Calls Tryz.prog 138 #[.pointer h.ptr,.int .i64 t,.slice ad l.length c] w fun e w'=>e= .returned (.agg (qL h.ptr t (.slice ad l.length c) (ends s t l).1 (ends s t l).2))/\HV h w s [] w'):=HV.reads (HV.start hq) fun L' h1=>zk4 w h.ptr s t ht1 ht2 ad c l hy (by have:=hl.len;omega) hl.lt (h1.read hf (by omega))
 have HMD:Hid (∀ rs W,HV h w s rs W->Calls Tryz.prog 66 #[.pointer h.ptr] W fun e w'=>e= .returned (.bool true)/\HV h w s rs w'):=fun rs W hV=>hV.reads fun L' h1=>zw4 W ⟨h.ptr,h.on,L'⟩ s hon h1
 have HKY:Hid (∀ rs W,HV h w s rs W->Calls Tryz.prog 90 #[.int .i64 t,.slice ad l.length c] W fun e w'=>e= .returned (.string (keyL t l))/\HV h w s rs w'):=fun rs W hV=>hV.reads fun L' h1=>z5g t ht1 ht2 _ l W (hV.ints hy hyn) (by have:=hl.len;omega) hl.lt
 have HGD:Hid (∀ rs W,HV h w s rs W->Calls Tryz.prog 205 #[.slice (some ⟨g,0,none⟩) r.length c2] W fun e w'=>e= .returned (.bool true)/\HV h w s rs w'):=fun rs W hV=>(zi5 W g c2 r hr0 (by omega) (hV.lie hz hgn) (fun n hn=>(hr n hn).1)).mono fun e w' ⟨he,hw⟩=>⟨he,by rw[<- hw];exact hV⟩
 have HLN:Hid (∀ rs W,HV h w s rs W->Calls Tryz.prog 139 #[.agg (qL h.ptr t (.slice ad l.length c) (ends s t l).1 (ends s t l).2)] W fun e w'=>e= .returned (.int .i64 (((ends s t l).2-(ends s t l).1:Nat):Int))/\HV h w s rs w'):=fun rs W hV=>hV.reads fun L' h1=>zfx W h.ptr t _ _ _ hle (by omega)
 have HAT:Hid (∀ rs W,HV h w s rs W->Calls Tryz.prog 152 #[.agg (qL h.ptr t (.slice ad l.length c) (ends s t l).1 (ends s t l).2),.int .i64 ((ends s t l).2:Int)] W fun e w'=>e= .returned (.string (keyL t (l ++ [((ends s t l).2:Int)])))/\HV h w s rs w'):=fun rs W hV=>hV.reads fun L' h1=>zg8 t ht1 ht2 W h.ptr _ l _ _ _ (hV.ints hy hyn) hl (by unfold I63;omega)
 have hk0:keyL t l≠z05:=z5l t hl0;have hf1:=hf.put (keyL t (l ++ [((ends s t l).2:Int)])) (z15 r (by omega));have hsz:s.size<1000000000000:=Nat.lt_of_le_of_lt hf.size (by omega);have hsz1:(s.put (keyL t (l ++ [((ends s t l).2:Int)])) (rowB r)).size<1000000000000:=Nat.lt_of_le_of_lt hf1.size (by omega);have HSR:Hid (∀ rs W,HV h w s rs W->Calls Tryz.prog 107 #[.pointer h.ptr,.string (keyL t (l ++ [((ends s t l).2:Int)])),.slice (some ⟨g,0,none⟩) r.length c2] W fun e w'=>e= .returned (.tuple #[])/\HV h w (s.put (keyL t (l ++ [((ends s t l).2:Int)])) (rowB r)) rs w'):=fun rs W hV=>QV.call hV fun L' h1=>zbz W ⟨h.ptr,h.on,L'⟩ s _ _ r hon h1 hsz ((hV.lie hz hgn).ints c2) (by omega) (by intro e;rw[e]at hr0;exact absurd hr0 (by decide)) hr
 have HTN:Hid (∀ rs W,HV h w (s.put (keyL t (l ++ [((ends s t l).2:Int)])) (rowB r)) rs W->Calls Tryz.prog 153 #[.agg (qL h.ptr t (.slice ad l.length c) (ends s t l).1 (ends s t l).2),.agg #[.int .i64 ((ends s t l).1:Int),.int .i64 (((ends s t l).2:Int)+1)]] W fun e w'=>e= .returned (.tuple #[])/\HV h w (z1m (s.put (keyL t (l ++ [((ends s t l).2:Int)])) (rowB r)) t l ((ends s t l).1:Int) (((ends s t l).2+1:Nat):Int)) rs w'):=fun rs W hV=>QV.call hV fun L' h1=>zkh t ht1 ht2 W ⟨h.ptr,h.on,L'⟩ _ _ l _ _ _ _ hon h1 hsz1 (hV.ints hy hyn) hl (by unfold I63;omega) (by unfold I63;omega)
 have hkl:(keyL t l).toList≠[]:=fun e=>hk0 (by
  have h1:=z4i (keyL t l) z05;rw[e]at h1;have h2:z05.toList = []:=by unfold ByteArray.toList ByteArray.toList.loop;rfl
  rw[h2]at h1
  exact of_decide_eq_true (h1.symm.trans rfl))
 have hke:(keyL t l).toList.isEmpty=false:=by simpa using hkl
 have hd1:decide ((most:Int)<1)=false:=decide_eq_false (by omega);have hlaw:(most<=(ends s t l).2-(ends s t l).1->z9d s t l most=7/\z2s s t l most r=s)/\(¬ most<=(ends s t l).2-(ends s t l).1->z9d s t l most=0/\z2s s t l most r=z1m (s.put (keyL t (l ++ [((ends s t l).2:Int)])) (rowB r)) t l ((ends s t l).1:Int) (((ends s t l).2+1:Nat):Int)):=by
  unfold z9d z2s;exact⟨fun h=>by rw[if_pos h,if_pos h];exact⟨rfl,rfl⟩,fun h=>by rw[if_neg h,if_neg h];exact⟨rfl,rfl⟩⟩
 have HLAW:=zh hlaw;clear hlaw;generalize z9d s t l most=rE at *
 generalize z2s s t l most r=rS at *
 clear hq hf hf1 hsz hsz1 hy hz hyn hgn hk0 hr hr0 hl hl0;generalize z1m (s.put (keyL t (l ++ [((ends s t l).2:Int)])) (rowB r)) t l ((ends s t l).1:Int) (((ends s t l).2+1:Nat):Int)=s2 at *
 generalize s.put (keyL t (l ++ [((ends s t l).2:Int)])) (rowB r)=s1 at *
 generalize keyL t (l ++ [((ends s t l).2:Int)])=k1 at *
 generalize (ends s t l).1=e1 at *
 generalize (ends s t l).2=e2 at *
 generalize keyL t l=kk at *
 generalize l.length=nl at *
 generalize r.length=nr at *
 go_enter Tryz.func145,Tryz.ntmps145;go_wp2_with fail;refine zm HOF.out ?_;rintro e w1 ⟨rfl,hV1⟩;have hV2:=hV1.alloc (qO h.ptr t (.slice ad nl c) e1 e2);clear hV1 HOF;go_upto_region 2 with fail;generalize w1.alloc (qO h.ptr t (.slice ad nl c) e1 e2)=w2 at *
 generalize w1.heap.size=g1 at *
 have HV2:=zh hV2;clear hV2;go_wp2_with fail;refine zm (HMD.out _ _ HV2.out) ?_;rintro e w3 ⟨rfl,hV3⟩;have HV3:=zh hV3;clear hV3 HV2 HMD;go_wp2_with fail;refine zm (HKY.out _ _ HV3.out) ?_;rintro e w4 ⟨rfl,hV4⟩;have HV4:=zh hV4;clear hV4 HV3 HKY;go_wp2_with fail;refine zm (HGD.out _ _ HV4.out) ?_;rintro e w5 ⟨rfl,hV5⟩;obtain⟨c0,c1,c2',c3,c4⟩:=z9c (q:=h.ptr) (t:=t) (v:=.slice ad nl c) (a:=e1) (b:=e2) (hV5.row (g:=g1) (by simp));have HV5:=zh hV5;clear hV5 HV4 HGD;go_wp2_with fail;refine zm (HLN.out _ _ HV5.out) ?_;rintro e w6 ⟨rfl,hV6⟩;clear HV5 HLN c0 c1 c2' c3 c4
 by_cases hfull:most<=e2-e1
 ·have hd2:decide ((most:Int)<=((e2-e1:Nat):Int))=true:=decide_eq_true (by omega);have HR:Hid (QOn w h s w6):=HV.done hV6
  obtain⟨r1,r2⟩:=HLAW.out.1 hfull;rw[<- r2]at HR;have HRE:=zh r1;clear hV6 r1 r2 HLAW;go_wp2_with fail;go_ret;exact⟨by rw[HRE.out];rfl,HR.out⟩
 ·have hd2:decide ((most:Int)<=((e2-e1:Nat):Int))=false:=decide_eq_false (by omega);obtain⟨r1,r2⟩:=HLAW.out.2 hfull;have HRE:=zh (And.intro r1 r2);clear r1 r2 HLAW;obtain⟨c0,c1,c2',c3,c4⟩:=z9c (q:=h.ptr) (t:=t) (v:=.slice ad nl c) (a:=e1) (b:=e2) (hV6.row (g:=g1) (by simp));have HV6:=zh hV6;clear hV6;go_wp2_with fail;refine zm (HAT.out _ _ HV6.out) ?_;rintro e w7 ⟨rfl,hV7⟩;have HV7:=zh hV7;clear hV7 HV6 HAT c0 c1 c2' c3 c4;go_wp2_with fail;refine zm (HSR.out _ _ HV7.out) ?_;rintro e w8 ⟨rfl,hV8⟩;obtain⟨c0,c1,c2',c3,c4⟩:=z9c (q:=h.ptr) (t:=t) (v:=.slice ad nl c) (a:=e1) (b:=e2) (hV8.row (g:=g1) (by simp));have HV8:=zh hV8;clear hV8 HV7 HSR;go_wp2_with fail;refine zm (HTN.out _ _ HV8.out) ?_;rintro e w9 ⟨rfl,hV9⟩;have HR:Hid (QOn w h s2 w9):=HV.done hV9
  clear hV9 HV8 HTN c0 c1 c2' c3 c4;go_wp2_with fail;go_ret;exact⟨by rw[HRE.out.1];rfl,by rw[HRE.out.2];exact HR.out⟩
theorem Und.zys{s s':St}(h:Und s s'/\Sorted s'.ents)(k v:ByteArray):Und s (s'.put k v)/\Sorted (s'.put k v).ents:=⟨h.1.put h.2 k v,z6u h.2 k v⟩
def Hand.ad2(h:Hand)(s:St)(x:Ex):St:=h.zzy (zxg s x) (keyL 19 [x.sg]) x.wo
def Hand.adN(h:Hand)(s:St)(x:Ex):Int:=(((h.ad2 s x).int (keyL 14 []):Nat):Int)+1
def Hand.ad3(h:Hand)(s:St)(x:Ex):St:=(h.ad2 s x).z2r (keyL 14 []) (h.adN s x)
def Hand.ad4(h:Hand)(s:St)(x:Ex):St:=(h.ad3 s x).put (keyL 15 [h.adN s x]) (rowB [x.st,x.op,x.sg,x.bl])
def Hand.ad5(h:Hand)(s:St)(x:Ex):St:=(h.ad4 s x).z09 (keyL 17 [h.adN s x]) x.wo
def Hand.ad6(h:Hand)(s:St)(x:Ex):St:=(h.ad5 s x).z09 (keyL 18 [h.adN s x]) x.mx
def Hand.ad7(h:Hand)(s:St)(x:Ex):St:=(h.ad6 s x).z2r (keyL 20 [x.st]) ((((h.ad6 s x).int (keyL 20 [x.st]):Nat):Int)+1)
theorem zqf:∀ (l1 l2:List UInt8) (x y:Nat),l1.length=l2.length->l1.foldl (fun x b=>x*256+b.toNat) x=l2.foldl (fun x b=>x*256+b.toNat) y->x=y/\l1=l2
 | [],[],x,y,_,h=>⟨h,rfl⟩
 | [],_::_,_,_,hl,_=>by simp at hl
 | _::_,[],_,_,hl,_=>by simp at hl
 | a::l1,b::l2,x,y,hl,h=>by
  simp only[List.foldl_cons]at h
  obtain⟨h1,h2⟩:=zqf l1 l2 _ _ (by simpa using hl) h
  have ha:=UInt8.toNat_lt a
  have hb:=UInt8.toNat_lt b
  have hab:a.toNat=b.toNat:=by omega
  exact⟨by omega,by rw[h2,UInt8.toNat_inj.1 hab]⟩
theorem zxq{r:List UInt8}(hl:r.length=8)(hb:be r<9223372036854775808):be8 (be r)=r:=by
 have h2:=z6b (be r) hb;rw[zdm,z3q _ (by rw[z5z];omega),List.take_of_length_le (by rw[z5z];omega),List.drop_of_length_le (by rw[z5z];omega)]at h2;split at h2
 ·simp[numsL]at h2;exact((zqf r (be8 (be r)) 0 0 (by rw[z5z];omega) h2.symm).2).symm
 ·cases h2
theorem zq2{x y:Nat}(hx:x<9223372036854775808)(hy:y<9223372036854775808)(h:be8 x=be8 y):x=y:=by
 have h1:=z6b x hx;have h2:=z6b y hy;rw[zdm]at h1 h2;rw[h,h2]at h1;injection h1 with h1;injection h1 with h1;exact h1.symm
theorem zco:∀ (ns:List Nat) (r:List UInt8),numsL r=some ns->r=ns.flatMap be8/\∀ x∈ns,x<9223372036854775808
 | [],r,h=>by
  have hl:=zcq r.length r [] (Nat.le_refl _) h
  simp at hl
  subst hl
  exact⟨rfl,fun x hx=>by cases hx⟩
 | n::ns,r,h=>by
  have hl:=zcq r.length r (n::ns) (Nat.le_refl _) h
  simp at hl
  rw[z3q _ (by omega)]at h
  split at h
  ·next hb =>
   rw[Option.map_eq_some_iff]at h
   obtain⟨ms,hm,e⟩:=h
   injection e with e1 e2
   subst e1
   subst e2
   obtain⟨h1,h2⟩:=zco _ _ hm
   refine⟨?_,fun x hx => ?_⟩
   ·rw[List.flatMap_cons,<- h1,zxq (by rw[List.length_take];omega) hb,List.take_append_drop]
   ·rcases List.mem_cons.1 hx with rfl | hx
    ·exact hb
    ·exact h2 x hx
  ·cases h
def z6l(ns:List Nat):List Int:=ns.map fun (n:Nat)=>(n:Int)
theorem z3v(t:Nat)(ns:List Nat):(keyL t (z6l ns)).data.toList=UInt8.ofNat t::ns.flatMap be8:=by
 rw[z9k (by intro x hx;obtain⟨n,_,rfl⟩:=List.mem_map.1 hx;omega)];simp[keyBytes,z6l,List.flatMap_map]
theorem zq4{k:ByteArray}{t:Nat}{ns:List Nat}(h:z2c k=some (t,ns)):k=keyL t (z6l ns)/\∀ x∈ns,x<9223372036854775808:=by
 unfold z2c at h;cases hk:k.data.toList with
 | nil=>rw[hk]at h;cases h
 | cons b r =>
  rw[hk]at h;have h':(if b=0 then none else(numsL r).map fun ns=>(b.toNat,ns))=some (t,ns):=h;split at h'
  ·cases h'
  ·rw[Option.map_eq_some_iff]at h';obtain⟨ms,hm,e⟩:=h';injection e with e1 e2;subst e1;subst e2;obtain⟨h1,h2⟩:=zco _ _ hm;refine⟨?_,h2⟩;have:k.data.toList=(keyL b.toNat (z6l ms)).data.toList:=by rw[z3v,hk,<- h1,UInt8.ofNat_toNat]
   exact congrArg ByteArray.mk (Array.toList_inj.1 this)
theorem zke{v:ByteArray}:∀ n∈rowOf v,n<9223372036854775808:=fun n hn=>by
 unfold rowOf at hn
 cases hx:numsL v.data.toList with
 | none=>rw[hx]at hn;cases hn
 | some ns=>rw[hx]at hn;exact(zco _ _ hx).2 n hn
theorem zug(w:World)(h:Hand)(s:St)(k:ByteArray)(hon:h.on=true)(hq:QSt w h s)(hz:s.size<1000000000000) :
  Calls Tryz.prog 85 #[.pointer h.ptr,.string k] w fun e w'=>e= .returned (.bool (getE s.ents k).isSome)/\QOn w h (s.del k) w':=by
 rcases hq with⟨_,b,hp,hS⟩ | ⟨h0,_⟩
 ·rw[hp];exact(zeh w b s h.L k hS hz).mono fun e w' ⟨he,L',h1,h2⟩=>⟨he,L',.inl ⟨hon,b,hp,h1⟩,h2⟩
 ·rw[hon]at h0;cases h0
theorem zdf{s:St}{f:Nat}(hf:s.Fit f)(k:ByteArray):(s.del k).Fit (f+2):=by
 have:=hf.put k (v:=z05) (by decide);unfold St.put at this
 rwa [if_pos rfl]at this
theorem ztl(t:Nat)(ht1:1<=t)(ht2:t<=255)(w:World)(h:Hand)(s:St)(f:Nat)(ad:Option Addr)(c:Nat)(l:List Int)(hq:QSt w h s)(hf:s.Fit f)(hm:f<10000000000)(hy:z0w w (.slice ad l.length c) l)(hl:IdOk l)(hyn:∀ k,(Value.slice ad l.length c).ownBlock=some k->k∉h.L)(he:(ends s t l).2<4611686018427387904) :
  Calls Tryz.prog 151 #[.pointer h.ptr,.int .i64 t,.slice ad l.length c] w fun e w'=>(∃ v,e= .returned (.tuple #[v,.bool (!decide ((ends s t l).2-(ends s t l).1=0))]))/\HV h w s [] w':=by
 have hle:=z5o s t l;have HOF:Hid (Calls Tryz.prog 138 #[.pointer h.ptr,.int .i64 t,.slice ad l.length c] w fun e w'=>e= .returned (.agg (qL h.ptr t (.slice ad l.length c) (ends s t l).1 (ends s t l).2))/\HV h w s [] w'):=HV.reads (HV.start hq) fun L' h1=>zk4 w h.ptr s t ht1 ht2 ad c l hy (by have:=hl.len;omega) hl.lt (h1.read hf (by omega))
 have HLN:Hid (∀ rs W,HV h w s rs W->Calls Tryz.prog 139 #[.agg (qL h.ptr t (.slice ad l.length c) (ends s t l).1 (ends s t l).2)] W fun e w'=>e= .returned (.int .i64 (((ends s t l).2-(ends s t l).1:Nat):Int))/\HV h w s rs w'):=fun rs W hV=>hV.reads fun L' h1=>zfx W h.ptr t _ _ _ hle (by omega)
 have HAT:Hid (∀ rs W,HV h w s rs W->Calls Tryz.prog 152 #[.agg (qL h.ptr t (.slice ad l.length c) (ends s t l).1 (ends s t l).2),.int .i64 ((ends s t l).1:Int)] W fun e w'=>e= .returned (.string (keyL t (l ++ [((ends s t l).1:Int)])))/\HV h w s rs w'):=fun rs W hV=>hV.reads fun L' h1=>zg8 t ht1 ht2 W h.ptr _ l _ _ _ (hV.ints hy hyn) hl (by unfold I63;omega)
 have HRW:Hid (∀ rs W,HV h w s rs W->Calls Tryz.prog 75 #[.pointer h.ptr,.string (keyL t (l ++ [((ends s t l).1:Int)]))] W fun e w'=>(∃ v,e= .returned v)/\HV h w s [] w'):=fun rs W hV=>by
  obtain⟨L',h1,_⟩:=hV.on;exact(QSt.row (h:=⟨h.ptr,h.on,L'⟩) h1 hf (by omega) _).mono fun e w' ⟨v,he,_,_,hb⟩=>⟨⟨v,he⟩,(hV.below hb).less (by simp)⟩
 clear hq hf hy hyn hl;generalize keyL t (l ++ [((ends s t l).1:Int)])=k1 at *
 generalize (ends s t l).1=e1 at *
 generalize (ends s t l).2=e2 at *
 generalize l.length=nl at *
 go_enter Tryz.func151,Tryz.ntmps151;go_wp2_with fail;refine zm HOF.out ?_;rintro e w1 ⟨rfl,hV1⟩;have hV2:=hV1.alloc (qO h.ptr t (.slice ad nl c) e1 e2);clear hV1 HOF;go_upto_region 2 with fail;generalize w1.alloc (qO h.ptr t (.slice ad nl c) e1 e2)=w2 at *
 generalize w1.heap.size=g1 at *
 obtain⟨c0,c1,c2',c3,c4⟩:=z9c (q:=h.ptr) (t:=t) (v:=.slice ad nl c) (a:=e1) (b:=e2) (hV2.row (g:=g1) (by simp));have HV2:=zh hV2;clear hV2;go_wp2_with fail;refine zm (HLN.out _ _ HV2.out) ?_;rintro e w3 ⟨rfl,hV3⟩;clear HV2 HLN c0 c1 c2' c3 c4
 by_cases h0:e2-e1=0
 ·have hd:(((e2-e1:Nat):Int)==0)=true:=by simp[h0]
  have HR:=zh (hV3.less (qs:=[]) (by simp));have HD:=zh h0;have hde:decide (((e2-e1:Nat):Int)=0)=true:=decide_eq_true (by omega);clear hV3;go_wp2_with fail;exact bodyPost_ret_by (results_tmp2 rfl _ _ _) rfl ⟨⟨_,by rw[decide_eq_true HD.out];rfl⟩,HR.out⟩
 ·have hd:(((e2-e1:Nat):Int)==0)=false:=by simpa using h0
  have hde:decide (((e2-e1:Nat):Int)=0)=false:=decide_eq_false (by omega);obtain⟨c0,c1,c2',c3,c4⟩:=z9c (q:=h.ptr) (t:=t) (v:=.slice ad nl c) (a:=e1) (b:=e2) (hV3.row (g:=g1) (by simp));have HV3:=zh hV3;have HD:=zh h0;clear hV3;go_wp2_with fail;refine zm (HAT.out _ _ HV3.out) ?_;rintro e w4 ⟨rfl,hV4⟩;have HV4:=zh hV4;clear hV4 HV3 HAT c0 c1 c2' c3 c4;go_wp2_with fail;refine zm (HRW.out _ _ HV4.out) ?_;rintro e w5 ⟨⟨v,rfl⟩,hV5⟩;have HR:=zh hV5;clear hV5 HV4 HRW;go_wp2_with fail;exact bodyPost_ret_by (results_tmp2 rfl _ _ _) rfl ⟨⟨_,by rw[decide_eq_false HD.out];rfl⟩,HR.out⟩
theorem zn4{ops:Array Oper}{o:Oper}{a:Act}{w:World}{K:Value->World->Prop}{x:Operand}{g:Nat}{q:Option Addr}{t:Int}{v:Value}{m n:Int}(hg:Region.wanted o (yielded ops a.tmps)=true)(ho:o.op= .load 188 x)(hx:a.eval x= .pointer (some ⟨g,0,none⟩))(hr:w.heap[g]?=some (qO q t v m n))(hk:K (.agg (qL q t v m n)) w):rgDo Tryz.prog ops o a w K:=
 zgj _ hg ho hx hr Tryz.underlying188 rfl (by show _=some 5;kernel_rfl) hk
theorem zsd{ops:Array Oper}{o:Oper}{a:Act}{w:World}{K:Value->World->Prop}{x:Operand}{g:Nat}(hg:Region.wanted o (yielded ops a.tmps)=true)(ho:o.op= .indexAddr 152 x (.const (.int .i64 0)))(hx:a.eval x= .pointer (some ⟨g,3,none⟩))(hk:K (.pointer (some ⟨g,3,none⟩)) w):rgDo Tryz.prog ops o a w K:=by
 refine z0n hg ?_ hk;have h0:a.eval (.const (.int .i64 0))= .int .i64 0:=rfl;clear hg hk;generalize a.eval=ev at hx h0 ⊢;unfold execOp;simp only[ho,hx,h0]
 go_simp
def z3o(s:St)(t:Nat)(l:List Int):St:=if (ends s t l).2-(ends s t l).1=0 then s else z1m (s.del (keyL t (l ++ [((ends s t l).1:Int)]))) t l (((ends s t l).1+1:Nat):Int) ((ends s t l).2:Int)
def PpPh(h:Hand)(w:World)(s s2:St)(rs:List (Nat × Obj)):Nat->World->Prop
 | 0,W=>HV h w s rs W
 | 1,W=>HV h w s rs W
 | _+2,W=>HV h w s2 rs W
theorem PpPh.row{h:Hand}{w W:World}{s s2:St}{rs:List (Nat × Obj)}{p:Nat}(hP:PpPh h w s s2 rs p W){g:Nat}{o:Obj}(hm:(g,o)∈rs):W.heap[g]?=some o:=by
 match p,hP with
 | 0,hP | 1,hP=>exact QV.row (rs:=rs) hP hm
 | _+2,hP=>exact QV.row (rs:=rs) hP hm
theorem zwm(t:Nat)(ht1:1<=t)(ht2:t<=255)(w:World)(h:Hand)(s:St)(f:Nat)(ad:Option Addr)(c:Nat)(l:List Int)(hon:h.on=true)(hq:QSt w h s)(hf:s.Fit f)(hm:f<10000000000)(hy:z0w w (.slice ad l.length c) l)(hl:IdOk l)(hyn:∀ k,(Value.slice ad l.length c).ownBlock=some k->k∉h.L)(he:(ends s t l).2<4611686018427387904) :
  Calls Tryz.prog 83 #[.pointer h.ptr,.int .i64 t,.slice ad l.length c] w fun e w'=>(∃ v ok,e= .returned (.tuple #[v,.bool ok]))/\QOn w h (z3o s t l) w':=by
 have hle:=z5o s t l;have HPK:=zh (ztl t ht1 ht2 w h s f ad c l hq hf hm hy hl hyn he);have HOF:Hid (∀ rs W,HV h w s rs W->Calls Tryz.prog 138 #[.pointer h.ptr,.int .i64 t,.slice ad l.length c] W fun e w'=>e= .returned (.agg (qL h.ptr t (.slice ad l.length c) (ends s t l).1 (ends s t l).2))/\HV h w s rs w'):=fun rs W hV=>hV.reads fun L' h1=>zk4 W h.ptr s t ht1 ht2 ad c l (hV.ints hy hyn) (by have:=hl.len;omega) hl.lt (h1.read hf (by omega))
 have HAT:Hid (∀ rs W,HV h w s rs W->Calls Tryz.prog 152 #[.agg (qL h.ptr t (.slice ad l.length c) (ends s t l).1 (ends s t l).2),.int .i64 ((ends s t l).1:Int)] W fun e w'=>e= .returned (.string (keyL t (l ++ [((ends s t l).1:Int)])))/\HV h w s rs w'):=fun rs W hV=>hV.reads fun L' h1=>zg8 t ht1 ht2 W h.ptr _ l _ _ _ (hV.ints hy hyn) hl (by unfold I63;omega)
 have hf1:=zdf hf (keyL t (l ++ [((ends s t l).1:Int)]));have hsz:s.size<1000000000000:=Nat.lt_of_le_of_lt hf.size (by omega);have hsz1:(s.del (keyL t (l ++ [((ends s t l).1:Int)]))).size<1000000000000:=Nat.lt_of_le_of_lt hf1.size (by omega);have HDL:Hid (∀ rs W,HV h w s rs W->Calls Tryz.prog 85 #[.pointer h.ptr,.string (keyL t (l ++ [((ends s t l).1:Int)]))] W fun e w'=>e= .returned (.bool (getE s.ents (keyL t (l ++ [((ends s t l).1:Int)]))).isSome)/\HV h w (s.del (keyL t (l ++ [((ends s t l).1:Int)]))) rs w'):=fun rs W hV=>QV.call hV fun L' h1=>zug W ⟨h.ptr,h.on,L'⟩ s _ hon h1 hsz
 have HTN:Hid (∀ rs W,HV h w (s.del (keyL t (l ++ [((ends s t l).1:Int)]))) rs W->Calls Tryz.prog 153 #[.agg (qL h.ptr t (.slice ad l.length c) (ends s t l).1 (ends s t l).2),.agg #[.int .i64 (((ends s t l).1:Int)+1),.int .i64 ((ends s t l).2:Int)]] W fun e w'=>e= .returned (.tuple #[])/\HV h w (z1m (s.del (keyL t (l ++ [((ends s t l).1:Int)]))) t l (((ends s t l).1+1:Nat):Int) ((ends s t l).2:Int)) rs w'):=fun rs W hV=>QV.call hV fun L' h1=>zkh t ht1 ht2 W ⟨h.ptr,h.on,L'⟩ _ _ l _ _ _ _ hon h1 hsz1 (hV.ints hy hyn) hl (by unfold I63;omega) (by unfold I63;omega)
 have HLAW:Hid ((((ends s t l).2-(ends s t l).1=0)->z3o s t l=s)/\(¬ ((ends s t l).2-(ends s t l).1=0)->z3o s t l=z1m (s.del (keyL t (l ++ [((ends s t l).1:Int)]))) t l (((ends s t l).1+1:Nat):Int) ((ends s t l).2:Int))):=by
  unfold z3o;exact⟨fun h=>by rw[if_pos h],fun h=>by rw[if_neg h]⟩
 generalize z3o s t l=rS at *
 clear hq hf hf1 hsz hsz1 hy hyn hl;generalize z1m (s.del (keyL t (l ++ [((ends s t l).1:Int)]))) t l (((ends s t l).1+1:Nat):Int) ((ends s t l).2:Int)=s2 at *
 generalize s.del (keyL t (l ++ [((ends s t l).1:Int)]))=s1 at *
 generalize (getE s.ents (keyL t (l ++ [((ends s t l).1:Int)]))).isSome=dB at *
 generalize keyL t (l ++ [((ends s t l).1:Int)])=k1 at *
 generalize (ends s t l).1=m1 at *
 generalize (ends s t l).2=m2 at *
 generalize l.length=nl at *
 by_cases h0:m2-m1=0
 ·have hr:=HLAW.out.1 h0;rw[decide_eq_true h0]at HPK;clear HLAW HTN HDL HAT HOF;subst hr;go_enter Tryz.func83,Tryz.ntmps83;go_wp2_with fail;refine zm HPK.out ?_;rintro e w1 ⟨⟨v,rfl⟩,hV1⟩;have HR:Hid (QOn w h rS w1):=HV.done hV1
  clear hV1 HPK;go_wp2_with fail;exact bodyPost_ret_by (results_tmp2 rfl _ _ _) rfl ⟨⟨_,_,rfl⟩,HR.out⟩
 ·have hr:=HLAW.out.2 h0;rw[decide_eq_false h0]at HPK;clear HLAW;subst hr;go_enter Tryz.func83,Tryz.ntmps83;go_wp2_with fail;refine zm HPK.out ?_;rintro e w1 ⟨⟨v,rfl⟩,hV1⟩;have HV1:=zh hV1;clear hV1 HPK;go_wp2_with fail;refine zm (HOF.out _ _ HV1.out) ?_;rintro e w2 ⟨rfl,hV2⟩;have hV3:=hV2.alloc (qO h.ptr t (.slice ad nl c) m1 m2);clear hV2 HV1 HOF;go_upto_region 5 with fail;generalize w2.alloc (qO h.ptr t (.slice ad nl c) m1 m2)=w3 at *
  generalize w2.heap.size=g1 at *
  have H0:Hid (PpPh h w s s1 [(g1,qO h.ptr t (.slice ad nl c) m1 m2)] 0 w3.drew):=hV3.drew;clear hV3;refine z06 [[],[0],[],[],[3],[4],[2,5],[1,6]]
   [.pointer (some ⟨g1,0,none⟩),.pointer h.ptr,.agg (qL h.ptr t (.slice ad nl c) m1 m2),.pointer (some ⟨g1,3,none⟩),.pointer (some ⟨g1,3,none⟩),.int .i64 m1,.string k1,.bool dB]
   [6,7] (PpPh h w s s1 [(g1,qO h.ptr t (.slice ad nl c) m1 m2)]) _ (by kernel_rfl) (by kernel_rfl) (by kernel_rfl)
   (fun vs=>by simp only[z14,z1a,List.setIfInBounds_toArray,List.set_cons_zero,List.set_cons_succ];exact rfl)
   (by simp only[List.getD_cons_zero,List.getD_cons_succ];exact rfl) H0.out ?_ ?_
  ·exact⟨
   fun _ _ _ _ hP _=>zj0 rfl rfl rfl ⟨rfl,hP⟩,
   fun _ _ _ hA hP _=>zg5 rfl rfl hA.1 (z9c (q:=h.ptr) (t:=t) (v:=.slice ad nl c) (a:=m1) (b:=m2) (PpPh.row hP (by simp))).1 ⟨rfl,hP⟩,
   fun _ _ _ _ hP _=>zn4 rfl rfl rfl (PpPh.row (o:=qO h.ptr t (.slice ad nl c) m1 m2) hP (by simp)) ⟨rfl,hP⟩,
   fun _ _ _ _ hP _=>zv8 rfl rfl rfl ⟨rfl,hP⟩,
   fun _ _ _ hA hP _=>zsd rfl rfl hA.1 ⟨rfl,hP⟩,
   fun _ _ _ hA hP _=>z0u rfl rfl hA.1 (z9c (q:=h.ptr) (t:=t) (v:=.slice ad nl c) (a:=m1) (b:=m2) (PpPh.row hP (by simp))).2.2.2.1 ⟨rfl,hP⟩,
   fun _ _ _ hA hP hq=>by cases hq 0 rfl;exact z0m rfl rfl rfl (by kernel_rfl) (rgL2 hA.1 hA.2.1) (HAT.out _ _ hP) fun _ hP2=>⟨rfl,hP2⟩,
   fun _ _ _ hA hP hq=>by cases hq 1 rfl;exact z0m rfl rfl rfl (by kernel_rfl) (rgL2 hA.1 hA.2.1) (HDL.out _ _ hP) fun _ hP2=>⟨rfl,hP2⟩,
   trivial⟩
  ·intro W hW;have hV:HV h w s1 [(g1,qO h.ptr t (.slice ad nl c) m1 m2)] W:=hW;obtain⟨c0,c1,c2',c3,c4⟩:=z9c (q:=h.ptr) (t:=t) (v:=.slice ad nl c) (a:=m1) (b:=m2) (hV.row (g:=g1) (by simp));have HV4:=zh hV;clear hV hW;go_wp2_with fail;refine zm (HTN.out _ _ HV4.out) ?_;rintro e w5 ⟨rfl,hV5⟩;have HR:Hid (QOn w h rS w5):=HV.done hV5
   clear hV5 HV4 HTN c0 c1 c2' c3 c4;go_wp2_with fail;exact bodyPost_ret_by (results_tmp2 rfl _ _ _) rfl ⟨⟨_,_,rfl⟩,HR.out⟩
end Go.Proofs.YtnkilceibkkjlaaGreat
