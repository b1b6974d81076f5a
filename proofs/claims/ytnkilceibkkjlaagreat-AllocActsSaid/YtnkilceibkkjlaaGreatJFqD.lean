/- What is proved here: fifo.Push, Peek, Pop and Len, over a -/
import Derived.Test.YtnkilceibkkjlaaGreatJAllocW
set_option maxRecDepth 100000
set_option maxHeartbeats 16000000
namespace Go.Proofs.YtnkilceibkkjlaaGreat
open Go.RowKit
theorem HV.ints{h:Hand}{w W:World}{s:St}{rs:List (Nat × Obj)}(hV:HV h w s rs W){y:Value}{l:List Int}(hy:z0v w y l)(hn:∀ k,y.ownBlock=some k->k∉h.L):z0v W y l:=by
 obtain⟨L',_,st⟩:=QV.done hV
 rcases hy with⟨rfl,rfl⟩ | ⟨a,c,rfl,hc⟩
 ·exact .inl ⟨rfl,rfl⟩
 ·refine .inr ⟨a,c,rfl,fun j x hx => ?_⟩;have h0:=hc j x hx;have hlt:=World.block_lt_of_cell? w _ h0;have hb:(a.add j).block=a.block:=by simp[Addr.add];split<;>rfl
  rw[hb]at hlt;rw[World.cell?_of_block (w:=w) (a:=a.add j) (by rw[hb];exact st.fr.block _ hlt (hn _ rfl))];exact h0
theorem HV.lie{h:Hand}{w W:World}{s:St}{rs:List (Nat × Obj)}(hV:HV h w s rs W){g:Nat}{l:List Int}(hy:zcj w g l)(hn:g∉h.L):zcj W g l:=by
 obtain⟨L',_,st⟩:=QV.done hV
 intro j x hx;have h0:=hy j x hx;have hlt:=World.block_lt_of_cell? w _ h0;rw[World.cell?_of_block (w:=w) (a:=⟨g,j,none⟩) (st.fr.block _ hlt hn)];exact h0
def z9y(s:St)(t:Nat)(l:List Int)(most:Nat):Int:=if most<=(ends s t l).2-(ends s t l).1 then 7 else 0
def z3q(s:St)(t:Nat)(l:List Int)(most:Nat)(r:List Int):St:=if most<=(ends s t l).2-(ends s t l).1 then s else z2c (s.put (keyL t (l ++ [((ends s t l).2:Int)])) (rowB r)) t l ((ends s t l).1:Int) (((ends s t l).2+1:Nat):Int)
theorem z5z(s:St)(t:Nat)(l:List Int):(ends s t l).1<=(ends s t l).2:=by
 unfold ends z5c;split
 ·split
  ·assumption
  ·exact Nat.le_refl _
 ·exact Nat.le_refl _
theorem zsp(t:Nat)(ht1:1<=t)(ht2:t<=255)(w:World)(h:Hand)(s:St)(f:Nat)(ad:Option Addr)(c:Nat)(l:List Int)(most g c2:Nat)(r:List Int)(hon:h.on=true)(hq:QSt w h s)(hf:s.Fit f)(hm:f<10000000000)(hy:z0v w (.slice ad l.length c) l)(hl:IdOk l)(hl0:∀ x∈l,0<=x)(hyn:∀ k,(Value.slice ad l.length c).ownBlock=some k->k∉h.L)
  (hz:zcj w g r) (hgn:g∉h.L) (hr0:0<r.length) (hr1:r.length<1000) (hr:∀ n∈r,0<=n/\n<9223372036854775808) (hmo:1<=most/\most<1000) (he:(ends s t l).2<4611686018427387904) :
  Calls Tryz.prog 145 #[.pointer h.ptr,.int .i64 t,.slice ad l.length c,.int .i64 most,.slice (some ⟨g,0,none⟩) r.length c2] w fun e w'=>e= .returned (.int .i64 (z9y s t l most))/\QOn w h (z3q s t l most r) w':=by
 have hle:=z5z s t l;have HOF:Hid (Calls Tryz.prog 138 #[.pointer h.ptr,.int .i64 t,.slice ad l.length c] w fun e w'=>e= .returned (.agg (qL h.ptr t (.slice ad l.length c) (ends s t l).1 (ends s t l).2))/\HV h w s [] w'):=HV.reads (HV.start hq) fun L' h1=>zlb w h.ptr s t ht1 ht2 ad c l hy (by have:=hl.len;omega) hl.lt (h1.read hf (by omega))
 have HMD:Hid (∀ rs W,HV h w s rs W->Calls Tryz.prog 66 #[.pointer h.ptr] W fun e w'=>e= .returned (.bool true)/\HV h w s rs w'):=fun rs W hV=>hV.reads fun L' h1=>zxr W ⟨h.ptr,h.on,L'⟩ s hon h1
 have HKY:Hid (∀ rs W,HV h w s rs W->Calls Tryz.prog 90 #[.int .i64 t,.slice ad l.length c] W fun e w'=>e= .returned (.string (keyL t l))/\HV h w s rs w'):=fun rs W hV=>hV.reads fun L' h1=>z5a t ht1 ht2 _ l W (hV.ints hy hyn) (by have:=hl.len;omega) hl.lt
 have HGD:Hid (∀ rs W,HV h w s rs W->Calls Tryz.prog 205 #[.slice (some ⟨g,0,none⟩) r.length c2] W fun e w'=>e= .returned (.bool true)/\HV h w s rs w'):=fun rs W hV=>(zgx W g c2 r hr0 (by omega) (hV.lie hz hgn) (fun n hn=>(hr n hn).1)).mono fun e w' ⟨he,hw⟩=>⟨he,by rw[<- hw];exact hV⟩
 have HLN:Hid (∀ rs W,HV h w s rs W->Calls Tryz.prog 139 #[.agg (qL h.ptr t (.slice ad l.length c) (ends s t l).1 (ends s t l).2)] W fun e w'=>e= .returned (.int .i64 (((ends s t l).2-(ends s t l).1:Nat):Int))/\HV h w s rs w'):=fun rs W hV=>hV.reads fun L' h1=>zfi W h.ptr t _ _ _ hle (by omega)
 have HAT:Hid (∀ rs W,HV h w s rs W->Calls Tryz.prog 152 #[.agg (qL h.ptr t (.slice ad l.length c) (ends s t l).1 (ends s t l).2),.int .i64 ((ends s t l).2:Int)] W fun e w'=>e= .returned (.string (keyL t (l ++ [((ends s t l).2:Int)])))/\HV h w s rs w'):=fun rs W hV=>hV.reads fun L' h1=>zgs t ht1 ht2 W h.ptr _ l _ _ _ (hV.ints hy hyn) hl (by unfold I63;omega)
 have hk0:keyL t l≠z08:=z5m t hl0;have hf1:=hf.put (keyL t (l ++ [((ends s t l).2:Int)])) (z16 r (by omega));have hsz:s.size<1000000000000:=Nat.lt_of_le_of_lt hf.size (by omega);have hsz1:(s.put (keyL t (l ++ [((ends s t l).2:Int)])) (rowB r)).size<1000000000000:=Nat.lt_of_le_of_lt hf1.size (by omega);have HSR:Hid (∀ rs W,HV h w s rs W->Calls Tryz.prog 107 #[.pointer h.ptr,.string (keyL t (l ++ [((ends s t l).2:Int)])),.slice (some ⟨g,0,none⟩) r.length c2] W fun e w'=>e= .returned (.tuple #[])/\HV h w (s.put (keyL t (l ++ [((ends s t l).2:Int)])) (rowB r)) rs w'):=fun rs W hV=>QV.call hV fun L' h1=>zc2 W ⟨h.ptr,h.on,L'⟩ s _ _ r hon h1 hsz ((hV.lie hz hgn).ints c2) (by omega) (by intro e;rw[e]at hr0;exact absurd hr0 (by decide)) hr
 have HTN:Hid (∀ rs W,HV h w (s.put (keyL t (l ++ [((ends s t l).2:Int)])) (rowB r)) rs W->Calls Tryz.prog 153 #[.agg (qL h.ptr t (.slice ad l.length c) (ends s t l).1 (ends s t l).2),.agg #[.int .i64 ((ends s t l).1:Int),.int .i64 (((ends s t l).2:Int)+1)]] W fun e w'=>e= .returned (.tuple #[])/\HV h w (z2c (s.put (keyL t (l ++ [((ends s t l).2:Int)])) (rowB r)) t l ((ends s t l).1:Int) (((ends s t l).2+1:Nat):Int)) rs w'):=fun rs W hV=>QV.call hV fun L' h1=>zlv t ht1 ht2 W ⟨h.ptr,h.on,L'⟩ _ _ l _ _ _ _ hon h1 hsz1 (hV.ints hy hyn) hl (by unfold I63;omega) (by unfold I63;omega)
 have hkl:(keyL t l).toList≠[]:=fun e=>hk0 (by
  have h1:=z2s (keyL t l) z08;rw[e]at h1;have h2:z08.toList = []:=by unfold ByteArray.toList ByteArray.toList.loop;rfl
  rw[h2]at h1
  exact of_decide_eq_true (h1.symm.trans rfl))
 have hke:(keyL t l).toList.isEmpty=false:=by simpa using hkl
 have hd1:decide ((most:Int)<1)=false:=decide_eq_false (by omega);have hlaw:(most<=(ends s t l).2-(ends s t l).1->z9y s t l most=7/\z3q s t l most r=s)/\(¬ most<=(ends s t l).2-(ends s t l).1->z9y s t l most=0/\z3q s t l most r=z2c (s.put (keyL t (l ++ [((ends s t l).2:Int)])) (rowB r)) t l ((ends s t l).1:Int) (((ends s t l).2+1:Nat):Int)):=by
  unfold z9y z3q;exact⟨fun h=>by rw[if_pos h,if_pos h];exact⟨rfl,rfl⟩,fun h=>by rw[if_neg h,if_neg h];exact⟨rfl,rfl⟩⟩
 have HLAW:=zh hlaw;clear hlaw;generalize z9y s t l most=rE at *
 generalize z3q s t l most r=rS at *
 clear hq hf hf1 hsz hsz1 hy hz hyn hgn hk0 hr hr0 hl hl0;generalize z2c (s.put (keyL t (l ++ [((ends s t l).2:Int)])) (rowB r)) t l ((ends s t l).1:Int) (((ends s t l).2+1:Nat):Int)=s2 at *
 generalize s.put (keyL t (l ++ [((ends s t l).2:Int)])) (rowB r)=s1 at *
 generalize keyL t (l ++ [((ends s t l).2:Int)])=k1 at *
 generalize (ends s t l).1=e1 at *
 generalize (ends s t l).2=e2 at *
 generalize keyL t l=kk at *
 generalize l.length=nl at *
 generalize r.length=nr at *
 go_enter Tryz.func145,Tryz.ntmps145;go_wp2_with fail;refine zm HOF.out ?_;rintro e w1 ⟨rfl,hV1⟩;have hV2:=hV1.alloc (qO h.ptr t (.slice ad nl c) e1 e2);clear hV1 HOF;go_upto_region 2 with fail;generalize w1.alloc (qO h.ptr t (.slice ad nl c) e1 e2)=w2 at *
 generalize w1.heap.size=g1 at *
 have HV2:=zh hV2;clear hV2;go_wp2_with fail;refine zm (HMD.out _ _ HV2.out) ?_;rintro e w3 ⟨rfl,hV3⟩;have HV3:=zh hV3;clear hV3 HV2 HMD;go_wp2_with fail;refine zm (HKY.out _ _ HV3.out) ?_;rintro e w4 ⟨rfl,hV4⟩;have HV4:=zh hV4;clear hV4 HV3 HKY;go_wp2_with fail;refine zm (HGD.out _ _ HV4.out) ?_;rintro e w5 ⟨rfl,hV5⟩;obtain⟨c0,c1,c2',c3,c4⟩:=z9f (q:=h.ptr) (t:=t) (v:=.slice ad nl c) (a:=e1) (b:=e2) (hV5.row (g:=g1) (by simp));have HV5:=zh hV5;clear hV5 HV4 HGD;go_wp2_with fail;refine zm (HLN.out _ _ HV5.out) ?_;rintro e w6 ⟨rfl,hV6⟩;clear HV5 HLN c0 c1 c2' c3 c4
 by_cases hfull:most<=e2-e1
 ·have hd2:decide ((most:Int)<=((e2-e1:Nat):Int))=true:=decide_eq_true (by omega);have HR:Hid (QOn w h s w6):=HV.done hV6
  obtain⟨r1,r2⟩:=HLAW.out.1 hfull;rw[<- r2]at HR;have HRE:=zh r1;clear hV6 r1 r2 HLAW;go_wp2_with fail;go_ret;exact⟨by rw[HRE.out];rfl,HR.out⟩
 ·have hd2:decide ((most:Int)<=((e2-e1:Nat):Int))=false:=decide_eq_false (by omega);obtain⟨r1,r2⟩:=HLAW.out.2 hfull;have HRE:=zh (And.intro r1 r2);clear r1 r2 HLAW;obtain⟨c0,c1,c2',c3,c4⟩:=z9f (q:=h.ptr) (t:=t) (v:=.slice ad nl c) (a:=e1) (b:=e2) (hV6.row (g:=g1) (by simp));have HV6:=zh hV6;clear hV6;go_wp2_with fail;refine zm (HAT.out _ _ HV6.out) ?_;rintro e w7 ⟨rfl,hV7⟩;have HV7:=zh hV7;clear hV7 HV6 HAT c0 c1 c2' c3 c4;go_wp2_with fail;refine zm (HSR.out _ _ HV7.out) ?_;rintro e w8 ⟨rfl,hV8⟩;obtain⟨c0,c1,c2',c3,c4⟩:=z9f (q:=h.ptr) (t:=t) (v:=.slice ad nl c) (a:=e1) (b:=e2) (hV8.row (g:=g1) (by simp));have HV8:=zh hV8;clear hV8 HV7 HSR;go_wp2_with fail;refine zm (HTN.out _ _ HV8.out) ?_;rintro e w9 ⟨rfl,hV9⟩;have HR:Hid (QOn w h s2 w9):=HV.done hV9
  clear hV9 HV8 HTN c0 c1 c2' c3 c4;go_wp2_with fail;go_ret;exact⟨by rw[HRE.out.1];rfl,by rw[HRE.out.2];exact HR.out⟩
theorem Und.zza{s s':St}(h:Und s s'/\Sorted s'.ents)(k v:ByteArray):Und s (s'.put k v)/\Sorted (s'.put k v).ents:=⟨h.1.put h.2 k v,z7x h.2 k v⟩
def Hand.ad2(h:Hand)(s:St)(x:Ex):St:=h.q0i (zye s x) (keyL 19 [x.sg]) x.wo
def Hand.adN(h:Hand)(s:St)(x:Ex):Int:=(((h.ad2 s x).int (keyL 14 []):Nat):Int)+1
def Hand.ad3(h:Hand)(s:St)(x:Ex):St:=(h.ad2 s x).z2v (keyL 14 []) (h.adN s x)
def Hand.ad4(h:Hand)(s:St)(x:Ex):St:=(h.ad3 s x).put (keyL 15 [h.adN s x]) (rowB [x.st,x.op,x.sg,x.bl])
def Hand.ad5(h:Hand)(s:St)(x:Ex):St:=(h.ad4 s x).z0d (keyL 17 [h.adN s x]) x.wo
def Hand.ad6(h:Hand)(s:St)(x:Ex):St:=(h.ad5 s x).z0d (keyL 18 [h.adN s x]) x.mx
def Hand.ad7(h:Hand)(s:St)(x:Ex):St:=(h.ad6 s x).z2v (keyL 20 [x.st]) ((((h.ad6 s x).int (keyL 20 [x.st]):Nat):Int)+1)
theorem zqz:∀ (l1 l2:List UInt8) (x y:Nat),l1.length=l2.length->l1.foldl (fun x b=>x*256+b.toNat) x=l2.foldl (fun x b=>x*256+b.toNat) y->x=y/\l1=l2
 | [],[],x,y,_,h=>⟨h,rfl⟩
 | [],_::_,_,_,hl,_=>by simp at hl
 | _::_,[],_,_,hl,_=>by simp at hl
 | a::l1,b::l2,x,y,hl,h=>by
  simp only[List.foldl_cons]at h
  obtain⟨h1,h2⟩:=zqz l1 l2 _ _ (by simpa using hl) h
  have ha:=UInt8.toNat_lt a
  have hb:=UInt8.toNat_lt b
  have hab:a.toNat=b.toNat:=by omega
  exact⟨by omega,by rw[h2,UInt8.toNat_inj.1 hab]⟩
theorem zyv{r:List UInt8}(hl:r.length=8)(hb:be r<9223372036854775808):be8 (be r)=r:=by
 have h2:=z6i (be r) hb;rw[zcv,z3r _ (by rw[z6b];omega),List.take_of_length_le (by rw[z6b];omega),List.drop_of_length_le (by rw[z6b];omega)]at h2;split at h2
 ·simp[numsL]at h2;exact((zqz r (be8 (be r)) 0 0 (by rw[z6b];omega) h2.symm).2).symm
 ·cases h2
theorem zp1{x y:Nat}(hx:x<9223372036854775808)(hy:y<9223372036854775808)(h:be8 x=be8 y):x=y:=by
 have h1:=z6i x hx;have h2:=z6i y hy;rw[zcv]at h1 h2;rw[h,h2]at h1;injection h1 with h1;injection h1 with h1;exact h1.symm
theorem zds:∀ (ns:List Nat) (r:List UInt8),numsL r=some ns->r=ns.flatMap be8/\∀ x∈ns,x<9223372036854775808
 | [],r,h=>by
  have hl:=zbv r.length r [] (Nat.le_refl _) h
  simp at hl
  subst hl
  exact⟨rfl,fun x hx=>by cases hx⟩
 | n::ns,r,h=>by
  have hl:=zbv r.length r (n::ns) (Nat.le_refl _) h
  simp at hl
  rw[z3r _ (by omega)]at h
  split at h
  ·next hb =>
   rw[Option.map_eq_some_iff]at h
   obtain⟨ms,hm,e⟩:=h
   injection e with e1 e2
   subst e1
   subst e2
   obtain⟨h1,h2⟩:=zds _ _ hm
   refine⟨?_,fun x hx => ?_⟩
   ·rw[List.flatMap_cons,<- h1,zyv (by rw[List.length_take];omega) hb,List.take_append_drop]
   ·rcases List.mem_cons.1 hx with rfl | hx
    ·exact hb
    ·exact h2 x hx
  ·cases h
def z6h(ns:List Nat):List Int:=ns.map fun (n:Nat)=>(n:Int)
theorem z3z(t:Nat)(ns:List Nat):(keyL t (z6h ns)).data.toList=UInt8.ofNat t::ns.flatMap be8:=by
 rw[z9l (by intro x hx;obtain⟨n,_,rfl⟩:=List.mem_map.1 hx;omega)];simp[keyBytes,z6h,List.flatMap_map]
theorem zc1{k:ByteArray}{t:Nat}{ns:List Nat}(h:z1r k=some (t,ns)):k=keyL t (z6h ns)/\∀ x∈ns,x<9223372036854775808:=by
 unfold z1r at h;cases hk:k.data.toList with
 | nil=>rw[hk]at h;cases h
 | cons b r =>
  rw[hk]at h;have h':(if b=0 then none else(numsL r).map fun ns=>(b.toNat,ns))=some (t,ns):=h;split at h'
  ·cases h'
  ·rw[Option.map_eq_some_iff]at h';obtain⟨ms,hm,e⟩:=h';injection e with e1 e2;subst e1;subst e2;obtain⟨h1,h2⟩:=zds _ _ hm;refine⟨?_,h2⟩;have:k.data.toList=(keyL b.toNat (z6h ms)).data.toList:=by rw[z3z,hk,<- h1,UInt8.ofNat_toNat]
   exact congrArg ByteArray.mk (Array.toList_inj.1 this)
theorem zl9{v:ByteArray}:∀ n∈rowOf v,n<9223372036854775808:=fun n hn=>by
 unfold rowOf at hn
 cases hx:numsL v.data.toList with
 | none=>rw[hx]at hn;cases hn
 | some ns=>rw[hx]at hn;exact(zds _ _ hx).2 n hn
theorem zup(w:World)(h:Hand)(s:St)(k:ByteArray)(hon:h.on=true)(hq:QSt w h s)(hz:s.size<1000000000000) :
  Calls Tryz.prog 85 #[.pointer h.ptr,.string k] w fun e w'=>e= .returned (.bool (getE s.ents k).isSome)/\QOn w h (s.del k) w':=by
 rcases hq with⟨_,b,hp,hS⟩ | ⟨h0,_⟩
 ·rw[hp];exact(zeu w b s h.L k hS hz).mono fun e w' ⟨he,L',h1,h2⟩=>⟨he,L',.inl ⟨hon,b,hp,h1⟩,h2⟩
 ·rw[hon]at h0;cases h0
theorem zd0{s:St}{f:Nat}(hf:s.Fit f)(k:ByteArray):(s.del k).Fit (f+2):=by
 have:=hf.put k (v:=z08) (by decide);unfold St.put at this
 rwa [if_pos rfl]at this
theorem zrm(t:Nat)(ht1:1<=t)(ht2:t<=255)(w:World)(h:Hand)(s:St)(f:Nat)(ad:Option Addr)(c:Nat)(l:List Int)(hq:QSt w h s)(hf:s.Fit f)(hm:f<10000000000)(hy:z0v w (.slice ad l.length c) l)(hl:IdOk l)(hyn:∀ k,(Value.slice ad l.length c).ownBlock=some k->k∉h.L)(he:(ends s t l).2<4611686018427387904) :
  Calls Tryz.prog 151 #[.pointer h.ptr,.int .i64 t,.slice ad l.length c] w fun e w'=>(∃ v,e= .returned (.tuple #[v,.bool (!decide ((ends s t l).2-(ends s t l).1=0))]))/\HV h w s [] w':=by
 have hle:=z5z s t l;have HOF:Hid (Calls Tryz.prog 138 #[.pointer h.ptr,.int .i64 t,.slice ad l.length c] w fun e w'=>e= .returned (.agg (qL h.ptr t (.slice ad l.length c) (ends s t l).1 (ends s t l).2))/\HV h w s [] w'):=HV.reads (HV.start hq) fun L' h1=>zlb w h.ptr s t ht1 ht2 ad c l hy (by have:=hl.len;omega) hl.lt (h1.read hf (by omega))
 have HLN:Hid (∀ rs W,HV h w s rs W->Calls Tryz.prog 139 #[.agg (qL h.ptr t (.slice ad l.length c) (ends s t l).1 (ends s t l).2)] W fun e w'=>e= .returned (.int .i64 (((ends s t l).2-(ends s t l).1:Nat):Int))/\HV h w s rs w'):=fun rs W hV=>hV.reads fun L' h1=>zfi W h.ptr t _ _ _ hle (by omega)
 have HAT:Hid (∀ rs W,HV h w s rs W->Calls Tryz.prog 152 #[.agg (qL h.ptr t (.slice ad l.length c) (ends s t l).1 (ends s t l).2),.int .i64 ((ends s t l).1:Int)] W fun e w'=>e= .returned (.string (keyL t (l ++ [((ends s t l).1:Int)])))/\HV h w s rs w'):=fun rs W hV=>hV.reads fun L' h1=>zgs t ht1 ht2 W h.ptr _ l _ _ _ (hV.ints hy hyn) hl (by unfold I63;omega)
 have HRW:Hid (∀ rs W,HV h w s rs W->Calls Tryz.prog 75 #[.pointer h.ptr,.string (keyL t (l ++ [((ends s t l).1:Int)]))] W fun e w'=>(∃ v,e= .returned v)/\HV h w s [] w'):=fun rs W hV=>by
  obtain⟨L',h1,_⟩:=hV.on;exact(QSt.row (h:=⟨h.ptr,h.on,L'⟩) h1 hf (by omega) _).mono fun e w' ⟨v,he,_,_,hb⟩=>⟨⟨v,he⟩,(hV.below hb).less (by simp)⟩
 clear hq hf hy hyn hl;generalize keyL t (l ++ [((ends s t l).1:Int)])=k1 at *
 generalize (ends s t l).1=e1 at *
 generalize (ends s t l).2=e2 at *
 generalize l.length=nl at *
 go_enter Tryz.func151,Tryz.ntmps151;go_wp2_with fail;refine zm HOF.out ?_;rintro e w1 ⟨rfl,hV1⟩;have hV2:=hV1.alloc (qO h.ptr t (.slice ad nl c) e1 e2);clear hV1 HOF;go_upto_region 2 with fail;generalize w1.alloc (qO h.ptr t (.slice ad nl c) e1 e2)=w2 at *
 generalize w1.heap.size=g1 at *
 obtain⟨c0,c1,c2',c3,c4⟩:=z9f (q:=h.ptr) (t:=t) (v:=.slice ad nl c) (a:=e1) (b:=e2) (hV2.row (g:=g1) (by simp));have HV2:=zh hV2;clear hV2;go_wp2_with fail;refine zm (HLN.out _ _ HV2.out) ?_;rintro e w3 ⟨rfl,hV3⟩;clear HV2 HLN c0 c1 c2' c3 c4
 by_cases h0:e2-e1=0
 ·have hd:(((e2-e1:Nat):Int)==0)=true:=by simp[h0]
  have HR:=zh (hV3.less (qs:=[]) (by simp));have HD:=zh h0;have hde:decide (((e2-e1:Nat):Int)=0)=true:=decide_eq_true (by omega);clear hV3;go_wp2_with fail;exact bodyPost_ret_by (results_tmp2 rfl _ _ _) rfl ⟨⟨_,by rw[decide_eq_true HD.out];rfl⟩,HR.out⟩
 ·have hd:(((e2-e1:Nat):Int)==0)=false:=by simpa using h0
  have hde:decide (((e2-e1:Nat):Int)=0)=false:=decide_eq_false (by omega);obtain⟨c0,c1,c2',c3,c4⟩:=z9f (q:=h.ptr) (t:=t) (v:=.slice ad nl c) (a:=e1) (b:=e2) (hV3.row (g:=g1) (by simp));have HV3:=zh hV3;have HD:=zh h0;clear hV3;go_wp2_with fail;refine zm (HAT.out _ _ HV3.out) ?_;rintro e w4 ⟨rfl,hV4⟩;have HV4:=zh hV4;clear hV4 HV3 HAT c0 c1 c2' c3 c4;go_wp2_with fail;refine zm (HRW.out _ _ HV4.out) ?_;rintro e w5 ⟨⟨v,rfl⟩,hV5⟩;have HR:=zh hV5;clear hV5 HV4 HRW;go_wp2_with fail;exact bodyPost_ret_by (results_tmp2 rfl _ _ _) rfl ⟨⟨_,by rw[decide_eq_false HD.out];rfl⟩,HR.out⟩
theorem znp{ops:Array Oper}{o:Oper}{a:Act}{w:World}{K:Value->World->Prop}{x:Operand}{g:Nat}{q:Option Addr}{t:Int}{v:Value}{m n:Int}(hg:Region.wanted o (yielded ops a.tmps)=true)(ho:o.op= .load 188 x)(hx:a.eval x= .pointer (some ⟨g,0,none⟩))(hr:w.heap[g]?=some (qO q t v m n))(hk:K (.agg (qL q t v m n)) w):rgDo Tryz.prog ops o a w K:=
 zc3 _ hg ho hx hr Tryz.underlying188 rfl (by show _=some 5;kernel_rfl) hk
theorem zsm{ops:Array Oper}{o:Oper}{a:Act}{w:World}{K:Value->World->Prop}{x:Operand}{g:Nat}(hg:Region.wanted o (yielded ops a.tmps)=true)(ho:o.op= .indexAddr 152 x (.const (.int .i64 0)))(hx:a.eval x= .pointer (some ⟨g,3,none⟩))(hk:K (.pointer (some ⟨g,3,none⟩)) w):rgDo Tryz.prog ops o a w K:=by
 refine z0o hg ?_ hk;have h0:a.eval (.const (.int .i64 0))= .int .i64 0:=rfl;clear hg hk;generalize a.eval=ev at hx h0 ⊢;unfold execOp;simp only[ho,hx,h0]
 go_simp
def z4a(s:St)(t:Nat)(l:List Int):St:=if (ends s t l).2-(ends s t l).1=0 then s else z2c (s.del (keyL t (l ++ [((ends s t l).1:Int)]))) t l (((ends s t l).1+1:Nat):Int) ((ends s t l).2:Int)
def PpPh(h:Hand)(w:World)(s s2:St)(rs:List (Nat × Obj)):Nat->World->Prop
 | 0,W=>HV h w s rs W
 | 1,W=>HV h w s rs W
 | _+2,W=>HV h w s2 rs W
theorem PpPh.row{h:Hand}{w W:World}{s s2:St}{rs:List (Nat × Obj)}{p:Nat}(hP:PpPh h w s s2 rs p W){g:Nat}{o:Obj}(hm:(g,o)∈rs):W.heap[g]?=some o:=by
 match p,hP with
 | 0,hP | 1,hP=>exact QV.row (rs:=rs) hP hm
 | _+2,hP=>exact QV.row (rs:=rs) hP hm
theorem zxj(t:Nat)(ht1:1<=t)(ht2:t<=255)(w:World)(h:Hand)(s:St)(f:Nat)(ad:Option Addr)(c:Nat)(l:List Int)(hon:h.on=true)(hq:QSt w h s)(hf:s.Fit f)(hm:f<10000000000)(hy:z0v w (.slice ad l.length c) l)(hl:IdOk l)(hyn:∀ k,(Value.slice ad l.length c).ownBlock=some k->k∉h.L)(he:(ends s t l).2<4611686018427387904) :
  Calls Tryz.prog 83 #[.pointer h.ptr,.int .i64 t,.slice ad l.length c] w fun e w'=>(∃ v ok,e= .returned (.tuple #[v,.bool ok]))/\QOn w h (z4a s t l) w':=by
 have hle:=z5z s t l;have HPK:=zh (zrm t ht1 ht2 w h s f ad c l hq hf hm hy hl hyn he);have HOF:Hid (∀ rs W,HV h w s rs W->Calls Tryz.prog 138 #[.pointer h.ptr,.int .i64 t,.slice ad l.length c] W fun e w'=>e= .returned (.agg (qL h.ptr t (.slice ad l.length c) (ends s t l).1 (ends s t l).2))/\HV h w s rs w'):=fun rs W hV=>hV.reads fun L' h1=>zlb W h.ptr s t ht1 ht2 ad c l (hV.ints hy hyn) (by have:=hl.len;omega) hl.lt (h1.read hf (by omega))
 have HAT:Hid (∀ rs W,HV h w s rs W->Calls Tryz.prog 152 #[.agg (qL h.ptr t (.slice ad l.length c) (ends s t l).1 (ends s t l).2),.int .i64 ((ends s t l).1:Int)] W fun e w'=>e= .returned (.string (keyL t (l ++ [((ends s t l).1:Int)])))/\HV h w s rs w'):=fun rs W hV=>hV.reads fun L' h1=>zgs t ht1 ht2 W h.ptr _ l _ _ _ (hV.ints hy hyn) hl (by unfold I63;omega)
 have hf1:=zd0 hf (keyL t (l ++ [((ends s t l).1:Int)]));have hsz:s.size<1000000000000:=Nat.lt_of_le_of_lt hf.size (by omega);have hsz1:(s.del (keyL t (l ++ [((ends s t l).1:Int)]))).size<1000000000000:=Nat.lt_of_le_of_lt hf1.size (by omega);have HDL:Hid (∀ rs W,HV h w s rs W->Calls Tryz.prog 85 #[.pointer h.ptr,.string (keyL t (l ++ [((ends s t l).1:Int)]))] W fun e w'=>e= .returned (.bool (getE s.ents (keyL t (l ++ [((ends s t l).1:Int)]))).isSome)/\HV h w (s.del (keyL t (l ++ [((ends s t l).1:Int)]))) rs w'):=fun rs W hV=>QV.call hV fun L' h1=>zup W ⟨h.ptr,h.on,L'⟩ s _ hon h1 hsz
 have HTN:Hid (∀ rs W,HV h w (s.del (keyL t (l ++ [((ends s t l).1:Int)]))) rs W->Calls Tryz.prog 153 #[.agg (qL h.ptr t (.slice ad l.length c) (ends s t l).1 (ends s t l).2),.agg #[.int .i64 (((ends s t l).1:Int)+1),.int .i64 ((ends s t l).2:Int)]] W fun e w'=>e= .returned (.tuple #[])/\HV h w (z2c (s.del (keyL t (l ++ [((ends s t l).1:Int)]))) t l (((ends s t l).1+1:Nat):Int) ((ends s t l).2:Int)) rs w'):=fun rs W hV=>QV.call hV fun L' h1=>zlv t ht1 ht2 W ⟨h.ptr,h.on,L'⟩ _ _ l _ _ _ _ hon h1 hsz1 (hV.ints hy hyn) hl (by unfold I63;omega) (by unfold I63;omega)
 have HLAW:Hid ((((ends s t l).2-(ends s t l).1=0)->z4a s t l=s)/\(¬ ((ends s t l).2-(ends s t l).1=0)->z4a s t l=z2c (s.del (keyL t (l ++ [((ends s t l).1:Int)]))) t l (((ends s t l).1+1:Nat):Int) ((ends s t l).2:Int))):=by
  unfold z4a;exact⟨fun h=>by rw[if_pos h],fun h=>by rw[if_neg h]⟩
 generalize z4a s t l=rS at *
 clear hq hf hf1 hsz hsz1 hy hyn hl;generalize z2c (s.del (keyL t (l ++ [((ends s t l).1:Int)]))) t l (((ends s t l).1+1:Nat):Int) ((ends s t l).2:Int)=s2 at *
 generalize s.del (keyL t (l ++ [((ends s t l).1:Int)]))=s1 at *
 generalize (getE s.ents (keyL t (l ++ [((ends s t l).1:Int)]))).isSome=dB at *
 generalize keyL t (l ++ [((ends s t l).1:Int)])=k1 at *
 generalize (ends s t l).1=m1 at *
 generalize (ends s t l).2=m2 at *
 generalize l.length=nl at *
 by_cases h0:m2-m1=0
 ·have hr:=HLAW.out.1 h0;rw[decide_eq_true h0]at HPK;clear HLAW HTN HDL HAT HOF;subst hr;go_enter Tryz.func83,Tryz.ntmps83;go_wp2_with fail;refine zm HPK.out ?_;rintro e w1 ⟨⟨v,rfl⟩,hV1⟩;have HR:Hid (QOn w h rS w1):=HV.done hV1
  clear hV1 HPK;go_wp2_with fail;exact bodyPost_ret_by (results_tmp2 rfl _ _ _) rfl ⟨⟨_,_,rfl⟩,HR.out⟩
 ·have hr:=HLAW.out.2 h0;rw[decide_eq_false h0]at HPK;clear HLAW;subst hr;go_enter Tryz.func83,Tryz.ntmps83;go_wp2_with fail;refine zm HPK.out ?_;rintro e w1 ⟨⟨v,rfl⟩,hV1⟩;have HV1:=zh hV1;clear hV1 HPK;go_wp2_with fail;refine zm (HOF.out _ _ HV1.out) ?_;rintro e w2 ⟨rfl,hV2⟩;have hV3:=hV2.alloc (qO h.ptr t (.slice ad nl c) m1 m2);clear hV2 HV1 HOF;go_upto_region 5 with fail;generalize w2.alloc (qO h.ptr t (.slice ad nl c) m1 m2)=w3 at *
  generalize w2.heap.size=g1 at *
  have H0:Hid (PpPh h w s s1 [(g1,qO h.ptr t (.slice ad nl c) m1 m2)] 0 w3.drew):=hV3.drew;clear hV3;refine z05 [[],[0],[],[],[3],[4],[2,5],[1,6]]
   [.pointer (some ⟨g1,0,none⟩),.pointer h.ptr,.agg (qL h.ptr t (.slice ad nl c) m1 m2),.pointer (some ⟨g1,3,none⟩),.pointer (some ⟨g1,3,none⟩),.int .i64 m1,.string k1,.bool dB]
   [6,7] (PpPh h w s s1 [(g1,qO h.ptr t (.slice ad nl c) m1 m2)]) _ (by kernel_rfl) (by kernel_rfl) (by kernel_rfl)
   (fun vs=>by simp only[z0z,z1b,List.setIfInBounds_toArray,List.set_cons_zero,List.set_cons_succ];exact rfl)
   (by simp only[List.getD_cons_zero,List.getD_cons_succ];exact rfl) H0.out ?_ ?_
  ·exact⟨
   fun _ _ _ _ hP _=>zjo rfl rfl rfl ⟨rfl,hP⟩,
   fun _ _ _ hA hP _=>zfs rfl rfl hA.1 (z9f (q:=h.ptr) (t:=t) (v:=.slice ad nl c) (a:=m1) (b:=m2) (PpPh.row hP (by simp))).1 ⟨rfl,hP⟩,
   fun _ _ _ _ hP _=>znp rfl rfl rfl (PpPh.row (o:=qO h.ptr t (.slice ad nl c) m1 m2) hP (by simp)) ⟨rfl,hP⟩,
   fun _ _ _ _ hP _=>zxq rfl rfl rfl ⟨rfl,hP⟩,
   fun _ _ _ hA hP _=>zsm rfl rfl hA.1 ⟨rfl,hP⟩,
   fun _ _ _ hA hP _=>z0t rfl rfl hA.1 (z9f (q:=h.ptr) (t:=t) (v:=.slice ad nl c) (a:=m1) (b:=m2) (PpPh.row hP (by simp))).2.2.2.1 ⟨rfl,hP⟩,
   fun _ _ _ hA hP hq=>by cases hq 0 rfl;exact z0m rfl rfl rfl (by kernel_rfl) (rgL2 hA.1 hA.2.1) (HAT.out _ _ hP) fun _ hP2=>⟨rfl,hP2⟩,
   fun _ _ _ hA hP hq=>by cases hq 1 rfl;exact z0m rfl rfl rfl (by kernel_rfl) (rgL2 hA.1 hA.2.1) (HDL.out _ _ hP) fun _ hP2=>⟨rfl,hP2⟩,
   trivial⟩
  ·intro W hW;have hV:HV h w s1 [(g1,qO h.ptr t (.slice ad nl c) m1 m2)] W:=hW;obtain⟨c0,c1,c2',c3,c4⟩:=z9f (q:=h.ptr) (t:=t) (v:=.slice ad nl c) (a:=m1) (b:=m2) (hV.row (g:=g1) (by simp));have HV4:=zh hV;clear hV hW;go_wp2_with fail;refine zm (HTN.out _ _ HV4.out) ?_;rintro e w5 ⟨rfl,hV5⟩;have HR:Hid (QOn w h rS w5):=HV.done hV5
   clear hV5 HV4 HTN c0 c1 c2' c3 c4;go_wp2_with fail;exact bodyPost_ret_by (results_tmp2 rfl _ _ _) rfl ⟨⟨_,_,rfl⟩,HR.out⟩
end Go.Proofs.YtnkilceibkkjlaaGreat
