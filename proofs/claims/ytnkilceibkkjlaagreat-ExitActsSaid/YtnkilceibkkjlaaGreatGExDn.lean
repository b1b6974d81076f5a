/- What is proved here: keys of any numbers: a key is parsed back, and what parses is a key; a key of tw -/
import Derived.Test.YtnkilceibkkjlaaGreatGRowW
import Derived.Test.YtnkilceibkkjlaaGreatGRFacA
import Derived.Test.YtnkilceibkkjlaaGreatGUnder
import Derived.Test.YtnkilceibkkjlaaGreatGExAd
set_option maxRecDepth 100000
set_option maxHeartbeats 16000000
namespace Go.Proofs.YtnkilceibkkjlaaGreat
theorem zpa:∀ (l1 l2:List UInt8) (x y:Nat),l1.length=l2.length->l1.foldl (fun x b=>x*256+b.toNat) x=l2.foldl (fun x b=>x*256+b.toNat) y->x=y/\l1=l2
 | [],[],x,y,_,h=>⟨h,rfl⟩
 | [],_::_,_,_,hl,_=>by simp at hl
 | _::_,[],_,_,hl,_=>by simp at hl
 | a::l1,b::l2,x,y,hl,h=>by
  simp only[List.foldl_cons]at h
  obtain⟨h1,h2⟩:=zpa l1 l2 _ _ (by simpa using hl) h
  have ha:=UInt8.toNat_lt a
  have hb:=UInt8.toNat_lt b
  have hab:a.toNat=b.toNat:=by omega
  exact⟨by omega,by rw[h2,UInt8.toNat_inj.1 hab]⟩
theorem zyv{r:List UInt8}(hl:r.length=8)(hb:be r<9223372036854775808):be8 (be r)=r:=by
 have h2:=z6i (be r) hb;rw[zc4,z2o _ (by rw[z5g];omega),List.take_of_length_le (by rw[z5g];omega),List.drop_of_length_le (by rw[z5g];omega)]at h2;split at h2
 ·simp[numsL]at h2;exact((zpa r (be8 (be r)) 0 0 (by rw[z5g];omega) h2.symm).2).symm
 ·cases h2
theorem zd2:∀ (ns:List Nat) (r:List UInt8),numsL r=some ns->r=ns.flatMap be8/\∀ x∈ns,x<9223372036854775808
 | [],r,h=>by
  have hl:=za8 r.length r [] (Nat.le_refl _) h
  simp at hl
  subst hl
  exact⟨rfl,fun x hx=>by cases hx⟩
 | n::ns,r,h=>by
  have hl:=za8 r.length r (n::ns) (Nat.le_refl _) h
  simp at hl
  rw[z2o _ (by omega)]at h
  split at h
  ·next hb =>
   rw[Option.map_eq_some_iff]at h
   obtain⟨ms,hm,e⟩:=h
   injection e with e1 e2
   subst e1
   subst e2
   obtain⟨h1,h2⟩:=zd2 _ _ hm
   refine⟨?_,fun x hx => ?_⟩
   ·rw[List.flatMap_cons,<- h1,zyv (by rw[List.length_take];omega) hb,List.take_append_drop]
   ·rcases List.mem_cons.1 hx with rfl | hx
    ·exact hb
    ·exact h2 x hx
  ·cases h
def z5f(ns:List Nat):List Int:=ns.map fun (n:Nat)=>(n:Int)
theorem z4i(t:Nat)(ns:List Nat):(keyL t (z5f ns)).data.toList=UInt8.ofNat t::ns.flatMap be8:=by
 rw[z6m (by intro x hx;obtain⟨n,_,rfl⟩:=List.mem_map.1 hx;omega)];simp[keyBytes,z5f,List.flatMap_map]
theorem zpg{k:ByteArray}{t:Nat}{ns:List Nat}(h:z2e k=some (t,ns)):k=keyL t (z5f ns)/\∀ x∈ns,x<9223372036854775808:=by
 unfold z2e at h;cases hk:k.data.toList with
 | nil=>rw[hk]at h;cases h
 | cons b r =>
  rw[hk]at h;have h':(if b=0 then none else(numsL r).map fun ns=>(b.toNat,ns))=some (t,ns):=h;split at h'
  ·cases h'
  ·rw[Option.map_eq_some_iff]at h';obtain⟨ms,hm,e⟩:=h';injection e with e1 e2;subst e1;subst e2;obtain⟨h1,h2⟩:=zd2 _ _ hm;refine⟨?_,h2⟩;have:k.data.toList=(keyL b.toNat (z5f ms)).data.toList:=by rw[z4i,hk,<- h1,UInt8.ofNat_toNat]
   exact congrArg ByteArray.mk (Array.toList_inj.1 this)
theorem ze7{t:Nat}(h1:1<=t)(h2:t<=255){ns:List Nat}(h:∀ x∈ns,x<9223372036854775808):z2e (keyL t (z5f ns))=some (t,ns):=by
 unfold z2e;rw[z4i];have h0:UInt8.ofNat t≠0:=fun e=>by
  have:=congrArg UInt8.toNat e;rw[UInt8.toNat_ofNat']at this;have h3:(0:UInt8).toNat=0:=rfl;rw[h3]at this;omega
 show(if UInt8.ofNat t=0 then none else(numsL (ns.flatMap be8)).map fun ns=>((UInt8.ofNat t).toNat,ns))=_
 rw[if_neg h0];have h3:=zd3 (z5f ns) (by intro n hn;obtain⟨m,hm,rfl⟩:=List.mem_map.1 hn;have:=h m hm;omega);have h4:z4h (z5f ns)=ns.flatMap be8:=by simp[z4h,z5f,List.flatMap_map]
 have h5:(z5f ns).map (·.toNat)=ns:=by simp[z5f,Function.comp_def]
 rw[h4,h5]at h3;rw[h3,UInt8.toNat_ofNat',Option.map_some];have:t%256=t:=by omega
 rw[this]
theorem zum{t u:Nat}(ht1:1<=t)(ht:t<=255)(hu1:1<=u)(hu:u<=255){ns ms:List Nat}(hn:∀ x∈ns,x<9223372036854775808)(hm:∀ x∈ms,x<9223372036854775808)(h:keyL t (z5f ns)=keyL u (z5f ms)):t=u/\ns=ms:=by
 have h1:=ze7 ht1 ht hn;rw[h,ze7 hu1 hu hm]at h1;injection h1 with h1;injection h1 with h1 h2;exact⟨h1.symm,h2.symm⟩
end Go.Proofs.YtnkilceibkkjlaaGreat
namespace Go.Proofs.YtnkilceibkkjlaaGreat
open Go.RowKit
def xdnA(s:St)(id:Int)(m:W4):W4:=z5i (s.ex id) m
def xdnE(s:St)(id:Int)(m:W4):Int:=if s.exIs id=true then z1e (s.amt (keyL 19 [(s.ex id).sg])) (xdnA s id m)else 8
def xdnW(s:St)(id:Int)(m:W4):W4:=if xdnE s id m=0 then xdnA s id m else(0,0,0,0)
def Hand.dn1(h:Hand)(s:St)(id:Int)(m:W4):St:=h.z4p s (keyL 19 [(s.ex id).sg]) (xdnA s id m)
def Hand.dnS(h:Hand)(s:St)(id:Int)(m:W4):Nat->St
 | 0=>h.dn1 s id m
 | 1=>(h.dn1 s id m).del (keyL 15 [id])
 | 2=>((h.dn1 s id m).del (keyL 15 [id])).del (keyL 17 [id])
 | _+3=>(((h.dn1 s id m).del (keyL 15 [id])).del (keyL 17 [id])).del (keyL 18 [id])
def Hand.dn5(h:Hand)(s:St)(id:Int)(m:W4):St:=(h.dnS s id m 3).z0m (keyL 20 [(s.ex id).st]) ((((h.dnS s id m 3).int (keyL 20 [(s.ex id).st]):Nat):Int)-1)
def Hand.dnSt(h:Hand)(s:St)(id:Int)(m:W4):St:=if xdnE s id m=0 then h.dn5 s id m else s
theorem zt2{v:ByteArray}:∀ n∈rowOf v,n<9223372036854775808:=fun n hn=>by
 unfold rowOf at hn
 cases hx:numsL v.data.toList with
 | none=>rw[hx]at hn;cases hn
 | some ns=>rw[hx]at hn;exact(zd2 _ _ hx).2 n hn
theorem zr8(s:St)(id:Int):I63 (s.ex id).st/\I63 (s.ex id).op/\I63 (s.ex id).sg/\I63 (s.ex id).bl:=by
 unfold St.ex;split
 ·rename_i a b c d hr;have h:=fun n hn=>zt2 (v:=s.val (keyL 15 [id])) n (by rw[hr];exact hn)
  have ha:=h a (by simp);have hb:=h b (by simp);have hc:=h c (by simp);have hd:=h d (by simp);exact⟨by show(a:Int)<_;omega,by show(b:Int)<_;omega,by show(c:Int)<_;omega,by show(d:Int)<_;omega⟩
 ·exact⟨by decide,by decide,by decide,by decide⟩
theorem znl(s:St)(id:Int):(s.ex id).wo.Ok/\(s.ex id).mx.Ok:=by
 unfold St.ex;split
 ·exact⟨z9c _ _,z9c _ _⟩
 ·exact⟨z6u,z6u⟩
theorem zv4(w:World):(Instr.index 169 (.agg #[.int .i64 15,.int .i64 17,.int .i64 18]) (.int .i64 0)).run Tryz.prog w= .ok (.int .i64 15) w:=by kernel_rfl
theorem zva(w:World):(Instr.index 169 (.agg #[.int .i64 15,.int .i64 17,.int .i64 18]) (.int .i64 1)).run Tryz.prog w= .ok (.int .i64 17) w:=by kernel_rfl
theorem zux(w:World):(Instr.index 169 (.agg #[.int .i64 15,.int .i64 17,.int .i64 18]) (.int .i64 2)).run Tryz.prog w= .ok (.int .i64 18) w:=by kernel_rfl
theorem zz7(w:World)(h:Hand)(s:St)(k:ByteArray)(hon:h.on=true)(hq:QSt w h s)(hz:s.size<1000000000000) :
  Calls Tryz.prog 85 #[.pointer h.ptr,.string k] w fun e w'=>e= .returned (.bool (getE s.ents k).isSome)/\QOn w h (s.del k) w':=by
 rcases hq with⟨_,b,hp,hS⟩ | ⟨h0,_⟩
 ·rw[hp];exact(zec w b s h.L k hS hz).mono fun e w' ⟨he,L',h1,h2⟩=>⟨he,L',.inl ⟨hon,b,hp,h1⟩,h2⟩
 ·rw[hon]at h0;cases h0
theorem zat{s:St}{f:Nat}(hf:s.Fit f)(k:ByteArray):(s.del k).Fit (f+2):=by
 have:=hf.put k (v:=z0d) (by decide);unfold St.put at this
 rwa [if_pos rfl]at this
theorem Hand.zfx{h:Hand}{s:St}{f:Nat}(hf:s.Fit f)(id:Int)(m:W4):(h.dn1 s id m).Fit (f+2):=by
 unfold Hand.dn1 Hand.z4p;split
 ·exact Hand.zhe (hf.mono (by omega)) (hf.z15 _ _)
 ·exact hf.mono (by omega)
theorem Hand.z7q{h:Hand}{s:St}{f:Nat}(hf:s.Fit f)(id:Int)(m:W4):∀ k,(h.dnS s id m k).Fit (f+8)
 | 0=>(Hand.zfx hf id m).mono (by omega)
 | 1=>(zat (Hand.zfx hf id m) _).mono (by omega)
 | 2=>(zat (zat (Hand.zfx hf id m) _) _).mono (by omega)
 | _+3=>zat (zat (zat (Hand.zfx hf id m) _) _) _
theorem Hand.zky{h:Hand}{s:St}{f:Nat}(hf:s.Fit f)(id:Int)(m:W4):(h.dnSt s id m).Fit (f+10):=by
 unfold Hand.dnSt;split
 ·exact(Hand.z7q hf id m 3).z0m _ _
 ·exact hf.mono (by omega)
theorem zxp(w:World)(h:Hand)(s:St)(f:Nat)(id:Int)(m:W4)(hon:h.on=true)(hid:I63 id)(hmo:m.Ok)(hq:QSt w h s)(hf:s.Fit f)(hm:f<1000000000) :
  Calls Tryz.prog 42 #[.pointer h.ptr,.int .i64 id,uV m] w fun e w'=>e= .returned (.tuple #[uV (xdnW s id m),.int .i64 (xdnE s id m)])/\QOn w h (h.dnSt s id m) w':=by
 have hB:=((HV.start hq).alloc (uO m)).alloc zO;rw[World.size_alloc]at hB;obtain⟨x1,x2,x3,x4⟩:=zr8 s id;obtain⟨x5,x6⟩:=znl s id;have hsz:∀ {s':St} {g:Nat},s'.Fit g->g<2000000000->s'.size<1000000000000:=fun h1 h2=>Nat.lt_of_le_of_lt h1.size (by omega)
 have HMD:Hid (∀ rs W,HV h w s rs W->Calls Tryz.prog 66 #[.pointer h.ptr] W fun e w'=>e= .returned (.bool true)/\HV h w s rs w'):=fun rs W hV=>hV.reads fun L' h1=>zjn W ⟨h.ptr,h.on,L'⟩ s hon h1
 have HGT:Hid (∀ rs W,HV h w s rs W->Calls Tryz.prog 44 #[.pointer h.ptr,.int .i64 id] W fun e w'=>e= .returned (.tuple #[.agg (s.ex id).L,.bool (s.exIs id)])/\HV h w s rs w'):=fun rs W hV=>hV.reads fun L' h1=>zru W ⟨h.ptr,h.on,L'⟩ s f id hid h1 hf (by omega)
 have HPY:Hid (∀ rs W,HV h w s rs W->Calls Tryz.prog 13 #[.agg (s.ex id).L,uV m] W fun e w'=>e= .returned (uV (xdnA s id m))/\HV h w s rs w'):=fun rs W hV=>hV.reads fun L' h1=>zfl (s.ex id) m x5 x6 hmo W
 have HK19:Hid (∀ W v,z0w W v [(s.ex id).sg]->Calls Tryz.prog 90 #[.int .i64 19,v] W fun e w'=>e= .returned (.string (keyL 19 [(s.ex id).sg]))/\Below W.heap.size W w'):=fun W v hv=>z6f 19 (by decide) (by decide) _ x3 W v hv
 have HCS:Hid (∀ rs W,HV h w s rs W->Calls Tryz.prog 88 #[.pointer h.ptr,.string (keyL 19 [(s.ex id).sg]),uV (xdnA s id m)] W fun e w'=>e= .returned (.int .i64 (z1e (s.amt (keyL 19 [(s.ex id).sg])) (xdnA s id m)))/\HV h w (h.dnS s id m 0) rs w'):=fun rs W hV=>QV.call hV fun L' h1=>zvb W ⟨h.ptr,h.on,L'⟩ s f _ _ (zk9 x5 m) h1 hf (by omega)
 have HKY:Hid (∀ t:Nat,1<=t->t<=255->∀ s' rs W,HV h w s' rs W->Calls Tryz.prog 90 #[.int .i64 t,.slice (some ⟨W.heap.size,0,none⟩) 1 1] (W.alloc (.cells #[.int .i64 id] 3)) fun e w'=>e= .returned (.string (keyL t [id]))/\HV h w s' rs w'):=fun t h1 h2 s' rs W hV=>(z7x t h1 h2 id hid W).mono fun e w' ⟨he,hb⟩=>⟨he,QV.below hV hb⟩
 have HK20:Hid (∀ s' rs W,HV h w s' rs W->Calls Tryz.prog 90 #[.int .i64 20,.slice (some ⟨W.heap.size,0,none⟩) 1 1] (W.alloc (.cells #[.int .i64 (s.ex id).st] 3)) fun e w'=>e= .returned (.string (keyL 20 [(s.ex id).st]))/\HV h w s' rs w'):=fun s' rs W hV=>(z7x 20 (by decide) (by decide) _ x1 W).mono fun e w' ⟨he,hb⟩=>⟨he,QV.below hV hb⟩
 have HQ:Hid (∀ k:Nat,k<3->∃ t:Nat,(1<=t/\t<=255)/\(∀ w',(Instr.index 169 (.agg #[.int .i64 15,.int .i64 17,.int .i64 18]) (.int .i64 k)).run Tryz.prog w' = .ok (.int .i64 t) w')/\∀ rs W,HV h w (h.dnS s id m k) rs W->∃ ok,Calls Tryz.prog 85 #[.pointer h.ptr,.string (keyL t [id])] W fun e w'=>e= .returned (.bool ok)/\HV h w (h.dnS s id m (k+1)) rs w'):=fun k hk=>by
  have hd:∀ k' kk rs W,HV h w (h.dnS s id m k') rs W->Calls Tryz.prog 85 #[.pointer h.ptr,.string kk] W fun e w'=>e= .returned (.bool (getE (h.dnS s id m k').ents kk).isSome)/\HV h w ((h.dnS s id m k').del kk) rs w':=fun k' kk rs W hV=>QV.call hV fun L' h1=>zz7 W ⟨h.ptr,h.on,L'⟩ _ _ hon h1 (hsz (Hand.z7q hf id m k') (by omega))
  match k,hk with
  | 0,_=>exact⟨15,by decide,zv4,fun rs W hV=>⟨_,hd 0 _ rs W hV⟩⟩
  | 1,_=>exact⟨17,by decide,zva,fun rs W hV=>⟨_,hd 1 _ rs W hV⟩⟩
  | 2,_=>exact⟨18,by decide,zux,fun rs W hV=>⟨_,hd 2 _ rs W hV⟩⟩
 have HIN:Hid (∀ rs W,HV h w (h.dnS s id m 3) rs W->Calls Tryz.prog 99 #[.pointer h.ptr,.string (keyL 20 [(s.ex id).st])] W fun e w'=>e= .returned (.int .i64 ((h.dnS s id m 3).int (keyL 20 [(s.ex id).st])))/\HV h w (h.dnS s id m 3) rs w'):=fun rs W hV=>hV.reads fun L' h1=>(h1.read (Hand.z7q hf id m 3) (by omega)).int _
 have hn63:=z7y (h.dnS s id m 3) (keyL 20 [(s.ex id).st]);have HSI:Hid (∀ rs W,HV h w (h.dnS s id m 3) rs W->Calls Tryz.prog 114 #[.pointer h.ptr,.string (keyL 20 [(s.ex id).st]),.int .i64 ((((h.dnS s id m 3).int (keyL 20 [(s.ex id).st]):Nat):Int)-1)] W fun e w'=>e= .returned (.tuple #[])/\HV h w (h.dn5 s id m) rs w'):=fun rs W hV=>QV.call hV fun L' h1=>zhn W ⟨h.ptr,h.on,L'⟩ _ _ _ hon (by omega) h1 (hsz (Hand.z7q hf id m 3) (by omega))
 have hlaw:(s.exIs id=false->xdnE s id m=8/\xdnW s id m=(0,0,0,0)/\h.dnSt s id m=s)/\(s.exIs id=true->xdnE s id m=z1e (s.amt (keyL 19 [(s.ex id).sg])) (xdnA s id m)/\(z1e (s.amt (keyL 19 [(s.ex id).sg])) (xdnA s id m)=0->xdnW s id m=xdnA s id m/\h.dnSt s id m=h.dn5 s id m)/\(z1e (s.amt (keyL 19 [(s.ex id).sg])) (xdnA s id m)≠0->xdnW s id m=(0,0,0,0)/\h.dnSt s id m=s/\h.dnS s id m 0=s)):=by
  refine⟨fun h1 => ?_,fun h1 => ?_⟩
  ·have he:xdnE s id m=8:=by unfold xdnE;rw[if_neg (by rw[h1];decide)]
   unfold xdnW Hand.dnSt;rw[he,if_neg (by decide),if_neg (by decide)];exact⟨rfl,rfl,rfl⟩
  ·have he:xdnE s id m=z1e (s.amt (keyL 19 [(s.ex id).sg])) (xdnA s id m):=by unfold xdnE;rw[if_pos h1]
   unfold xdnW Hand.dnSt;rw[he];refine⟨rfl,fun h2=>by rw[if_pos h2,if_pos h2];exact⟨rfl,rfl⟩,fun h2 => ?_⟩;rw[if_neg h2,if_neg h2];refine⟨rfl,rfl,?_⟩;show h.dn1 s id m=s
   unfold Hand.dn1 Hand.z4p;rw[if_neg h2]
 have HLAW:=zh hlaw;have HB:=zh hB;have HQR:=zh hq;clear hlaw hB hsz hq hf hm hid hmo x1 x2 x3 x4 x5 x6 hon;generalize xdnE s id m=rE at *
 generalize xdnW s id m=rW at *
 generalize h.dnSt s id m=rS at *
 generalize z1e (s.amt (keyL 19 [(s.ex id).sg])) (xdnA s id m)=eS at *
 generalize h.dn5 s id m=s5 at *
 obtain⟨n20,hn20⟩:∃ n:Nat,n=(h.dnS s id m 3).int (keyL 20 [(s.ex id).st]):=⟨_,rfl⟩;rw[<- hn20]at HIN HSI hn63;clear hn20;obtain⟨n21,hn21⟩:∃ n1:Int,n1=(n20:Int)-1:=⟨_,rfl⟩;have hwr:IntKind.i64.wrap ((n20:Int)-1)=n21:=by rw[hn21,IntKind.wrap_i64];omega
 have hwr2:wrap64 ((n20:Int)-1)=n21:=by rw[hn21];unfold wrap64;omega
 rw[<- hn21]at HSI;clear hn21 hn63;generalize h.dnS s id m=dS at *
 generalize xdnA s id m=pa at *
 generalize s.exIs id=is at *
 obtain⟨⟨xs,xo,xt,xb,W,M⟩,hx⟩:∃ x,x=s.ex id:=⟨_,rfl⟩;rw[<- hx]at HGT HPY HK19 HCS HK20 HIN HSI;clear hx;dsimp only[Ex.L]at HGT HPY HK19 HCS HK20 HIN HSI;go_enter Tryz.func42,Tryz.ntmps42;go_upto_region 1 with fail;generalize hw1:(w.alloc (uO m)).alloc zO=w1 at *
 clear hw1;have HG1:=zh (HGT.out _ _ HB.out);clear HB HGT;go_wp2_with fail;refine zm HG1.out ?_;rintro e w2 ⟨rfl,hB2⟩;have HB3:=zh (hB2.alloc (.cells #[.int .i64 xs,.int .i64 xo,.int .i64 xt,.int .i64 xb,.int .u64 W.1,.int .u64 W.2.1,.int .u64 W.2.2.1,.int .u64 W.2.2.2,.int .u64 M.1,.int .u64 M.2.1,.int .u64 M.2.2.1,.int .u64 M.2.2.2] 26));have HNE1:Hid (w.heap.size+1≠w2.heap.size/\w.heap.size≠w2.heap.size):=by
  have h1:=z05 (hB2.row (g:=w.heap.size+1) (o:=zO) (by simp));exact⟨by omega,by omega⟩
 clear HG1 hB2;go_upto_region 2 with fail;generalize hw3:w2.alloc (.cells #[.int .i64 xs,.int .i64 xo,.int .i64 xt,.int .i64 xb,.int .u64 W.1,.int .u64 W.2.1,.int .u64 W.2.2.1,.int .u64 W.2.2.2,.int .u64 M.1,.int .u64 M.2.1,.int .u64 M.2.2.1,.int .u64 M.2.2.2] 26)=w3 at *
 generalize w2.heap.size=gx at *
 clear hw3;have HM3:=zh (HMD.out _ _ HB3.out);clear HB3 HMD;go_wp2_with fail;refine zm HM3.out ?_;rintro e w4 ⟨rfl,hB4⟩;have HB4:=zh hB4;clear hB4 HM3;cases is with
 | false =>
  obtain⟨rfl,rfl,rfl⟩:=HLAW.out.1 (by trivial);obtain⟨z0,z1,z2,z3,z4,z5,z6,z7⟩:=row4 (HB4.out.u4 (g:=w.heap.size+1) (x:=(0,0,0,0)) (by simp));have HZ:=zh (HB4.out.put4 (g:=w.heap.size+1) (y:=(0,0,0,0)) (0,0,0,0) (by simp) [] (fun _ hx=>by cases hx));clear HB4 HLAW HPY HK19 HCS HKY HK20 HQ HIN HSI;go_wp2_with fail;refine bodyPost_ret (z00 rfl _ _ (w.heap.size+1) 24 (uL (0,0,0,0)) (0,0) _ rfl (HZ.out.row (by simp)) Tryz.underlying24 rfl (by kernel_rfl)) rfl ?_;exact⟨rfl,HV.done HZ.out⟩
 | true =>
  obtain⟨hE,hE0,hE1⟩:=HLAW.out.2 (by trivial);have hE2:=hE.symm;subst hE2;clear hE;have HE:=zh (And.intro hE0 hE1);clear hE0 hE1 HLAW;obtain⟨⟨k0,k1,k2,k3⟩,⟨p0,p1,p2,p3⟩,⟨q0,q1,q2,q3⟩⟩:=rowE (x:=⟨xs,xo,xt,xb,W,M⟩) (HB4.out.row (g:=gx) (o:=.cells #[.int .i64 xs,.int .i64 xo,.int .i64 xt,.int .i64 xb,.int .u64 W.1,.int .u64 W.2.1,.int .u64 W.2.2.1,.int .u64 W.2.2.2,.int .u64 M.1,.int .u64 M.2.1,.int .u64 M.2.2.1,.int .u64 M.2.2.2] 26) (by simp));obtain⟨m0,m1,m2,m3,_⟩:=row4 (HB4.out.u4 (g:=w.heap.size) (x:=m) (by simp));have HP4:=zh (HPY.out _ _ HB4.out);clear HB4 HPY;go_wp2_with fail;refine zm HP4.out ?_;rintro e w5 ⟨rfl,hB5⟩;have HB6:=zh (hB5.alloc (uO pa));clear HP4 hB5 k0 k1 k2 k3 p0 p1 p2 p3 q0 q1 q2 q3 m0 m1 m2 m3;go_upto_region 7 with fail;generalize hw6:w5.alloc (uO pa)=w6 at *
  generalize w5.heap.size=ga at *
  clear hw6;have HB0:=zh (z0g (Below.refl w6.heap.size w6));refine z0c 6 [[],[],[1],[1,2],[1,2,3],[],[0,1,2,3,4,5],[0,1,2,3,4,5,6]]
   [rgC (Below w6.heap.size w6),rgV 0 (.pointer h.ptr),rgV 1 (.pointer (some ⟨gx,2,none⟩)),rgV 2 (.int .i64 xt),rgI 3 ([xt]),rgV 4 (.string (keyL 19 [xt])),rgV 5 (uV pa)] _ (by kernel_rfl) (by kernel_rfl) (by decide) (by kernel_rfl) (by kernel_rfl)
   (fun vs=>by simp only[z14,z1i,List.setIfInBounds_toArray,List.set_cons_zero,List.set_cons_succ];exact rfl)
   ⟨fun _ _ _ hb h=>z0a h hb,z02,z02,z02,z8o,z02,z02,trivial⟩ ?_ ?_ ?_
  ·refine z0p rfl HB0.out ?_;iterate 6 refine z0u rfl ?_
   exact trivial
  ·refine⟨?_,?_,?_,?_,?_,?_,trivial⟩
   ·intro vs w7 hA K hK;obtain⟨_,_⟩:=hA;refine z08 rfl (.inl rfl) rfl (hK _ _ (.inl zb) ?_);exact z01 1
   ·intro vs w7 hA K hK;obtain⟨_,_⟩:=hA;refine zqg rfl rfl rfl (hK _ _ (.inl zb) ?_);exact z01 2
   ·intro vs w7 hA K hK;obtain⟨hC,e1,_⟩:=hA;refine z19 rfl rfl (rg1 e1) (rowE (x:=⟨xs,xo,xt,xb,W,M⟩) ((HB6.out.below hC).row (g:=gx) (o:=exO ⟨xs,xo,xt,xb,W,M⟩) (by simp[Ex.L]))).1.2.2.1 (hK _ _ (.inl zb) ?_);exact z01 3
   ·intro vs w7 hA K hK;obtain⟨_,_,e2,_⟩:=hA;refine z8g rfl rfl (rg1 e2) (hK _ _ (.inl (z04 zb _)) ?_);iterate 4 refine z0k rfl ?_
    refine z0r rfl (fun _=>z6v _ _) ?_;iterate 2 refine z0k rfl ?_
    exact trivial
   ·intro vs w7 hA K hK;obtain⟨_,_,_,i3,_⟩:=hA;refine z0v rfl rfl rfl (by kernel_rfl) rfl (zm (HK19.out _ _ i3) ?_);rintro e w2 ⟨rfl,hb⟩;refine⟨_,rfl,hK _ _ (.inl hb) ?_⟩;exact z01 5
   ·intro vs w7 hA K hK;obtain⟨hC,_⟩:=hA;refine z1b rfl rfl rfl ((HB6.out.below hC).u4 (g:=ga) (x:=pa) (by simp)) (hK _ _ (.inl zb) ?_);exact z01 6
  ·intro vs w7 hA;obtain⟨hC,e0,e1,e2,i3,e4,e5,_⟩:=hA;have e0:=rg1 e0;have e1:=rg1 e1;have e2:=rg1 e2;have e4:=rg1 e4;have e5:=rg1 e5;refine z0i ?_;refine z0v rfl rfl rfl (by kernel_rfl) (show [vs 0,vs 4,vs 5]=_ from by rw[e0,e4,e5]) (zm (HCS.out _ _ (HB6.out.below hC)) ?_);rintro e w9 ⟨rfl,hB9⟩;refine⟨_,rfl,?_⟩;refine z0i ?_;refine z08 rfl (.inr rfl) rfl ?_;refine z0x ?_;simp only[z1h,Nat.reduceEqDiff,↓reduceIte,e0,e1,e2,e4,e5];have HB9:=zh hB9;clear hB9 HB0 HB6 HK19 HCS e0 e1 e2 i3 e4 e5 hC
   by_cases he0:eS=0
   ·obtain⟨rfl,rfl⟩:=HE.out.1 he0;subst he0;clear HE;go_wp2_with fail
    go_loopw [45] (fun iv wr=>∃ k:Nat,iv= .int .i64 k/\k<=3/\HV h w (dS k) [(ga,uO rW),(gx,exO ⟨xs,xo,xt,xb,W,M⟩),(w.heap.size+1,zO),(w.heap.size,uO m)] wr) (fun iv _=>3-(intOf iv).toNat)
    case atStart=>exact⟨0,rfl,by omega,HB9.out⟩
    case round =>
     obtain⟨k,rfl,hk,hA⟩:=hrel;clear HB9
     by_cases hlt:k<3
     ·obtain⟨t,⟨ht1,ht2⟩,hidx,hdel⟩:=HQ.out k hlt;have HK:=zh (HKY.out t ht1 ht2 _ _ _ hA);have HD:=zh hdel;clear hdel HQ HKY hA ht1 ht2 HIN HSI HK20;generalize ((t:Nat):Int)=tt at *
      go_wp2_with fail;refine zm HK.out ?_;rintro e w10 ⟨rfl,hB10⟩;obtain⟨ok,hD⟩:=HD.out _ _ hB10;have HDD:=zh hD;clear hD HD HK hB10 hidx;go_wp2_with fail;refine zm HDD.out ?_;rintro e w11 ⟨rfl,hB11⟩;have HB11:=zh hB11;clear hB11 HDD;go_wp2_with fail;go_roundw
      case rel=>exact⟨k+1,by go_num,by omega,HB11.out⟩
      case measure=>simp[intOf];omega
     ·obtain rfl:k=3:=by omega
      have HB12:=zh hA;clear hA HQ HKY hlt hk;obtain⟨⟨k0,k1,k2,k3⟩,_,_⟩:=rowE (x:=⟨xs,xo,xt,xb,W,M⟩) (HB12.out.row (g:=gx) (o:=exO ⟨xs,xo,xt,xb,W,M⟩) (by simp));have HK:=zh (HK20.out _ _ _ HB12.out);clear HB12 HK20;go_wp2_with fail;refine zm HK.out ?_;rintro e w13 ⟨rfl,hB13⟩;have HI:=zh (HIN.out _ _ hB13);clear hB13 HIN HK k0 k1 k2 k3;go_wp2_with fail;refine zm HI.out ?_;rintro e w14 ⟨rfl,hB14⟩;have HS:=zh (HSI.out _ _ hB14);clear hB14 HSI HI;go_wp2_with fail;refine zm HS.out ?_;rintro e w15 ⟨rfl,hB15⟩;obtain⟨y0,y1,y2,y3,_⟩:=row4 (hB15.u4 (g:=ga) (x:=rW) (by simp));obtain⟨z0,z1,z2,z3,z4,z5,z6,z7⟩:=row4 (hB15.u4 (g:=w.heap.size+1) (x:=(0,0,0,0)) (by simp));have HZ:=zh (hB15.put4 (g:=w.heap.size+1) (y:=(0,0,0,0)) rW (by simp) [] (fun _ hx=>by cases hx));clear hB15 HS;go_wp2_with fail
      try rw[Exit.noGoto_ret]
      refine bodyPost_ret (z00 rfl _ _ (w.heap.size+1) 24 (uL rW) (0,0) _ rfl (HZ.out.row (by simp)) Tryz.underlying24 rfl (by kernel_rfl)) rfl ?_;exact⟨rfl,HV.done HZ.out⟩
   ·obtain⟨rfl,rfl,hs0⟩:=HE.out.2 he0;rw[hs0]at HB9;have he1:(eS==0)=false:=by rw[beq_eq_false_iff_ne];exact he0
    obtain⟨z0,z1,z2,z3,z4,z5,z6,z7⟩:=row4 (HB9.out.u4 (g:=w.heap.size+1) (x:=(0,0,0,0)) (by simp));have HZ:=zh (HB9.out.put4 (g:=w.heap.size+1) (y:=(0,0,0,0)) (0,0,0,0) (by simp) [] (fun _ hx=>by cases hx));clear HB9 HE HKY HK20 HQ HIN HSI he0 hs0;go_wp2_with fail;refine bodyPost_ret (z00 rfl _ _ (w.heap.size+1) 24 (uL (0,0,0,0)) (0,0) _ rfl (HZ.out.row (by simp)) Tryz.underlying24 rfl (by kernel_rfl)) rfl ?_;exact⟨rfl,HV.done HZ.out⟩
end Go.Proofs.YtnkilceibkkjlaaGreat
