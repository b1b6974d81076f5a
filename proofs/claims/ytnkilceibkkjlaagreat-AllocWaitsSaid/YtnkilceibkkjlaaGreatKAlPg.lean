/- What is proved here: alloc's plain functions over two sta -/
import Derived.Test.YtnkilceibkkjlaaGreatKRAlC
set_option maxRecDepth 100000
set_option maxHeartbeats 16000000
namespace Go.Proofs.YtnkilceibkkjlaaGreat
open Go.RowKit
section
variable {s m:St} (h:s.ents=m.ents)
include h
theorem z6i(x:I4):cur s x=cur m x:=by unfold cur;rw[z7p h]
theorem z4h(x:I4):pend s x=pend m x:=by unfold pend;rw[z7p h,z7p h]
theorem z8c(t:Nat)(l:List Int):ends s t l=ends m t l:=by unfold ends;rw[z7p h]
theorem zen(p:ByteArray):dueE p s=dueE p m:=by unfold dueE;rw[h]
theorem zlp(bl:Nat):dueN s bl=dueN m bl:=by unfold dueN;rw[zen h]
theorem zb3(t:Nat)(l:List Int)(a b:Int):(z1m s t l a b).ents=(z1m m t l a b).ents:=z4c h _ _
theorem zj6(t:Nat)(l:List Int)(most:Nat):z9d s t l most=z9d m t l most:=by unfold z9d;rw[z8c h]
theorem zi4(t:Nat)(l:List Int)(most:Nat)(r:List Int):(z2s s t l most r).ents=(z2s m t l most r).ents:=by
 unfold z2s;rw[z8c h];split
 ·exact h
 ·exact zb3 (z4c h _ _) _ _ _ _
theorem zje(t:Nat)(l:List Int):(z3o s t l).ents=(z3o m t l).ents:=by
 unfold z3o;rw[z8c h];split
 ·exact h
 ·exact zb3 (zdp h _) _ _ _ _
theorem zgu(x:I4)(way:Nat)(a:W4)(bl:Nat):(z0t s x way a bl).ents=(z0t m x way a bl).ents:=z2e (z4c h _ _) _ _
theorem ziq(bl:Nat)(l:List Int):(z1z s bl l).ents=(z1z m bl l).ents:=by
 unfold z1z;rw[zlp h];exact z4c h _ _
theorem zif(bl:Nat)(l:List Int):(z4u s bl l).ents=(z4u m bl l).ents:=by
 have h1:=ziq h bl l;unfold z4u;rw[zgp h1];exact zhf h1 _ _
theorem zav(x:I4)(way:Nat)(a:W4)(bl:Nat):(z19 s x way a bl).ents=(z19 m x way a bl).ents:=by
 have h1:=zgu h x way a bl;unfold z19;split
 ·exact zif h1 _ _
 ·exact h1
theorem zh1(x:I4)(y:W4):grA s x y=grA m x y:=by unfold grA;rw[z5m h]
theorem z97(x:I4)(mx y:W4):z7e s x mx y=z7e m x mx y:=by unfold z7e;rw[z5m h,zh1 h]
theorem zp0(x:I4)(mx y:W4)(bk dl:Nat):grN s x mx y bk dl=grN m x mx y bk dl:=by unfold grN;rw[z97 h]
theorem zq7(x:I4)(mx y:W4)(bk dl:Nat):grE s x mx y bk dl=grE m x mx y bk dl:=by unfold grE;rw[z97 h]
theorem zmb(x:I4)(y:W4):(grS1 s x y).ents=(grS1 m x y).ents:=by
 unfold grS1;rw[zh1 h];exact z2e h _ _
theorem zm0(x:I4)(tt mx y:W4)(bk dl:Nat):(grSt s x tt mx y bk dl).ents=(grSt m x tt mx y bk dl).ents:=by
 have h1:=zmb h x y;unfold grSt;rw[z97 h];split
 ·exact h
 ·split
  ·exact z2e h1 _ _
  ·exact zav h1 _ _ _ _
theorem zam(x:I4):shPE s x=shPE m x:=zj6 h _ _ _
theorem zp6(x:I4):(shP s x).ents=(shP m x).ents:=zi4 h _ _ _ _
theorem zan(x:I4)(y:W4):shSE s x y=shSE m x y:=by unfold shSE;rw[z5m h]
theorem zmk(x:I4)(y:W4):(shS1 s x y).ents=(shS1 m x y).ents:=by
 unfold shS1;rw[zan h,z5m h];split
 ·exact z2e h _ _
 ·exact h
theorem zoz(x:I4)(bk tl:Nat)(sl:Bool):shN s x bk tl sl=shN m x bk tl sl:=by unfold shN;rw[zam h]
theorem znz(x:I4)(y:W4)(bk tl:Nat)(sl:Bool):shE s x y bk tl sl=shE m x y bk tl sl:=by unfold shE;rw[zam h,zan h]
theorem zll(x:I4)(tt y:W4)(bk tl:Nat)(sl:Bool):(shSt s x tt y bk tl sl).ents=(shSt m x tt y bk tl sl).ents:=by
 have h1:=zp6 h x;have h2:=zmk h x y;unfold shSt;rw[zam h,zan h];split
 ·split
  ·exact zav h1 _ _ _ _
  ·exact h1
 ·split
  ·exact z2e h2 _ _
  ·exact h2
theorem z6e(x:I4)(tt:W4):mdUp s x tt=mdUp m x tt:=by unfold mdUp;rw[z6i h]
theorem za4(x:I4)(tt:W4):mdY s x tt=mdY m x tt:=by unfold mdY;rw[z6e h,z6i h]
theorem za9(x:I4)(tt:W4)(bk dl tl:Int):mdE0 s x tt bk dl tl=mdE0 m x tt bk dl tl:=by unfold mdE0;rw[z4h h,z6e h,za4 h]
theorem zai(x:I4)(tt mx:W4)(bk dl tl:Int)(sl:Bool):mdTE s x tt mx bk dl tl sl=mdTE m x tt mx bk dl tl sl:=by unfold mdTE;rw[z6e h,za4 h,zq7 h,znz h]
theorem zlq(x:I4)(tt mx:W4)(bk dl tl:Int)(sl:Bool):mdTN s x tt mx bk dl tl sl=mdTN m x tt mx bk dl tl sl:=by unfold mdTN;rw[z6e h,za4 h,zp0 h,zoz h]
theorem zma(x:I4)(tt mx:W4)(bk dl tl:Int)(sl:Bool):(mdTS s x tt mx bk dl tl sl).ents=(mdTS m x tt mx bk dl tl sl).ents:=by
 unfold mdTS;rw[z6e h,za4 h];split
 ·exact zm0 h _ _ _ _ _ _
 ·exact zll h _ _ _ _ _ _
theorem znq(x:I4)(tt mx:W4)(bk dl tl:Int)(sl:Bool):mdE s x tt mx bk dl tl sl=mdE m x tt mx bk dl tl sl:=by unfold mdE;rw[za9 h,zai h]
theorem zpy(x:I4)(tt mx:W4)(bk dl tl:Int)(sl:Bool):mdN s x tt mx bk dl tl sl=mdN m x tt mx bk dl tl sl:=by unfold mdN;rw[za9 h,zai h,zlq h]
theorem zm6(x:I4)(tt mx:W4)(bk dl tl:Int)(sl:Bool)(hs:Und s (mdTS s x tt mx bk dl tl sl))(hm:Und m (mdTS m x tt mx bk dl tl sl)):(mdSt s x tt mx bk dl tl sl).ents=(mdSt m x tt mx bk dl tl sl).ents:=by
 unfold mdSt;rw[za9 h,zai h,hs.2,hm.2];split
 ·split
  ·exact zma h _ _ _ _ _ _ _
  ·exact h
 ·exact h
theorem zot(x:I4):(mtA s x).ents=(mtA m x).ents:=by
 unfold mtA;rw[z5m h,z4h h];exact z2e h _ _
theorem zlv(x:I4):(mtSt s x).ents=(mtSt m x).ents:=by
 have h1:(mtS1 s x).ents=(mtS1 m x).ents:=by
  unfold mtS1;rw[z4h h];split
  ·exact h
  ·exact zje (zot h x) _ _
 have h2:mtN s x=mtN m x:=by unfold mtN;rw[z4h h,z6i h]
 unfold mtSt;rw[z4h h,h2];split
 ·exact h
 ·exact zdp (zdp (z2e h1 _ _) _) _
theorem zc1(x:I4)(f:W4):ctE s x f=ctE m x f:=by unfold ctE;rw[z5m h,z6i h]
theorem zn6(x:I4)(f:W4):ctW s x f=ctW m x f:=by unfold ctW;rw[zc1 h,z6i h]
end
theorem z5u{s:St}(h:getE s.ents z05=none)(v:ByteArray):s.put z05 v=s:=by
 unfold St.put;split
 ·unfold St.del;rw[h];rfl
 ·rfl
theorem z9z{t:Nat}{l:List Int}(h:¬ ∀ x∈l,0<=x):keyL t l=z05:=by
 unfold keyL;rw[if_pos]
 ·rfl
 ·rw[List.any_eq_true];simp only[Classical.not_forall]at h;obtain⟨x,hx,hn⟩:=h;exact⟨x,hx,decide_eq_true (by omega)⟩
theorem z4m{t u:Nat}(ht:t<=255)(hu:u<=255)(hne:t≠u){l m:List Int}(h:keyL t l=keyL u m):keyL t l=z05:=by
 by_cases hl:∀ x∈l,0<=x
 ·by_cases hm:∀ x∈m,0<=x
  ·exact absurd h (zxw ht hu hne hl hm)
  ·rw[h];exact z9z hm
 ·exact z9z hl
theorem zxr{s m:St}(h:s.ents=m.ents)(hs:Sorted s.ents)(he:getE s.ents z05=none)(x:I4)(f:W4):(ctSt s x f).ents=(z98 m x f).ents:=by
 have h2:(ctS2 s x f).ents=(z1d m x f).ents:=by
  unfold ctS2 ctS1 z1d zit;rw[z5m h,z6i h];unfold St.z09
  by_cases e:aAll x=aKey 29 x
  ·have e0:aAll x=z05:=z4m (by decide) (by decide) (by decide) e;have em:getE m.ents z05=none:=by rw[<- h];exact he
   rw[<- e,e0,z5u he,z5u he,z5u em,z5u em];exact h
  ·rw[put_comm hs e];exact z4c (z4c h _ _) _ _
 unfold ctSt z98;rw[zc1 h];split
 ·unfold ctS3 zhq;rw[z4h h2];split
  ·exact z2e h2 _ _
  ·exact h2
 ·exact h
inductive PG:Nat->St->St->Prop
 | refl (s:St):PG 0 s s
 | step {m:Nat} {s s1:St} {k v:ByteArray} (h:PG m s s1) (hk:k.size<=33) (hv:v.size<=1000000):PG (m+1) s (s1.put k v)
theorem PG.und{m:Nat}{s s':St}(h:PG m s s')(hs:Sorted s.ents):Und s s'/\Sorted s'.ents:=by
 induction h with
 | refl=>exact⟨Und.refl _,hs⟩
 | step _ _ _ ih=>exact Und.zys (ih hs) _ _
theorem PG.fit{m f:Nat}{s s':St}(h:PG m s s')(hf:s.Fit f):s'.Fit (f+2*m):=by
 induction h with
 | refl=>exact hf
 | step _ _ hv ih=>exact(ih hf).put _ hv |>.mono (by omega)
theorem PG.amt{m:Nat}{s s1:St}(h:PG m s s1){k:ByteArray}(hk:k.size<=33)(x:W4):PG (m+1) s (s1.z09 k x):=h.step hk (zr1 x)
theorem PG.del{m:Nat}{s s1:St}(h:PG m s s1){k:ByteArray}(hk:k.size<=33):PG (m+1) s (s1.del k):=by
 rw[z6o];exact h.step hk (by decide)
theorem z7o(t:Nat)(x:I4):(aKey t x).size<=33:=zd5 t (by simp)
theorem zgw(x:I4):(aAll x).size<=33:=zd5 32 (by simp)
theorem zox{m:Nat}{s s1:St}(h:PG m s s1){l:List Int}(hl:l.length<=2)(a b:Int):PG (m+1) s (z1m s1 33 l a b):=by
 unfold z1m;refine h.step (zd5 33 (by omega)) ?_;split<;>exact z15 _ (by simp)
theorem zwb{m:Nat}{s s1:St}(h:PG m s s1){l:List Int}(hl:l.length<=2)(r:List Int)(hr:r.length<=100):∃ j,j<=m+2/\PG j s (z2s s1 33 l 8 r):=by
 unfold z2s;split
 ·exact⟨m,by omega,h⟩
 ·exact⟨m+2,Nat.le_refl _,zox (h.step (zd5 33 (by rw[List.length_append,List.length_singleton];omega)) (z15 _ (by omega))) hl _ _⟩
theorem zyb{m:Nat}{s s1:St}(h:PG m s s1){l:List Int}(hl:l.length<=2):∃ j,j<=m+2/\PG j s (z3o s1 33 l):=by
 unfold z3o;split
 ·exact⟨m,by omega,h⟩
 ·exact⟨m+2,Nat.le_refl _,zox (h.del (zd5 33 (by rw[List.length_append,List.length_singleton];omega))) hl _ _⟩
theorem zlb{m:Nat}{s s1:St}(h:PG m s s1)(x:I4)(way:Nat)(a:W4)(bl:Nat):PG (m+2) s (z0t s1 x way a bl):=
 (h.step (z7o 30 x) (z15 _ (by simp))).amt (z7o 31 x) a
theorem zyl{m:Nat}{s s1:St}(h:PG m s s1)(bl:Nat){l:List Int}(hl:l.length<=100):PG (m+2) s (z4u s1 bl l):=by
 have h1:PG (m+1) s (z1z s1 bl l):=h.step (zd5 26 (by simp)) (z15 _ (by omega));unfold z4u St.z2r;exact h1.step (zd5 27 (by simp)) (zhg _)
theorem zqk{m:Nat}{s s1:St}(h:PG m s s1)(x:I4)(way:Nat)(a:W4)(bl:Nat):∃ j,j<=m+4/\PG j s (z19 s1 x way a bl):=by
 unfold z19;split
 ·exact⟨m+4,Nat.le_refl _,zyl (zlb h x way a bl) bl (by simp)⟩
 ·exact⟨m+2,by omega,zlb h x way a bl⟩
theorem zza(x:I4)(s:St)(tt mx y:W4)(bk dl:Nat):∃ j,j<=8/\PG j s (grSt s x tt mx y bk dl):=by
 have h1:PG 1 s (grS1 s x y):=(PG.refl s).amt (zgw x) _;unfold grSt;split
 ·exact⟨0,by omega,PG.refl s⟩
 ·split
  ·exact⟨2,by omega,h1.amt (z7o 29 x) _⟩
  ·obtain⟨j,hj,h⟩:=zqk h1 x 1 y (bk+dl);exact⟨j,by omega,h⟩
theorem zz5(x:I4)(s:St):∃ j,j<=2/\PG j s (shP s x):=by
 obtain⟨j,hj,h⟩:=zwb (PG.refl s) (l:=[x.1,x.2.1]) (by simp) [x.2.2.1,x.2.2.2] (by simp);exact⟨j,by omega,h⟩
theorem zx2(x:I4)(s:St)(y:W4):∃ j,j<=1/\PG j s (shS1 s x y):=by
 unfold shS1;split
 ·exact⟨1,by omega,(PG.refl s).amt (zgw x) _⟩
 ·exact⟨0,by omega,PG.refl s⟩
theorem zzw(x:I4)(s:St)(tt y:W4)(bk tl:Nat)(sl:Bool):∃ j,j<=8/\PG j s (shSt s x tt y bk tl sl):=by
 obtain⟨i,hi,h1⟩:=zz5 x s;obtain⟨i2,hi2,h2⟩:=zx2 x s y;unfold shSt;split
 ·split
  ·obtain⟨j,hj,h⟩:=zqk h1 x 2 y (bk+tl);exact⟨j,by omega,h⟩
  ·exact⟨i,by omega,h1⟩
 ·split
  ·exact⟨i2+1,by omega,h2.amt (z7o 29 x) _⟩
  ·exact⟨i2,by omega,h2⟩
theorem zsg(x:I4)(s:St)(tt mx:W4)(bk dl tl:Int)(sl:Bool):∃ j,j<=8/\PG j s (mdTS s x tt mx bk dl tl sl):=by
 unfold mdTS;split
 ·exact zza x s _ _ _ _ _
 ·exact zzw x s _ _ _ _ _
theorem ztn(x:I4)(s:St):∃ j,j<=8/\PG j s (mtSt s x):=by
 have h1:∃ j,j<=3/\PG j s (mtS1 s x):=by
  unfold mtS1;split
  ·exact⟨0,by omega,PG.refl s⟩
  ·exact zyb (m:=1) ((PG.refl s).amt (zgw x) _) (by simp)
 obtain⟨j,hj,h⟩:=h1;unfold mtSt;split
 ·exact⟨0,by omega,PG.refl s⟩
 ·exact⟨j+3,by omega,((h.amt (z7o 29 x) _).del (z7o 30 x)).del (z7o 31 x)⟩
theorem q06(x:I4)(s:St)(f:W4):∃ j,j<=8/\PG j s (ctSt s x f):=by
 have h2:PG 2 s (ctS2 s x f):=((PG.refl s).amt (zgw x) _).amt (z7o 29 x) _;unfold ctSt;split
 ·unfold ctS3;split
  ·exact⟨3,by omega,h2.amt (z7o 31 x) _⟩
  ·exact⟨2,by omega,h2⟩
 ·exact⟨0,by omega,PG.refl s⟩
theorem zyu(x:I4)(s:St)(f:W4):∃ j,j<=8/\PG j s (z98 s x f):=by
 have h2:PG 2 s (z1d s x f):=((PG.refl s).amt (z7o 29 x) _).amt (zgw x) _;unfold z98;split
 ·unfold zhq;split
  ·exact⟨3,by omega,h2.amt (z7o 31 x) _⟩
  ·exact⟨2,by omega,h2⟩
 ·exact⟨0,by omega,PG.refl s⟩
theorem zf6{e:Ent}{y:Int × Int}(h:z3i e=some y):∃ t a b:Nat,e.1=keyL t (z6l [a,b])/\a<9223372036854775808/\b<9223372036854775808/\y=((a:Int),(b:Int)):=by
 unfold z3i zd2 at h;cases hp:z2c e.1 with
 | none=>rw[hp]at h;cases h
 | some z =>
  obtain⟨t,ns⟩:=z;obtain⟨h1,h2⟩:=zq4 hp;rw[hp]at h
  match ns,h1,h2,h with
  | [],_,_,h=>cases h
  | [_],_,_,h=>cases h
  | [a,b],h1,h2,h =>
   refine⟨t,a,b,h1,h2 a (by simp),h2 b (by simp),?_⟩;dsimp only at h;split at h
   ·cases h;rfl
   ·cases h
  | _::_::_::_,_,_,h=>cases h
theorem zyn(t a b:Nat):z2k (keyL 26 []) (keyL t (z6l [a,b]))=true↔UInt8.ofNat 26=UInt8.ofNat t:=by
 rw[z5k,show keyL 26 []=keyL 26 (z6l [])from rfl,z3v,z3v,List.cons_prefix_cons]
 exact⟨fun h=>h.1,fun h=>⟨h,List.nil_prefix⟩⟩
theorem zzq{t a b c:Nat}(ha:a<9223372036854775808)(hc:c<9223372036854775808):z2k (keyL 26 [(c:Int)]) (keyL t (z6l [a,b]))=true↔UInt8.ofNat 26=UInt8.ofNat t/\a=c:=by
 rw[z5k,show keyL 26 [(c:Int)]=keyL 26 (z6l [c])from rfl,z3v,z3v,List.cons_prefix_cons]
 simp only[List.flatMap_cons,List.flatMap_nil,List.append_nil];constructor
 ·rintro⟨e,r,h⟩;obtain⟨e1,_⟩:=List.append_inj h (by rw[z5z,z5z]);exact⟨e,(zq2 hc ha e1).symm⟩
 ·rintro⟨e,rfl⟩;exact⟨e,be8 b,rfl⟩
theorem zei{bl:Nat}(hbl:bl<9223372036854775808):∀ us:List Ent,(z0o (keyL 26 [(bl:Int)]) us).filterMap z3i=((z0o (keyL 26 []) us).filterMap z3i).filter fun y=>decide (y.1=(bl:Int))
 | []=>rfl
 | e::us=>by
  have ih:=zei hbl us
  unfold z0o at ih ⊢
  cases hd:z3i e with
  | none =>
   have e1:∀ p,((e::us).filter fun x=>z2k p x.1).filterMap z3i=(us.filter fun x=>z2k p x.1).filterMap z3i:=fun p=>by
    rw[List.filter_cons]
    split
    ·rw[List.filterMap_cons_none hd]
    ·rfl
   rw[e1,e1];exact ih
  | some y =>
   obtain⟨t,a,b,h1,h2,h3,rfl⟩:=zf6 hd
   rw[List.filter_cons,List.filter_cons]
   have p1:=zzq (t:=t) (b:=b) h2 hbl
   have p0:=zyn t a b
   rw[<- h1]at p1 p0
   by_cases ht:UInt8.ofNat 26=UInt8.ofNat t
   ·rw[if_pos (c:=z2k (keyL 26 []) e.1=true) (p0.2 ht),List.filterMap_cons_some hd,List.filter_cons]
    by_cases hab:a=bl
    ·rw[if_pos (p1.2 ⟨ht,hab⟩),List.filterMap_cons_some hd,if_pos (decide_eq_true (by show(a:Int)=(bl:Int);omega)),ih]
    ·rw[if_neg (fun h=>hab (p1.1 h).2),if_neg (fun h=>hab (by have h:=of_decide_eq_true h;dsimp only at h;omega)),ih]
   ·rw[if_neg (c:=z2k (keyL 26 []) e.1=true) (fun h=>ht (p0.1 h)),if_neg (fun h=>ht (p1.1 h).1),ih]
theorem zki{n:Int}(hn:n<=1000000000000)(bl:Int):∀ (l:List (Int × Int)),(∀ y∈l,0<=y.2/\y.2<n)->∀ a:Int,l.foldl (fun n y=>if y.1=bl/\n<=y.2 then wrap64 (y.2+1)else n) a=(l.filter fun y=>decide (y.1=bl)).foldl (fun n y=>max n (wrap64 (y.2+1))) a
 | [],_,_=>rfl
 | y::l,h,a=>by
  have hy:=h y (by simp)
  have e:wrap64 (y.2+1)=y.2+1:=by unfold wrap64;omega
  rw[List.foldl_cons,zki hn bl l (fun z hz=>h z (by simp[hz])),List.filter_cons]
  by_cases hb:y.1=bl
  ·rw[if_pos (decide_eq_true hb),List.foldl_cons,e]
   congr 1
   by_cases hle:a<=y.2
   ·rw[if_pos ⟨hb,hle⟩];omega
   ·rw[if_neg (fun h=>hle h.2)];omega
  ·rw[if_neg (fun h=>hb (of_decide_eq_true h)),if_neg (fun h=>hb h.1)]
structure AG (n:Nat) (s:St):Prop where
 srt:Sorted s.ents
 key:∀ y∈s.ents,y.1.size<=33
 ne:getE s.ents z05=none
 eb:∀ a b:Int,(ends s 33 [a,b]).2<=n
 c27:s.int K27<=n
 dn:∀ y∈dueE (keyL 26 []) s,0<=y.2/\y.2<(n:Int)
theorem AG.empty:AG 0 z2g:=⟨List.Pairwise.nil,(fun y hy=>by cases hy),rfl,(fun a b=>by
 show(z3d (rowOf ((getE [] (keyL 33 [a,b])).getD z05))).2<=0
 exact Nat.le_refl _),Nat.le_refl _,fun y hy=>by cases hy⟩
theorem AG.mono{n n':Nat}{s:St}(h:AG n s)(hn:n<=n'):AG n' s:=⟨h.srt,h.key,h.ne,fun a b=>Nat.le_trans (h.eb a b) hn,Nat.le_trans h.c27 hn,fun y hy=>⟨(h.dn y hy).1,by have:=(h.dn y hy).2;omega⟩⟩
theorem AG.congr{n:Nat}{s m:St}(h:AG n s)(he:s.ents=m.ents):AG n m:=by
 refine⟨he▸h.srt,fun y hy=>h.key y (he▸hy),he▸h.ne,fun a b => ?_,?_,fun y hy=>h.dn y ?_⟩
 ·rw[<- z8c he];exact h.eb a b
 ·rw[<- zgp he];exact h.c27
 ·rw[zen he];exact hy
theorem AG.put{n n':Nat}{s:St}(h:AG n s)(hn:n<=n'){k v:ByteArray}(hk:k.size<=33)(h33:∀ a b:Int,k=keyL 33 [a,b]->k≠z05->(z3d (rowOf v)).2<=n')(h27:k=K27->z9w v<=n')(h26:∀ e:Ent,e.1=k->k≠z05->z2k (keyL 26 []) k=true->∀ y,z3i e=some y->0<=y.2/\y.2<(n':Int)):AG n' (s.put k v):=by
 by_cases hk0:k=z05
 ·rw[hk0,z5u h.ne];exact h.mono hn
 ·have H:=h.mono hn;refine⟨z6u h.srt _ _,fun y hy => ?_,?_,fun a b => ?_,?_,fun y hy => ?_⟩
  ·rcases zl1 hy with e | hy
   ·rw[e];exact hk
   ·exact h.key y hy
  ·rw[z9n h.srt,if_neg hk0];exact h.ne
  ·unfold ends;rw[z7q s h.srt k v _ hk0];split
   ·exact h33 a b ‹_› hk0
   ·exact H.eb a b
  ·unfold St.int;rw[z7q s h.srt k v _ hk0];split
   ·exact h27 ‹_›
   ·exact H.c27
  ·unfold dueE z0o at hy;obtain⟨e,he,hd⟩:=List.mem_filterMap.1 hy;obtain⟨he1,he2⟩:=List.mem_filter.1 he;rcases zl1 he1 with e1 | he1
   ·exact h26 e e1 hk0 (by rw[<- e1];exact he2) y hd
   ·refine H.dn y ?_;unfold dueE z0o;exact List.mem_filterMap.2 ⟨e,List.mem_filter.2 ⟨he1,he2⟩,hd⟩
theorem zvo{t:Nat}(ht:t<=255){l:List Int}(h:z2k (keyL 26 []) (keyL t l)=true)(h0:keyL t l≠z05):26=t:=by
 by_cases hl:∀ x∈l,0<=x
 ·exact zod (by decide) ht (fun _ h=>by cases h) hl h
 ·exact absurd (z9z hl) h0
theorem zqb:K27≠z05:=za0 27 (fun _ h=>by cases h)
theorem AG.putT{n:Nat}{s:St}(h:AG n s){t:Nat}(ht:t<=255)(h33:t≠33)(h27:t≠27)(h26:t≠26){l:List Int}(hl:l.length<=4)(v:ByteArray):AG n (s.put (keyL t l) v):=
 h.put (Nat.le_refl _) (zd5 t hl) (fun a b e h0=>absurd (z4m ht (by decide) h33 e) h0) (fun e=>absurd (e.symm.trans (z4m ht (by decide) h27 e)) zqb)
  fun e _ h0 hp _ _=>absurd (zvo ht hp h0).symm h26
theorem AG.amtT{n:Nat}{s:St}(h:AG n s){t:Nat}(ht:t<=255)(h33:t≠33)(h27:t≠27)(h26:t≠26){l:List Int}(hl:l.length<=4)(x:W4):AG n (s.z09 (keyL t l) x):=h.putT ht h33 h27 h26 hl _
theorem AG.delT{n:Nat}{s:St}(h:AG n s){t:Nat}(ht:t<=255)(h33:t≠33)(h27:t≠27)(h26:t≠26){l:List Int}(hl:l.length<=4):AG n (s.del (keyL t l)):=by
 rw[z6o];exact h.putT ht h33 h27 h26 hl _
theorem zbf{t:Nat}{l:List Int}(h:keyL t l≠z05):(keyL t l).size=1+8*l.length:=by
 unfold keyL at h ⊢;split
 ·rename_i hc;rw[if_pos hc]at h;exact absurd rfl h
 ·show(keyBytes t l).toArray.size=_
  rw[List.size_toArray,z4q]
theorem AG.zmw{n n':Nat}{s:St}(h:AG n s)(hn:n<=n'){l:List Int}(hl:l.length<=4)(v:ByteArray)(hv:l.length=2->(z3d (rowOf v)).2<=n'):AG n' (s.put (keyL 33 l) v):=
 h.put hn (zd5 33 hl) (fun a b e h0=>hv (by
  have e1:=zbf h0
  have e2:=zbf (t:=33) (l:=[a,b]) (by rw[<- e];exact h0)
  rw[e,e2]at e1
  simp only[List.length_cons,List.length_nil]at e1
  omega)) (fun e=>absurd (e.symm.trans (z4m (by decide) (by decide) (by decide) e)) zqb)
  fun e _ h0 hp _ _=>absurd (zvo (by decide) hp h0) (by decide)
theorem zqc{n n':Nat}{s:St}(h:AG n s)(hn:n<=n'){l:List Int}(hl:l.length=2){a b:Nat}(ha:a<9223372036854775808)(hb:b<9223372036854775808)(hbn:b<=n'):AG n' (z1m s 33 l (a:Int) (b:Int)):=by
 unfold z1m;refine h.zmw hn (by omega) _ fun _ => ?_
 split
 ·rw[z7k [] (fun _ h=>by cases h)];exact Nat.zero_le _
 ·rw[z7k _ (fun n hn=>by
   simp only[List.mem_cons,List.not_mem_nil,or_false]at hn
   rcases hn with rfl | rfl<;>omega)]
  exact Nat.le_trans (zo2 _ _) hbn
theorem zbo{n:Nat}{s:St}(h:AG n s)(hn:n<1000000)(a b:Int)(r:List Int):AG (n+1) (z2s s 33 [a,b] 8 r):=by
 have hle:=z5o s 33 [a,b];have hb:=h.eb a b;unfold z2s;split
 ·exact h.mono (by omega)
 ·exact zqc (n':=n+1) (h.zmw (Nat.le_refl _) (by simp) _ fun e=>by simp at e) (by omega) (by simp) (by omega) (by omega) (by omega)
theorem zqg{n:Nat}{s:St}(h:AG n s)(hn:n<1000000)(a b:Int):AG n (z3o s 33 [a,b]):=by
 have hle:=z5o s 33 [a,b];have hb:=h.eb a b;unfold z3o;split
 ·exact h
 ·rw[z6o];exact zqc (n':=n) (h.zmw (Nat.le_refl _) (by simp) _ fun e=>by simp at e) (by omega) (by simp) (by omega) (by omega) (by omega)
theorem z5t{n:Nat}{s:St}(h:AG n s)(x:I4)(way:Nat)(a:W4)(bl:Nat):AG n (z0t s x way a bl):=
 (h.putT (t:=30) (by decide) (by decide) (by decide) (by decide) (by simp) _).amtT (t:=31) (by decide) (by decide) (by decide) (by decide) (by simp) a
theorem zwu{n:Nat}{s:St}(h:AG n s)(hn:n<1000000000)(bl:Nat):dueN s bl<=(n:Int):=by
 have hm:∀ y∈dueE (keyL 26 [(bl:Int)]) s,0<=y.2/\y.2<(n:Int):=fun y hy=>by
  unfold dueE z0o at hy;obtain⟨e,he,hd⟩:=List.mem_filterMap.1 hy;obtain⟨he1,he2⟩:=List.mem_filter.1 he;refine h.dn y ?_;unfold dueE z0o;refine List.mem_filterMap.2 ⟨e,List.mem_filter.2 ⟨he1,?_⟩,hd⟩;obtain⟨t,a,b,h1,_,_,_⟩:=zf6 hd;have h2:=z5k.1 he2;rw[h1,show keyL 26 [(bl:Int)]=keyL 26 (z6l [bl])from rfl,z3v,z3v,List.cons_prefix_cons]at h2
  rw[h1];exact(zyn t a b).2 h2.1
 unfold dueN dueF
 suffices H:∀ (l:List (Int × Int)) (a:Int),(∀ y∈l,0<=y.2/\y.2<(n:Int))->a<=(n:Int)->l.foldl (fun n y=>max n (wrap64 (y.2+1))) a<=(n:Int)from H _ 0 hm (by omega)
 intro l
 induction l with
 | nil=>exact fun a _ h=>h
 | cons y l ih =>
  intro a hy ha;have h1:=hy y (by simp);have e:wrap64 (y.2+1)=y.2+1:=by unfold wrap64;omega
  exact ih _ (fun z hz=>hy z (by simp[hz])) (by dsimp only;rw[e];omega)
theorem zn5{n:Nat}{s:St}(h:AG n s)(hn:n<1000000000){bl:Nat}(hbl:bl<9223372036854775808):z6k bl (dueE (keyL 26 []) s)=dueN s bl:=by
 unfold z6k dueN dueF;rw[zki (n:=n) (by omega) bl _ h.dn];unfold dueE;rw[zei hbl]
theorem zf3{n:Nat}{s:St}(h:AG n s)(hn:n<1000000)(bl:Nat){l:List Int}:AG (n+1) (z1z s bl l)/\(z1z s bl l).int K27=s.int K27/\AG (n+1) (z4u s bl l):=by
 have hd:=zwu h (by omega) bl;have hd0:0<=dueN s bl:=(zio _).1;have h1:AG (n+1) (z1z s bl l):=by
  unfold z1z;refine h.put (by omega) (zd5 26 (by simp)) (fun a b e h0=>absurd (z4m (by decide) (by decide) (by decide) e) h0) (fun e=>absurd (e.symm.trans (z4m (by decide) (by decide) (by decide) e)) zqb) fun e he h0 _ y hy => ?_
  obtain⟨t,a,b,h1,h2,h3,rfl⟩:=zf6 hy;have hk:keyL 26 [(bl:Int),dueN s bl]=keyL 26 (z6l [bl,(dueN s bl).toNat]):=by
   show _=keyL 26 [(bl:Int),(((dueN s bl).toNat:Nat):Int)]
   rw[Int.toNat_of_nonneg hd0]
  have h4:(keyL t (z6l [a,b])).data.toList=(keyL 26 (z6l [bl,(dueN s bl).toNat])).data.toList:=by rw[<- h1,he,hk]
  rw[z3v,z3v]at h4;simp only[List.flatMap_cons,List.flatMap_nil,List.append_nil,List.cons.injEq]at h4;obtain⟨_,h5⟩:=List.append_inj h4.2 (by rw[z5z,z5z]);have h6:=zq2 h3 (by omega) h5;dsimp only;omega
 have h2:(z1z s bl l).int K27=s.int K27:=by
  unfold z1z St.int
  by_cases h0:keyL 26 [(bl:Int),dueN s bl]=z05
  ·rw[h0,z5u h.ne]
  ·rw[z7q s h.srt _ _ _ h0,if_neg];exact fun e=>absurd (z4m (by decide) (by decide) (by decide) e) h0
 refine⟨h1,h2,?_⟩;have hc:=h.c27;unfold z4u St.z2r;refine h1.put (Nat.le_refl _) (zd5 27 (by simp)) (fun a b e h0=>absurd (z4m (by decide) (by decide) (by decide) e) h0) (fun _ => ?_) fun e _ h0 hp _ _=>absurd (zvo (by decide) hp h0) (by decide)
 rw[h2];split
 ·rw[zh2];exact Nat.zero_le _
 ·rw[zik _ (by omega)];omega
theorem zns{n:Nat}{s:St}(h:AG n s)(hn:n<1000000)(x:I4)(way:Nat)(a:W4)(bl:Nat):AG (n+1) (z19 s x way a bl):=by
 have h2:=z5t h x way a bl;unfold z19;split
 ·exact(zf3 h2 hn bl).2.2
 ·exact h2.mono (by omega)
theorem zeg{n:Nat}{s:St}(h:AG n s)(x:I4)(y:W4):AG n (grS1 s x y):=h.amtT (t:=32) (by decide) (by decide) (by decide) (by decide) (by simp) _
theorem zzt{n:Nat}{s:St}(h:AG n s)(hn:n<1000000)(x:I4)(tt mx y:W4)(bk dl:Nat):AG (n+1) (grSt s x tt mx y bk dl):=by
 have h1:=zeg h x y;unfold grSt;split
 ·exact h.mono (by omega)
 ·split
  ·exact(h1.amtT (t:=29) (by decide) (by decide) (by decide) (by decide) (by simp) _).mono (by omega)
  ·exact zns h1 hn _ _ _ _
theorem zzm{n:Nat}{s:St}(h:AG n s)(hn:n<100000)(x:I4)(tt y:W4)(bk tl:Nat)(sl:Bool):AG (n+2) (shSt s x tt y bk tl sl):=by
 have h1:AG (n+1) (shP s x):=zbo h (by omega) _ _ _;have h2:AG n (shS1 s x y):=by
  unfold shS1;split
  ·exact h.amtT (t:=32) (by decide) (by decide) (by decide) (by decide) (by simp) _
  ·exact h
 unfold shSt;split
 ·split
  ·exact zns h1 (by omega) _ _ _ _
  ·exact h1.mono (by omega)
 ·split
  ·exact(h2.amtT (t:=29) (by decide) (by decide) (by decide) (by decide) (by simp) _).mono (by omega)
  ·exact h2.mono (by omega)
theorem zxi{n:Nat}{s:St}(h:AG n s)(hn:n<100000)(x:I4)(tt mx:W4)(bk dl tl:Int)(sl:Bool):AG (n+2) (mdTS s x tt mx bk dl tl sl):=by
 unfold mdTS;split
 ·exact(zzt h (by omega) _ _ _ _ _ _).mono (by omega)
 ·exact zzm h hn _ _ _ _ _ _
theorem z90{s:St}(hs:Sorted s.ents)(x:I4)(tt mx:W4)(bk dl tl:Int)(sl:Bool):Und s (mdTS s x tt mx bk dl tl sl):=by
 obtain⟨j,_,h⟩:=zsg x s tt mx bk dl tl sl;exact(h.und hs).1
theorem zrk{n:Nat}{s:St}(h:AG n s)(hn:n<100000)(x:I4)(tt mx:W4)(bk dl tl:Int)(sl:Bool):AG (n+2) (mdSt s x tt mx bk dl tl sl):=by
 unfold mdSt;split
 ·split
  ·exact zxi h hn _ _ _ _ _ _ _
  ·rw[(z90 h.srt x tt mx bk dl tl sl).2];exact h.mono (by omega)
 ·exact h.mono (by omega)
theorem zb2{n:Nat}{s:St}(h:AG n s)(x:I4):AG n (mtA s x):=h.amtT (t:=32) (by decide) (by decide) (by decide) (by decide) (by simp) _
theorem zy8{n:Nat}{s:St}(h:AG n s)(hn:n<100000)(x:I4):AG n (mtSt s x):=by
 have h1:AG n (mtS1 s x):=by
  unfold mtS1;split
  ·exact h
  ·exact zqg (zb2 h x) (by omega) _ _
 unfold mtSt;split
 ·exact h
 ·exact((h1.amtT (t:=29) (by decide) (by decide) (by decide) (by decide) (by simp) _).delT (t:=30) (by decide) (by decide) (by decide) (by decide) (by simp)).delT (t:=31) (by decide) (by decide) (by decide) (by decide) (by simp)
theorem zzz{n:Nat}{s:St}(h:AG n s)(x:I4)(f:W4):AG n (ctSt s x f):=by
 have h2:AG n (ctS2 s x f):=(h.amtT (t:=32) (by decide) (by decide) (by decide) (by decide) (by simp) _).amtT (t:=29) (by decide) (by decide) (by decide) (by decide) (by simp) _;unfold ctSt;split
 ·unfold ctS3;split
  ·exact h2.amtT (t:=31) (by decide) (by decide) (by decide) (by decide) (by simp) _
  ·exact h2
 ·exact h
theorem zjx{n f:Nat}{s:St}(h:AG n s)(hn:n<100000)(hf:s.Fit f)(hm:f<1000000)(x:I4)(tt mx:W4)(bk dl tl:Int)(sl:Bool):MdOk s x tt mx bk dl tl sl:=by
 obtain⟨j,hj,hp⟩:=zsg x s tt mx bk dl tl sl;have hu:=hp.und h.srt;have hF:=hp.fit hf;have g1:=z5t (zeg h x (mdY s x tt)) x 1 (mdY s x tt) (bk.toNat+dl.toNat);have g2:AG (n+1) (shP s x):=zbo h (by omega) _ _ _;have g3:=z5t g2 x 2 (mdY s x tt) (bk.toNat+tl.toNat);refine⟨?_,fun z hz => ?_,fun z hz => ?_,?_,?_,hu.1.1,Nat.lt_of_le_of_lt hF.size (by omega)⟩
 ·have:=h.eb x.1 x.2.1;omega
 ·have:=g1.key z hz;omega
 ·have:=g3.key z hz;omega
 ·have:=(zf3 (l:=x.l) g1 (by omega) (bk.toNat+dl.toNat)).1.c27;omega
 ·have:=(zf3 (l:=x.l) g3 (by omega) (bk.toNat+tl.toNat)).1.c27;omega
theorem zwq{n:Nat}{s:St}(h:AG n s)(hn:n<100000)(x:I4)(tt:W4){bk dl tl:Int}(hb:z3j [bk,dl,tl]=true):zz4 s x tt bk dl tl:=by
 obtain⟨⟨b1,b2⟩,⟨b3,b4⟩,b5,b6⟩:=z8e hb;have g1:=z5t (zeg h x (mdY s x tt)) x 1 (mdY s x tt) (bk.toNat+dl.toNat);have g2:AG (n+1) (shP s x):=zbo h (by omega) _ _ _;have g3:=z5t g2 x 2 (mdY s x tt) (bk.toNat+tl.toNat);exact⟨zn5 g1 (by omega) (by omega),zn5 g3 (by omega) (by omega)⟩
theorem zxz{n:Nat}{s:St}(h:AG n s)(x:I4)(hp:(pend s x).1≠0):∀ n∈x.l,0<=n:=by
 apply Classical.byContradiction;intro hx;refine hp ?_;have e:aKey 30 x=z05:=z9z hx;have e2:s.val z05=z05:=by unfold St.val;rw[h.ne];rfl
 rw[zjt,e,e2,z9a];rfl
end Go.Proofs.YtnkilceibkkjlaaGreat
