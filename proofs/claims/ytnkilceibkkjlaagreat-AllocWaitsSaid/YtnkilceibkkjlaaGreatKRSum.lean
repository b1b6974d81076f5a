/- What is proved here: tallageref01.Plus and Minus of the r -/
import Derived.Test.YtnkilceibkkjlaaGreatKRDig
set_option maxRecDepth 100000
set_option maxHeartbeats 16000000
namespace Go.Proofs.YtnkilceibkkjlaaGreat
open Go.RowKit
def dg(l:List Nat)(k:Nat):Nat:=l.getD k 0
theorem zah{l:List Nat}{k:Nat}(h:k<l.length):l[k]?=some (dg l k):=getD_at h
theorem z8k{l:List Nat}(h:DOk l)(k:Nat):dg l k<4294967296:=Words.getD (by decide) (fun d hd=>h d hd) k
theorem zcz{l:List Nat}{k:Nat}(h:l.length<=k):dg l k=0:=by
 unfold dg;rw[List.getD_eq_getElem?_getD,List.getElem?_eq_none h];rfl
theorem z3c(l:List Nat)(k:Nat):z04 (l.take (k+1))=z04 (l.take k)+BP k*dg l k:=by
 by_cases h:k<l.length
 ·exact z2w (zah h)
 ·have e:dg l k=0:=by unfold dg;rw[List.getD_eq_getElem?_getD,List.getElem?_eq_none (by omega)];rfl
  rw[e,List.take_of_length_le (by omega),List.take_of_length_le (by omega)];simp
theorem zux(l:List Nat)(d:Nat):dV (l ++ [d])=dV l ++ [.int .u32 (d:Int)]:=by simp[dV]
structure MkAt (w:World) (aa ab:Option Addr) (da db:List Nat) (ca cb:Nat) (o:List Nat) (v:Value) (wr:World):Prop where
 b:Below w.heap.size w wr
 a:DgIn wr aa da ca
 c:DgIn wr ab db cb
 o:Own wr 181 1 v o.length (dV o)
 f:∀ g,v.ownBlock=some g->w.heap.size<=g
 na:∀ g,aa=some ⟨g,0,none⟩->g<w.heap.size\/da = []
 nb:∀ g,ab=some ⟨g,0,none⟩->g<w.heap.size\/db = []
theorem DgIn.old{w:World}{ad:Option Addr}{ds:List Nat}{c:Nat}(h:DgIn w ad ds c):∀ g,ad=some ⟨g,0,none⟩->g<w.heap.size\/ds = []:=fun g hg=>by
 rcases h.2 with⟨h1,h2⟩ | ⟨g',h1,h2⟩
 ·exact .inr h2
 ·rw[h1]at hg
  cases hg
  cases ds with
  | nil=>exact .inr rfl
  | cons d ds=>exact .inl (World.block_lt_of_cell? w _ (h2 0 d rfl))
theorem DgIn.keep{w wr w':World}{ad:Option Addr}{ds:List Nat}{c:Nat}(h:DgIn wr ad ds c)(hn:∀ g,ad=some ⟨g,0,none⟩->g<w.heap.size\/ds = [])(hb:∀ g,g<w.heap.size->w'.heap[g]?=wr.heap[g]?):DgIn w' ad ds c:=by
 obtain⟨h1,h2⟩:=h;refine⟨h1,?_⟩;rcases h2 with h2 | ⟨g,h2,h3⟩
 ·exact .inl h2
 ·refine .inr ⟨g,h2,fun j d hj => ?_⟩;rcases hn g h2 with h4 | h4
  ·rw[World.cell?_of_block (w:=wr) (hb g h4)];exact h3 j d hj
  ·rw[h4]at hj;simp at hj
theorem MkAt.start{w:World}{aa ab:Option Addr}{da db:List Nat}{ca cb:Nat}(hA:DgIn w aa da ca)(hB:DgIn w ab db cb):MkAt w aa ab da db ca cb [] (.slice none 0 0) w:=
 ⟨Below.refl _ _,hA,hB,Own.nil _ _ _,fun g hg=>by simp[Value.ownBlock]at hg,hA.old,hB.old⟩
theorem MkAt.next{w wr:World}{aa ab:Option Addr}{da db:List Nat}{ca cb:Nat}{o:List Nat}{v:Value}{n:Nat}(hn:o.length=n)(h:MkAt w aa ab da db ca cb o v wr):(∀ b,Own (wr.alloc b) 181 1 v n (dV o))/\∀ (d:Nat) v' w' b,z0s (wr.alloc b) 181 1 v n 1 (dV o) [.int .u32 (d:Int)] v' w'->MkAt w aa ab da db ca cb (o ++ [d]) v' w':=by
 subst hn;have hsz:=h.b.size;refine⟨fun b=>h.o.frame fun g hg=>heap_alloc_old wr b (h.o.lt g hg),fun d v' w' b hA => ?_⟩;obtain⟨h1,h2,_,h4⟩:=hA;have hf:∀ g,v'.ownBlock=some g->w.heap.size<=g:=fun g hg=>by
  rcases h4 g hg with h5 | h5
  ·exact h.f g h5
  ·rw[World.size_alloc]at h5;omega
 have hb:Below w.heap.size w w':=Below.grown (z00 h.b b) h2 (by rw[World.size_alloc];omega) h.f;have hk:∀ g,g<w.heap.size->w'.heap[g]?=wr.heap[g]?:=fun g hg=>by
  rw[h2.block g (by rw[World.size_alloc];omega) (fun e=>by have:=h.f _ e.symm;omega),heap_alloc_old wr b (by omega)]
 refine⟨hb,h.a.keep h.na hk,h.c.keep h.nb hk,?_,hf,h.na,h.nb⟩;rw[zux,List.length_append];exact h1
theorem MkAt.trim{w wr:World}{aa ab:Option Addr}{da db:List Nat}{ca cb:Nat}{o:List Nat}{v:Value}(h:MkAt w aa ab da db ca cb o v wr)(hd:DOk o)(hl:o.length<1000000):Calls Tryz.prog 127 #[v] wr (ziw w (z04 o)):=zkc h.b h.o rfl hd hl h.f
theorem z7j(x:Int):∀ u∈[Value.int .u32 x],u.oneCell'=true:=by intro u hu;rw[List.mem_singleton.1 hu];rfl
def plC(a b:List Nat):Nat->Nat
 | 0=>0
 | k+1=>(plC a b k+dg a k+dg b k)/4294967296
def plD(a b:List Nat):Nat->List Nat
 | 0 => []
 | k+1=>plD a b k ++ [(plC a b k+dg a k+dg b k)%4294967296]
theorem zn2{a b:List Nat}(ha:DOk a)(hb:DOk b):∀ k,plC a b k<=1
 | 0=>by show 0<=1;decide
 | k+1=>by
  have h:=zn2 ha hb k
  have h1:=z8k ha k
  have h2:=z8k hb k
  show(plC a b k+dg a k+dg b k)/4294967296<=1
  omega
theorem zfr(a b:List Nat):∀ k,(plD a b k).length=k
 | 0=>rfl
 | k+1=>by rw[plD,List.length_append,zfr a b k];rfl
theorem zui(a b:List Nat):∀ k,DOk (plD a b k)
 | 0=>fun d hd=>by cases hd
 | k+1=>(zui a b k).snoc (Nat.mod_lt _ (by decide))
theorem znx(a b:List Nat):∀ k,z04 (plD a b k)+BP k*plC a b k=z04 (a.take k)+z04 (b.take k)
 | 0=>by simp[plD,plC,z04,dgN]
 | k+1=>by
  have h:=znx a b k
  rw[plD,zad,zfr,z3c,z3c,z6w,show plC a b (k+1)=(plC a b k+dg a k+dg b k)/4294967296 from rfl]
  have h1:=Nat.div_add_mod (plC a b k+dg a k+dg b k) 4294967296
  generalize (plC a b k+dg a k+dg b k)/4294967296=q at *
  generalize (plC a b k+dg a k+dg b k)%4294967296=r at *
  have h2:=congrArg (BP k * ·) h1
  simp only[Nat.mul_add]at h2
  rw[Nat.mul_comm 4294967296 (BP k),Nat.mul_assoc]
  omega
theorem zjw(w:World)(va vb:Value)(da db:List Nat)(ha:DOk da)(hb:DOk db)(hla:da.length<100000)(hlb:db.length<100000)(hA:DgAt w va da)(hB:DgAt w vb db):Calls Tryz.prog 77 #[va,vb] w (ziw w (z04 da+z04 db)):=by
 obtain⟨aa,ca,rfl,hA⟩:=hA;obtain⟨ab,cb,rfl,hB⟩:=hB;have H0:=zh (MkAt.start hA hB);have HC:=zh (zn2 ha hb);have HL:=zh (zfr da db);have HE:Hid (∀ k v wr,da.length<=k->db.length<=k->k<200000->plC da db k=0->MkAt w aa ab da db ca cb (plD da db k) v wr->Calls Tryz.prog 127 #[v] wr (ziw w (z04 da+z04 db))):=fun k v wr h1 h2 h3 h4 hM=>by
  have h5:=znx da db k;rw[h4,List.take_of_length_le h1,List.take_of_length_le h2,Nat.mul_zero,Nat.add_zero]at h5;rw[<- h5];exact hM.trim (zui da db k) (by rw[zfr];omega)
 have HCz:Hid (∀ k,max da.length db.length<k->plC da db k=0):=fun k hk=>by
  cases k with
  | zero=>omega
  | succ k =>
   have e1:dg da k=0:=by unfold dg;rw[List.getD_eq_getElem?_getD,List.getElem?_eq_none (by omega)];rfl
   have e2:dg db k=0:=by unfold dg;rw[List.getD_eq_getElem?_getD,List.getElem?_eq_none (by omega)];rfl
   show(plC da db k+dg da k+dg db k)/4294967296=0
   have:=zn2 ha hb k;rw[e1,e2];omega
 have HDa:=zh (fun k=>z8k ha k);have HDb:=zh (fun k=>z8k hb k);clear hA hB ha hb;go_enter Tryz.func77,Tryz.ntmps77;go_wp2_with fail
 go_loopw [7,5,6] (fun iv v cv wr=>∃ k:Nat,iv= .int .i64 k/\k<=max da.length db.length+1/\cv= .int .u64 (plC da db k)/\MkAt w aa ab da db ca cb (plD da db k) v wr) (fun iv _ _ _=>max da.length db.length+1-(intOf iv).toNat)
 case atStart=>exact⟨0,rfl,by omega,rfl,H0.out⟩
 case round =>
  obtain⟨k,rfl,hk,rfl,hM⟩:=hrel;have HM:=zh hM;clear hM H0;have hc:=HC.out k
  by_cases hka:k<da.length
  ·have d1:decide ((k:Int)<((da.length:Nat):Int))=true:=decide_eq_true (by omega);have d2:decide (k<da.length)=true:=decide_eq_true hka;obtain⟨g,hga,hcx⟩:=HM.out.a.at (zah hka);have hix:=z1s (c:=ca) hga hka;have hxl:=HDa.out k
   by_cases hkb:k<db.length
   ·have d3:decide ((k:Int)<((db.length:Nat):Int))=true:=decide_eq_true (by omega);have d4:decide (k<db.length)=true:=decide_eq_true hkb;obtain⟨f,hfb,hcy⟩:=HM.out.c.at (zah hkb);have hiy:=z1s (c:=cb) hfb hkb;have hyl:=HDb.out k;obtain⟨ho,hn⟩:=MkAt.next (HL.out k) HM.out;have HN:Hid (∀ v' w' b,z0s (wr.alloc b) 181 1 _ k 1 (dV (plD da db k)) [.int .u32 (((plC da db k+dg da k+dg db k)%4294967296:Nat):Int)] v' w'->MkAt w aa ab da db ca cb (plD da db (k+1)) v' w'):=fun v' w' b hA=>hn _ v' w' b hA
    have HCS:Hid (plC da db (k+1)=(plC da db k+dg da k+dg db k)/4294967296):=rfl;have HO:=zh ho;clear ho hn hga hfb HE HCz HDa HDb HC;generalize dg da k=x at *
    generalize dg db k=y at *
    generalize plC da db k=c at *
    go_wp2_with (at_builtin;refine z08 rfl _ _ 115 115 rfl digT digT _ k _ rfl (HO.out _) _ 1 _ [.int .u32 (((c:Int)+(x:Int)+(y:Int))%4294967296)] rfl rfl (z1r _ _ _) (z7j _) (by unfold maxLen;omega) (by omega) ?_);intro v' w' hA;have HR:=zh (HN.out v' w' _ hA);clear hA HN HO;go_wp2_with fail;go_roundw
    case rel=>exact⟨k+1,by go_num,by omega,by rw[HCS.out];rfl,HR.out⟩
    case measure=>simp[intOf];omega
   ·have d3:decide ((k:Int)<((db.length:Nat):Int))=false:=decide_eq_false (by omega);have d4:decide (k<db.length)=false:=decide_eq_false hkb;obtain⟨ho,hn⟩:=MkAt.next (HL.out k) HM.out;have ez2:dg db k=0:=zcz (by omega);have HN:Hid (∀ v' w' b,z0s (wr.alloc b) 181 1 _ k 1 (dV (plD da db k)) [.int .u32 (((plC da db k+dg da k+dg db k)%4294967296:Nat):Int)] v' w'->MkAt w aa ab da db ca cb (plD da db (k+1)) v' w'):=fun v' w' b hA=>hn _ v' w' b hA
    have HCS:Hid (plC da db (k+1)=(plC da db k+dg da k+dg db k)/4294967296):=rfl;have HO:=zh ho;rw[ez2]at HN HCS;clear ho hn hga ez2 HE HCz HDa HDb HC;generalize dg da k=x at *
    generalize plC da db k=c at *
    go_wp2_with (at_builtin;refine z08 rfl _ _ 115 115 rfl digT digT _ k _ rfl (HO.out _) _ 1 _ [.int .u32 (((c:Int)+(x:Int))%4294967296)] rfl rfl (z1r _ _ _) (z7j _) (by unfold maxLen;omega) (by omega) ?_);intro v' w' hA;have HR:=zh (HN.out v' w' _ hA);clear hA HN HO;go_wp2_with fail;go_roundw
    case rel=>exact⟨k+1,by go_num,by omega,by rw[HCS.out];rfl,HR.out⟩
    case measure=>simp[intOf];omega
  ·have d1:decide ((k:Int)<((da.length:Nat):Int))=false:=decide_eq_false (by omega);have d2:decide (k<da.length)=false:=decide_eq_false hka
   by_cases hkb:k<db.length
   ·have d3:decide ((k:Int)<((db.length:Nat):Int))=true:=decide_eq_true (by omega);have d4:decide (k<db.length)=true:=decide_eq_true hkb;obtain⟨f,hfb,hcy⟩:=HM.out.c.at (zah hkb);have hiy:=z1s (c:=cb) hfb hkb;have hyl:=HDb.out k;obtain⟨ho,hn⟩:=MkAt.next (HL.out k) HM.out;have ez1:dg da k=0:=zcz (by omega);have HN:Hid (∀ v' w' b,z0s (wr.alloc b) 181 1 _ k 1 (dV (plD da db k)) [.int .u32 (((plC da db k+dg da k+dg db k)%4294967296:Nat):Int)] v' w'->MkAt w aa ab da db ca cb (plD da db (k+1)) v' w'):=fun v' w' b hA=>hn _ v' w' b hA
    have HCS:Hid (plC da db (k+1)=(plC da db k+dg da k+dg db k)/4294967296):=rfl;have HO:=zh ho;rw[ez1]at HN HCS;clear ho hn ez1 hfb HE HCz HDa HDb HC;generalize dg db k=y at *
    generalize plC da db k=c at *
    go_wp2_with (at_builtin;refine z08 rfl _ _ 115 115 rfl digT digT _ k _ rfl (HO.out _) _ 1 _ [.int .u32 (((c:Int)+(y:Int))%4294967296)] rfl rfl (z1r _ _ _) (z7j _) (by unfold maxLen;omega) (by omega) ?_);intro v' w' hA;have HR:=zh (HN.out v' w' _ hA);clear hA HN HO;go_wp2_with fail;go_roundw
    case rel=>exact⟨k+1,by go_num,by omega,by rw[HCS.out];rfl,HR.out⟩
    case measure=>simp[intOf];omega
   ·have d3:decide ((k:Int)<((db.length:Nat):Int))=false:=decide_eq_false (by omega);have d4:decide (k<db.length)=false:=decide_eq_false hkb
    by_cases hcz:plC da db k=0
    ·have HT:=zh (HE.out k _ wr (by omega) (by omega) (by omega) hcz HM.out);rw[hcz];clear HE HCz HC HDa HDb hcz HM hc;go_wp2_with fail;refine zm HT.out ?_;rintro e w2 ⟨⟨u,rfl,hD⟩,hb⟩;have HD:=zh hD;have HB:=zh hb;clear hD hb HT;go_wp2_with fail;go_ret;exact⟨⟨_,rfl,HD.out⟩,HB.out⟩
    ·have hkm:k<=max da.length db.length:=Nat.le_of_not_lt fun h=>hcz (HCz.out k h)
     have d5:decide ((0:Int)<((plC da db k:Nat):Int))=true:=decide_eq_true (by omega);have d6:decide (0<plC da db k)=true:=decide_eq_true (by omega);have hcz:=zh hcz;obtain⟨ho,hn⟩:=MkAt.next (HL.out k) HM.out;have ez1:dg da k=0:=zcz (by omega);have ez2:dg db k=0:=zcz (by omega);have HN:Hid (∀ v' w' b,z0s (wr.alloc b) 181 1 _ k 1 (dV (plD da db k)) [.int .u32 (((plC da db k+dg da k+dg db k)%4294967296:Nat):Int)] v' w'->MkAt w aa ab da db ca cb (plD da db (k+1)) v' w'):=fun v' w' b hA=>hn _ v' w' b hA
     have HCS:Hid (plC da db (k+1)=(plC da db k+dg da k+dg db k)/4294967296):=rfl;have HO:=zh ho;rw[ez1]at HN HCS;rw[ez2]at HN HCS;rw[show(plC da db k+0+0)%4294967296=plC da db k by omega]at HN
     clear ho hn ez1 ez2 HE HCz HDa HDb HC;generalize plC da db k=c at *
     go_wp2_with (at_builtin;refine z08 rfl _ _ 115 115 rfl digT digT _ k _ rfl (HO.out _) _ 1 _ [.int .u32 (c:Int)] rfl rfl (z1r _ _ _) (z7j _) (by unfold maxLen;omega) (by omega) ?_);intro v' w' hA;have HR:=zh (HN.out v' w' _ hA);clear hA HN HO;go_wp2_with fail;go_roundw
     case rel=>exact⟨k+1,by go_num,by omega,by rw[HCS.out];rfl,HR.out⟩
     case measure=>simp[intOf];omega
def mnC(a b:List Nat):Nat->Nat
 | 0=>0
 | k+1=>if dg a k<mnC a b k+dg b k then 1 else 0
def mnV(a b:List Nat)(k:Nat):Nat:=if dg a k<mnC a b k+dg b k then dg a k+4294967296-(mnC a b k+dg b k)else dg a k-(mnC a b k+dg b k)
def mnD(a b:List Nat):Nat->List Nat
 | 0 => []
 | k+1=>mnD a b k ++ [mnV a b k]
theorem zqj(a b:List Nat):∀ k,mnC a b k<=1
 | 0=>by show 0<=1;decide
 | k+1=>by show(if _ then 1 else 0)<=1;split<;>omega
theorem zch(a b:List Nat):∀ k,(mnD a b k).length=k
 | 0=>rfl
 | k+1=>by rw[mnD,List.length_append,zch a b k];rfl
theorem zy4{a b:List Nat}(ha:DOk a)(k:Nat):mnV a b k<4294967296:=by
 have:=z8k ha k;unfold mnV;split<;>omega
theorem zqr{a:List Nat}(ha:DOk a)(b:List Nat):∀ k,DOk (mnD a b k)
 | 0=>fun d hd=>by cases hd
 | k+1=>(zqr ha b k).snoc (zy4 ha k)
theorem zq0{a b:List Nat}(ha:DOk a)(hb:DOk b):∀ k,z04 (mnD a b k)+z04 (b.take k)=z04 (a.take k)+BP k*mnC a b k
 | 0=>by simp[mnD,mnC,z04,dgN]
 | k+1=>by
  have h:=zq0 ha hb k
  have hc:=zqj a b k
  have h1:=z8k ha k
  have h2:=z8k hb k
  have hv:mnV a b k+mnC a b k+dg b k=dg a k+4294967296*mnC a b (k+1):=by
   show mnV a b k+mnC a b k+dg b k=dg a k+4294967296*(if dg a k<mnC a b k+dg b k then 1 else 0)
   unfold mnV;split<;>omega
  rw[mnD,zad,zch,z3c,z3c,z6w];generalize mnC a b (k+1)=c1 at *
  generalize mnV a b k=v at *
  have h3:=congrArg (BP k * ·) hv;simp only[Nat.mul_add]at h3;rw[Nat.mul_left_comm (BP k) 4294967296 c1]at h3;rw[Nat.mul_assoc];omega
abbrev zut(w:World)(n:Nat)(b:Bool)(e:Ending)(w':World):Prop:=(∃ u,e= .returned (.tuple #[u,.bool b])/\DgF w w' u (digs n))/\Below w.heap.size w w'
theorem zpq(w:World)(va vb:Value)(da db:List Nat)(ha:DOk da)(hb:DOk db)(hla:da.length<100000)(hlb:db.length<100000)(hA:DgAt w va da)(hB:DgAt w vb db)(h:z04 da<z04 db):Calls Tryz.prog 78 #[va,vb] w (zut w 0 false):=by
 have HC:Hid (Calls Tryz.prog 56 #[va,vb] w fun e w'=>e= .returned (.int .i64 (-1))/\Below w.heap.size w w'):=(zbh w va vb da db ha hb (by omega) (by omega) hA hB).mono fun e w' ⟨he,h1⟩=>⟨by rw[he];unfold cmpN;rw[if_pos h],h1⟩
 have HD:Hid (∀ w',DgF w w' (.slice none 0 0) (digs 0)):=fun w'=>by
  rw[z3w];exact⟨none,0,rfl,⟨Nat.le_refl _,.inl ⟨rfl,rfl⟩⟩,fun g hg=>by cases hg⟩
 clear ha hb hla hlb hA hB h;go_enter Tryz.func78,Tryz.ntmps78;go_wp2_with fail;refine zm HC.out ?_;rintro e w1 ⟨rfl,hb1⟩;have HB:=zh hb1;clear hb1 HC;go_wp2_with fail;refine bodyPost_ret (results_tmp2 rfl _ _ _) rfl ?_;exact⟨⟨_,rfl,HD.out _⟩,HB.out⟩
theorem zht(w:World)(va vb:Value)(da db:List Nat)(ha:DOk da)(hb:DOk db)(hla:da.length<100000)(hlb:db.length<100000)(hA:DgAt w va da)(hB:DgAt w vb db)(h:z04 db<=z04 da):Calls Tryz.prog 78 #[va,vb] w (zut w (z04 da-z04 db) true):=by
 obtain⟨aa,ca,rfl,hA⟩:=hA;obtain⟨ab,cb,rfl,hB⟩:=hB;obtain⟨cc,hcc,hc0⟩:∃ c:Int,cmpN (z04 da) (z04 db)=c/\decide (c<0)=false:=⟨_,rfl,by unfold cmpN;rw[if_neg (by omega)];split<;>decide⟩;have HNC:Hid (Calls Tryz.prog 56 #[.slice aa da.length ca,.slice ab db.length cb] w fun e w'=>e= .returned (.int .i64 cc)/\MkAt w aa ab da db ca cb [] (.slice none 0 0) w'):=(zbh w _ _ da db ha hb (by omega) (by omega) ⟨aa,ca,rfl,hA⟩ ⟨ab,cb,rfl,hB⟩).mono fun e w' ⟨he,h1⟩=>⟨by rw[he,hcc],h1,hA.below h1,hB.below h1,Own.nil _ _ _,fun g hg=>by simp[Value.ownBlock]at hg,hA.old,hB.old⟩
 have HC:Hid (∀ k,mnC da db k<=1):=zqj da db;have HL:=zh (zch da db);have HE:Hid (∀ v wr,MkAt w aa ab da db ca cb (mnD da db da.length) v wr->Calls Tryz.prog 127 #[v] wr (ziw w (z04 da-z04 db))):=fun v wr hM=>by
  have h5:=zq0 ha hb da.length;have hmd:=z2j (zqr ha db da.length);rw[zch]at hmd;have h6:z04 (db.take da.length)=z04 db:=by
   rw[zpc hb];refine Nat.mod_eq_of_lt ?_;have:=z2j ha;omega
  rw[List.take_length,h6]at h5;have hcl:=zqj da db da.length;have h7:mnC da db da.length=0:=by
   rcases(by omega:mnC da db da.length=0\/mnC da db da.length=1)with e | e
   ·exact e
   ·rw[e,Nat.mul_one]at h5;omega
  rw[h7,Nat.mul_zero,Nat.add_zero]at h5;have h8:z04 (mnD da db da.length)=z04 da-z04 db:=by omega
  rw[<- h8];exact hM.trim (zqr ha db _) (by rw[zch];omega)
 have HDa:=zh (fun k=>z8k ha k);have HDb:=zh (fun k=>z8k hb k);clear hA hB ha hb hcc h;go_enter Tryz.func78,Tryz.ntmps78;go_wp2_with fail;refine zm HNC.out ?_;rintro e w1 ⟨rfl,hM⟩;have H0:=zh hM;clear hM HNC;go_wp2_with fail
 go_loopw [8,6,7] (fun iv v cv wr=>∃ k:Nat,iv= .int .i64 k/\k<=da.length/\cv= .int .u64 (mnC da db k)/\MkAt w aa ab da db ca cb (mnD da db k) v wr) (fun iv _ _ _=>da.length-(intOf iv).toNat)
 case atStart=>exact⟨0,rfl,by omega,rfl,H0.out⟩
 case round =>
  obtain⟨k,rfl,hk,rfl,hM⟩:=hrel;have HM:=zh hM;clear hM H0;have hc:=HC.out k
  by_cases hka:k<da.length
  ·have d1:decide ((k:Int)<((da.length:Nat):Int))=true:=decide_eq_true (by omega);have d2:decide (k<da.length)=true:=decide_eq_true hka;obtain⟨g,hga,hcx⟩:=HM.out.a.at (zah hka);have hix:=z1s (c:=ca) hga hka;have hxl:=HDa.out k;obtain⟨ho,hn⟩:=MkAt.next (HL.out k) HM.out;have HO:=zh ho
   by_cases hkb:k<db.length
   ·have d3:decide ((k:Int)<((db.length:Nat):Int))=true:=decide_eq_true (by omega);have d4:decide (k<db.length)=true:=decide_eq_true hkb;obtain⟨f,hfb,hcy⟩:=HM.out.c.at (zah hkb);have hiy:=z1s (c:=cb) hfb hkb;have hyl:=HDb.out k
    by_cases hlt:dg da k<mnC da db k+dg db k
    ·have HN:Hid (∀ v' w' b,z0s (wr.alloc b) 181 1 _ k 1 (dV (mnD da db k)) [.int .u32 ((dg da k+4294967296-(mnC da db k+dg db k):Nat):Int)] v' w'->MkAt w aa ab da db ca cb (mnD da db (k+1)) v' w'):=fun v' w' b hA=>by
      have:=hn _ v' w' b hA;rw[mnD,show mnV da db k=dg da k+4294967296-(mnC da db k+dg db k)from if_pos hlt];exact this
     have HCS:Hid (mnC da db (k+1)=1):=if_pos hlt;clear ho hn hga hfb HE HDa HDb HC;generalize dg da k=x at *
     generalize dg db k=y at *
     generalize mnC da db k=c at *
     have hve:((x+4294967296-(c+y):Nat):Int)=(x:Int)+4294967296-((c:Int)+(y:Int)):=by omega
     rw[hve]at HN;have dl:decide ((x:Int)<((c:Int)+(y:Int)))=true:=decide_eq_true (by omega);have dl2:decide (x<c+y)=true:=decide_eq_true hlt;clear hve;go_wp2_with (at_builtin;refine z08 rfl _ _ 115 115 rfl digT digT _ k _ rfl (HO.out _) _ 1 _ [.int .u32 ((x:Int)+4294967296-((c:Int)+(y:Int)))] rfl rfl (z1r _ _ _) (z7j _) (by unfold maxLen;omega) (by omega) ?_);intro v' w' hA;have HR:=zh (HN.out v' w' _ hA);clear hA HN HO;go_wp2_with fail;go_roundw
     case rel=>exact⟨k+1,by go_num,by omega,by rw[HCS.out];rfl,HR.out⟩
     case measure=>simp[intOf];omega
    ·have HN:Hid (∀ v' w' b,z0s (wr.alloc b) 181 1 _ k 1 (dV (mnD da db k)) [.int .u32 ((dg da k-(mnC da db k+dg db k):Nat):Int)] v' w'->MkAt w aa ab da db ca cb (mnD da db (k+1)) v' w'):=fun v' w' b hA=>by
      have:=hn _ v' w' b hA;rw[mnD,show mnV da db k=dg da k-(mnC da db k+dg db k)from if_neg hlt];exact this
     have HCS:Hid (mnC da db (k+1)=0):=if_neg hlt;clear ho hn hga hfb HE HDa HDb HC;generalize dg da k=x at *
     generalize dg db k=y at *
     generalize mnC da db k=c at *
     have hve:((x-(c+y):Nat):Int)=(x:Int)-((c:Int)+(y:Int)):=by omega
     rw[hve]at HN;have dl:decide ((x:Int)<((c:Int)+(y:Int)))=false:=decide_eq_false (by omega);have dl2:decide (x<c+y)=false:=decide_eq_false hlt;have hle:c+y<=x:=by omega
     clear hve;go_wp2_with (at_builtin;refine z08 rfl _ _ 115 115 rfl digT digT _ k _ rfl (HO.out _) _ 1 _ [.int .u32 ((x:Int)-((c:Int)+(y:Int)))] rfl rfl (z1r _ _ _) (z7j _) (by unfold maxLen;omega) (by omega) ?_);intro v' w' hA;have HR:=zh (HN.out v' w' _ hA);clear hA HN HO;go_wp2_with fail;go_roundw
     case rel=>exact⟨k+1,by go_num,by omega,by rw[HCS.out];rfl,HR.out⟩
     case measure=>simp[intOf];omega
   ·have d3:decide ((k:Int)<((db.length:Nat):Int))=false:=decide_eq_false (by omega);have d4:decide (k<db.length)=false:=decide_eq_false hkb
    by_cases hlt:dg da k<mnC da db k+dg db k
    ·have ez:dg db k=0:=zcz (by omega);have HN:Hid (∀ v' w' b,z0s (wr.alloc b) 181 1 _ k 1 (dV (mnD da db k)) [.int .u32 ((dg da k+4294967296-mnC da db k:Nat):Int)] v' w'->MkAt w aa ab da db ca cb (mnD da db (k+1)) v' w'):=fun v' w' b hA=>by
      have:=hn _ v' w' b hA;rw[mnD,show mnV da db k=dg da k+4294967296-mnC da db k from (if_pos hlt).trans (by omega)];exact this
     have HCS:Hid (mnC da db (k+1)=1):=if_pos hlt;rw[ez]at hlt;clear ho hn hga ez HE HDa HDb HC;generalize dg da k=x at *
     generalize mnC da db k=c at *
     have hve:((x+4294967296-(c):Nat):Int)=(x:Int)+4294967296-(c:Int):=by omega
     rw[hve]at HN;have dl:decide ((x:Int)<(c:Int))=true:=decide_eq_true (by omega);have dl2:decide (x<c)=true:=decide_eq_true hlt;clear hve;go_wp2_with (at_builtin;refine z08 rfl _ _ 115 115 rfl digT digT _ k _ rfl (HO.out _) _ 1 _ [.int .u32 ((x:Int)+4294967296-(c:Int))] rfl rfl (z1r _ _ _) (z7j _) (by unfold maxLen;omega) (by omega) ?_);intro v' w' hA;have HR:=zh (HN.out v' w' _ hA);clear hA HN HO;go_wp2_with fail;go_roundw
     case rel=>exact⟨k+1,by go_num,by omega,by rw[HCS.out];rfl,HR.out⟩
     case measure=>simp[intOf];omega
    ·have ez:dg db k=0:=zcz (by omega);have HN:Hid (∀ v' w' b,z0s (wr.alloc b) 181 1 _ k 1 (dV (mnD da db k)) [.int .u32 ((dg da k-mnC da db k:Nat):Int)] v' w'->MkAt w aa ab da db ca cb (mnD da db (k+1)) v' w'):=fun v' w' b hA=>by
      have:=hn _ v' w' b hA;rw[mnD,show mnV da db k=dg da k-mnC da db k from (if_neg hlt).trans (by omega)];exact this
     have HCS:Hid (mnC da db (k+1)=0):=if_neg hlt;rw[ez]at hlt;clear ho hn hga ez HE HDa HDb HC;generalize dg da k=x at *
     generalize mnC da db k=c at *
     have hve:((x-(c):Nat):Int)=(x:Int)-(c:Int):=by omega
     rw[hve]at HN;have dl:decide ((x:Int)<(c:Int))=false:=decide_eq_false (by omega);have dl2:decide (x<c)=false:=decide_eq_false hlt;have hle:c<=x:=by omega
     clear hve;go_wp2_with (at_builtin;refine z08 rfl _ _ 115 115 rfl digT digT _ k _ rfl (HO.out _) _ 1 _ [.int .u32 ((x:Int)-(c:Int))] rfl rfl (z1r _ _ _) (z7j _) (by unfold maxLen;omega) (by omega) ?_);intro v' w' hA;have HR:=zh (HN.out v' w' _ hA);clear hA HN HO;go_wp2_with fail;go_roundw
     case rel=>exact⟨k+1,by go_num,by omega,by rw[HCS.out];rfl,HR.out⟩
     case measure=>simp[intOf];omega
  ·obtain rfl:k=da.length:=by omega
   have d1:decide (((da.length:Nat):Int)<((da.length:Nat):Int))=false:=decide_eq_false (by omega);have d2:decide (da.length<da.length)=false:=decide_eq_false (by omega);have HT:=zh (HE.out _ wr HM.out);clear HE HC HDa HDb HM hc;go_wp2_with fail;refine zm HT.out ?_;rintro e w2 ⟨⟨u,rfl,hD⟩,hb⟩;have HD:=zh hD;have HB:=zh hb;clear hD hb HT;go_wp2_with fail;refine bodyPost_ret (results_tmp2 rfl _ _ _) rfl ?_;exact⟨⟨_,rfl,HD.out⟩,HB.out⟩
abbrev aD(l:List Nat):Array Value:=(dV l).toArray
theorem zs7{l:List Nat}{k:Nat}(h:k<l.length):(aD l)[k]?=some (.int .u32 ((l.getD k 0:Nat):Int)):=by
 rw[List.getElem?_toArray,List.getElem?_map,getD_at h];rfl
theorem zna(l:List Nat)(k v:Nat):(aD l).setIfInBounds k (.int .u32 v)=aD (l.set k v):=by
 simp[aD,dV]
theorem zv7(n:Nat):madeCells (Value.int .u32 0).cells n=aD (List.replicate n 0):=by
 apply Array.ext_getElem?;intro j;unfold madeCells
 by_cases h:j<n
 ·rw[zs7 (by simpa using h)];simp[h,Value.cells,Nat.mod_one]
 ·rw[Array.getElem?_eq_none (by simp;omega),Array.getElem?_eq_none (by simp;omega)]
theorem zix(n:Nat)(hn:n<1000000)(W:World):(Instr.makeSlice 115 (.int .i64 n) (.int .i64 n)).run Tryz.prog W= .ok (.slice (some ⟨W.heap.size,0,none⟩) n n) (W.alloc (.cells (aD (List.replicate n 0)) 181)):=by
 obtain⟨inf,hinf,hz0,hz1,hz2⟩:=info_parts digT.info;refine(run_makeSlice (P:=Tryz.prog) (w:=W) 115 181 inf (.int .u32 0) digT.und hinf hz0 .i64 .i64 n n (by omega) (by omega) (by rw[hz1];omega) (by rw[hz2];omega) (by omega)).trans ?_;rw[Int.toNat_natCast,hz1,Nat.mul_one,zv7]
theorem zq1(l:List Nat):∀ k,dLow 4294967296 (dg l) k=z04 (l.take k)
 | 0=>by simp[dLow,z04,dgN]
 | k+1=>by rw[z3c,<- zq1 l k];rfl
theorem zkr(l:List Nat):dLow 4294967296 (dg l) l.length=z04 l:=by rw[zq1,List.take_length]
theorem set_self{l:List Nat}{k:Nat}(h:l.getD k 0=0)(hk:k<l.length):l.set k 0=l:=by
 apply List.ext_getElem?;intro j
 by_cases e:k=j
 ·subst e;rw[List.getElem?_set_self hk,getD_at hk,h]
 ·rw[List.getElem?_set_ne e]
structure XAt (w:World) (aa ab:Option Addr) (da db:List Nat) (ca cb:Nat) (l:List Nat) (wr:World):Prop where
 b:Below w.heap.size w wr
 a:DgIn wr aa da ca
 c:DgIn wr ab db cb
 o:wr.heap[w.heap.size]?=some (.cells (aD l) 181 (0,0))
 na:∀ g,aa=some ⟨g,0,none⟩->g<w.heap.size\/da = []
 nb:∀ g,ab=some ⟨g,0,none⟩->g<w.heap.size\/db = []
theorem XAt.start{w:World}{aa ab:Option Addr}{da db:List Nat}{ca cb:Nat}(hA:DgIn w aa da ca)(hB:DgIn w ab db cb)(n:Nat):XAt w aa ab da db ca cb (List.replicate n 0) (w.alloc (.cells (aD (List.replicate n 0)) 181)):=
 ⟨z00 zb _,hA.below (z00 zb _),hB.below (z00 zb _),heap_alloc_new w _,hA.old,hB.old⟩
theorem XAt.put{w wr:World}{aa ab:Option Addr}{da db:List Nat}{ca cb:Nat}{l:List Nat}(h:XAt w aa ab da db ca cb l wr)(k v:Nat):XAt w aa ab da db ca cb (l.set k v) (wr.setCell ⟨w.heap.size,k,none⟩ (.int .u32 v)):=by
 have hk:∀ g,g<w.heap.size->(wr.setCell ⟨w.heap.size,k,none⟩ (.int .u32 v)).heap[g]?=wr.heap[g]?:=fun g hg=>Below.heap_setCell _ _ _ _ (by simp;omega)
 refine⟨h.b.setCell (p:=⟨w.heap.size,k,none⟩) (by simp) _,h.a.keep h.na hk,h.c.keep h.nb hk,?_,h.na,h.nb⟩;rw[<- zna l k v];exact heap_setCell_same _ _ _ _ _ _ h.o
theorem XAt.dgi{w wr:World}{aa ab:Option Addr}{da db:List Nat}{ca cb:Nat}{l:List Nat}(h:XAt w aa ab da db ca cb l wr){n:Nat}(hn:l.length=n):DgIn wr (some ⟨w.heap.size,0,none⟩) l n:=by
 refine⟨Nat.le_of_eq hn,.inr ⟨_,rfl,fun j d hj => ?_⟩⟩;rw[cell_of_row _ _ _ _ _ _ h.o,List.getElem?_toArray,List.getElem?_map,hj];rfl
theorem times_any(w:World)(va vb:Value)(da db:List Nat)(ha:DOk da)(hb:DOk db)(hla:da.length<10000)(hlb:db.length<10000)(hA:DgAt w va da)(hB:DgAt w vb db):Calls Tryz.prog 108 #[va,vb] w (ziw w (z04 da*z04 db)):=by
 obtain⟨aa,ca,rfl,hA⟩:=hA;obtain⟨ab,cb,rfl,hB⟩:=hB;have H0:=zh (XAt.start hA hB (da.length+db.length));have HMk:=zix (da.length+db.length) (by omega);have hDa:∀ k,dg da k<4294967296:=z8k ha;have hDb:∀ k,dg db k<4294967296:=z8k hb;have HI:Hid (∀ i,i<da.length->∀ j,j<=db.length->_):=fun i hi j hj=>zfz 4294967296 (dg da i) (dg db) i db.length (mOut 4294967296 (da.length+db.length) (dg da) (dg db) db.length i) (hDa i) hDb (z5b 4294967296 _ (dg da) (dg db) db.length (by decide) hDa hDb i (by omega)).2.1 (by rw[(z5b 4294967296 (da.length+db.length) (dg da) (dg db) db.length (by decide) hDa hDb i (by omega)).1];omega) j hj
 have HO:=zh (fun i (hi:i+db.length<=da.length+db.length)=>z5b 4294967296 (da.length+db.length) (dg da) (dg db) db.length (by decide) hDa hDb i hi);have HM:Hid (∀ i,mOut 4294967296 (da.length+db.length) (dg da) (dg db) db.length (i+1)=(mIn 4294967296 (dg da i) (dg db) i (mOut 4294967296 (da.length+db.length) (dg da) (dg db) db.length i) db.length).1.set (i+db.length) (mIn 4294967296 (dg da i) (dg db) i (mOut 4294967296 (da.length+db.length) (dg da) (dg db) db.length i) db.length).2):=fun i=>rfl
 have HE:Hid (∀ wr,XAt w aa ab da db ca cb (mOut 4294967296 (da.length+db.length) (dg da) (dg db) db.length da.length) wr->Calls Tryz.prog 127 #[.slice (some ⟨w.heap.size,0,none⟩) (da.length+db.length) (da.length+db.length)] wr (ziw w (z04 da*z04 db))):=fun wr hX=>by
  obtain⟨z1,z2,z3,_⟩:=z5b 4294967296 (da.length+db.length) (dg da) (dg db) db.length (by decide) hDa hDb da.length (Nat.le_refl _);rw[zkr,zkr]at z3;have z3:z04 (mOut 4294967296 (da.length+db.length) (dg da) (dg db) db.length da.length)=z04 da*z04 db:=z3;rw[<- z3];have hT:=z8y wr (some ⟨w.heap.size,0,none⟩) (da.length+db.length) _ (fun d hd=>z2 d hd) (by rw[z1];omega) (hX.dgi z1);rw[z1]at hT;exact hT.mono fun e w' ⟨⟨he,h3⟩,hw⟩=>by
   subst hw;refine⟨⟨_,he,_,_,rfl,h3,fun g hg => ?_⟩,hX.b⟩;cases hg;exact Nat.le_refl _
 have HDa:=zh hDa;have HDb:=zh hDb;have HMk2:∀ W,(Instr.makeSlice 115 (.int .i64 (((da.length:Nat):Int)+((db.length:Nat):Int))) (.int .i64 (((da.length:Nat):Int)+((db.length:Nat):Int)))).run Tryz.prog W= .ok (.slice (some ⟨W.heap.size,0,none⟩) (da.length+db.length) (da.length+db.length)) (W.alloc (.cells (aD (List.replicate (da.length+db.length) 0)) 181)):=HMk;have hwl:IntKind.i64.wrap (((da.length:Nat):Int)+((db.length:Nat):Int))=((da.length+db.length:Nat):Int):=by rw[IntKind.wrap_i64];omega
 clear hA hB ha hb hDa hDb;go_enter Tryz.func108,Tryz.ntmps108;go_wp2_with fail;generalize hN:da.length+db.length=n at *
 have hn1:da.length+db.length<=n:=Nat.le_of_eq hN;have hn2:n<=20000:=by omega
 clear hN HMk HMk2 hwl
 go_loopw [19] (fun iv wr=>∃ i:Nat,iv= .int .i64 i/\i<=da.length/\XAt w aa ab da db ca cb (mOut 4294967296 n (dg da) (dg db) db.length i) wr) (fun iv _=>da.length-(intOf iv).toNat)
 case atStart=>exact⟨0,rfl,by omega,H0.out⟩
 case round =>
  obtain⟨i,rfl,hi,hX⟩:=hrel;obtain⟨wo,rfl⟩:∃ wo:World,wo=wr:=⟨_,rfl⟩;have HX:=zh hX;clear hX H0
  by_cases hil:i<da.length
  ·have d1:decide ((i:Int)<((da.length:Nat):Int))=true:=decide_eq_true (by omega);have d2:decide (i<da.length)=true:=decide_eq_true hil;obtain⟨g,hga,hcx⟩:=HX.out.a.at (zah hil);have hix:=z1s (c:=ca) hga hil;have hxl:=HDa.out i;have HM1:=zh (HM.out i);have HI1:=zh (HI.out i hil);have HO1:=zh (HO.out i (by omega));clear hga HM HI HO HE HDa;generalize dg da i=x at *
   generalize hl1:mOut 4294967296 n (dg da) (dg db) db.length (i+1)=l1 at *
   generalize hl0:mOut 4294967296 n (dg da) (dg db) db.length i=l0 at *
   have HL1:=zh hl1;clear hl1 hl0;go_wp2_with fail
   go_loopw [9,8] (fun jv cv wr=>∃ (j c:Nat) (l:List Nat),jv= .int .i64 j/\cv= .int .u64 c/\XAt w aa ab da db ca cb l wr/\((j<=db.length/\l=(mIn 4294967296 x (dg db) i l0 j).1/\c=(mIn 4294967296 x (dg db) i l0 j).2)\/(j=db.length+1/\l=l1/\c=0))) (fun jv _ _=>db.length+1-(intOf jv).toNat)
   case atStart=>exact⟨0,0,l0,rfl,rfl,HX.out,.inl ⟨by omega,rfl,rfl⟩⟩
   case round =>
    obtain⟨j,c,l,rfl,rfl,hX2,hcase⟩:=hrel;have HX2:=zh hX2;have HCase:=zh hcase;clear hX2 hcase HX
    by_cases hjl:j<db.length
    ·have HJ:Hid (l=(mIn 4294967296 x (dg db) i l0 j).1/\c=(mIn 4294967296 x (dg db) i l0 j).2):=by
      rcases HCase.out with h | h
      ·exact h.2
      ·omega
     obtain⟨z1,z2,z3,z4,z5⟩:=HI1.out j (by omega);rw[<- HJ.out.1]at z1 z2;rw[<- HJ.out.2]at z3;have hll:i+j<l.length:=by rw[z1,HO1.out.1];omega
     have d3:decide ((j:Int)<((db.length:Nat):Int))=true:=decide_eq_true (by omega);have d4:decide (j<db.length)=true:=decide_eq_true hjl;obtain⟨f,hfb,hcy⟩:=HX2.out.c.at (zah hjl);have hiy:=z1s (c:=cb) hfb hjl;have hyl:=HDb.out j;have hoj:=Words.getD (by decide) z2 (i+j);have cO:wr.cell? ⟨w.heap.size,i+j,none⟩=some (.int .u32 ((l.getD (i+j) 0:Nat):Int)):=by rw[cell_of_row _ _ _ _ _ _ HX2.out.o];exact zs7 hll
     have fO:wr.frozen? ⟨w.heap.size,i+j,none⟩=false:=frozen_of_row _ _ _ _ _ HX2.out.o;have hio:∀ W,(Instr.indexAt 115 (.slice (some ⟨w.heap.size,0,none⟩) n n) (.int .i64 ((i+j:Nat):Int))).run Tryz.prog W= .ok (.pointer (some ⟨w.heap.size,i+j,none⟩)) W:=z1s rfl (by omega);have hwij:IntKind.i64.wrap ((i:Int)+(j:Int))=((i+j:Nat):Int):=by rw[IntKind.wrap_i64];omega
     have hpl:x*dg db j<=4294967295*4294967295:=Nat.mul_le_mul (by omega) (by omega);have hpw:IntKind.u64.wrap ((x:Int)*((dg db j:Nat):Int))=((x*dg db j:Nat):Int):=z9x (by omega);have hP:=HX2.out.put (i+j) ((x*dg db j+l.getD (i+j) 0+c)%4294967296);have HN1:Hid (l.set (i+j) ((x*dg db j+l.getD (i+j) 0+c)%4294967296)=(mIn 4294967296 x (dg db) i l0 (j+1)).1/\(x*dg db j+l.getD (i+j) 0+c)/4294967296=(mIn 4294967296 x (dg db) i l0 (j+1)).2):=by
      rw[HJ.out.1,HJ.out.2];exact⟨rfl,rfl⟩
     clear z1 z2 z4 z5 hfb HCase HJ hll;generalize l.getD (i+j) 0=o at *
     generalize hy:dg db j=y at *
     obtain⟨p,hp⟩:∃ p,p=x*y:=⟨_,rfl⟩;rw[<- hp]at hpl hpw hP HN1;have hv:(((p+o+c)%4294967296:Nat):Int)=((o:Int)+(c:Int)+(p:Int))%4294967296:=by omega
     have hv2:(((p+o+c)/4294967296:Nat):Int)=((o:Int)+(c:Int)+(p:Int))/4294967296:=by omega
     rw[hv]at hP;have HP:=zh hP;have HV2:=zh hv2;have HHp:Hid (p=x*y/\dg db j=y):=⟨hp,hy⟩;clear hP hp hy hv hv2;go_wp2_with fail;go_roundw
     case rel=>exact⟨j+1,(p+o+c)/4294967296,_,by go_num,by rw[HV2.out],HP.out,.inl ⟨by omega,HN1.out.1,HN1.out.2⟩⟩
     case measure=>simp[intOf];omega
    ·have d3:decide ((j:Int)<((db.length:Nat):Int))=false:=decide_eq_false (by omega);have d4:decide (j<db.length)=false:=decide_eq_false hjl
     by_cases hc0:c=0
     ·have HE1:Hid (l=l1):=by
       rcases HCase.out with⟨h1,h2,h3⟩ | ⟨_,h2,_⟩
       ·obtain rfl:j=db.length:=by omega
        obtain⟨z1,z2,z3,z4,z5⟩:=HI1.out db.length (Nat.le_refl _);have hz:=z5 (i+db.length) (by omega);rw[HO1.out.2.2.2 _ (by omega)]at hz;rw[HM1.out,<- h3,<- h2,hc0,set_self (by rw[h2];exact hz) (by rw[h2,z1,HO1.out.1];omega)];exact zh rfl
       ·exact h2
      subst hc0;have HX3:Hid (XAt w aa ab da db ca cb (mOut 4294967296 n (dg da) (dg db) db.length (i+1)) wr):=by rw[HL1.out,<- HE1.out];exact HX2.out
      clear HE1 HCase HI1 HO1 HM1 HX2;go_wp2_with fail;go_roundw
      case rel=>exact⟨i+1,by go_num,by omega,HX3.out⟩
      case measure=>simp[intOf];omega
     ·have HJ:Hid (j=db.length/\l=(mIn 4294967296 x (dg db) i l0 db.length).1/\c=(mIn 4294967296 x (dg db) i l0 db.length).2):=by
       rcases HCase.out with⟨h1,h2,h3⟩ | ⟨_,_,h2⟩
       ·obtain rfl:j=db.length:=by omega
        exact⟨rfl,h2,h3⟩
       ·exact absurd h2 hc0
      obtain⟨z1,z2,z3,z4,z5⟩:=HI1.out db.length (Nat.le_refl _);have hz:=z5 (i+db.length) (by omega);rw[HO1.out.2.2.2 _ (by omega)]at hz;rw[<- HJ.out.2.1]at z1 hz;rw[<- HJ.out.2.2]at z3;rw[<- HJ.out.1]at hz;have hjn:i+j<n:=by rw[HJ.out.1];omega
      have hll:i+j<l.length:=by rw[z1,HO1.out.1];exact hjn
      have cO:wr.cell? ⟨w.heap.size,i+j,none⟩=some (.int .u32 0):=by
       rw[cell_of_row _ _ _ _ _ _ HX2.out.o,zs7 hll,hz];rfl
      have fO:wr.frozen? ⟨w.heap.size,i+j,none⟩=false:=frozen_of_row _ _ _ _ _ HX2.out.o;have hio:∀ W,(Instr.indexAt 115 (.slice (some ⟨w.heap.size,0,none⟩) n n) (.int .i64 ((i+j:Nat):Int))).run Tryz.prog W= .ok (.pointer (some ⟨w.heap.size,i+j,none⟩)) W:=z1s rfl hjn;have hio2:∀ W,(Instr.indexAt 115 (.slice (some ⟨w.heap.size,0,none⟩) n n) (.int .i64 ((i:Int)+(j:Int)))).run Tryz.prog W= .ok (.pointer (some ⟨w.heap.size,i+j,none⟩)) W:=hio;have hjb:j<=20000:=by omega
      have hjle:j<=db.length:=Nat.le_of_eq HJ.out.1;have hwij:IntKind.i64.wrap ((i:Int)+(j:Int))=((i+j:Nat):Int):=by rw[IntKind.wrap_i64];omega
      have d5:decide ((0:Int)<(c:Int))=true:=decide_eq_true (by omega);have d6:decide (0<c)=true:=decide_eq_true (by omega);have hP:=HX2.out.put (i+j) c;have hset:l.set (i+j) c=l1:=by
       have h2:=HJ.out.2.1;have h3:=HJ.out.2.2;rw[HM1.out,<- h3,<- h2,HJ.out.1]
      rw[hset]at hP;have HP:=zh hP;have HCd:Hid ((c:Int)/4294967296=((0:Nat):Int)):=by
       have:(c:Int)/4294967296=((0:Nat):Int):=by omega
       exact zh this
      have HJ1:=zh HJ.out.1;clear z1 z2 z4 z5 hz HCase HJ hll hP hset HI1 HO1 HM1;go_wp2_with fail;go_roundw
      case rel=>exact⟨j+1,0,l1,by go_num,by first | rfl | rw[HCd.out],HP.out,.inr ⟨by rw[HJ1.out],rfl,rfl⟩⟩
      case measure=>simp[intOf];omega
  ·obtain rfl:i=da.length:=by omega
   have d1:decide (((da.length:Nat):Int)<((da.length:Nat):Int))=false:=decide_eq_false (by omega);have d2:decide (da.length<da.length)=false:=decide_eq_false (by omega);have HT:=zh (HE.out wo HX.out);clear HE HI HO HM HDa HDb HX;go_wp2_with fail;refine zm HT.out ?_;rintro e w2 ⟨⟨u,rfl,hD⟩,hb⟩;have HD:=zh hD;have HB:=zh hb;clear hD hb HT;go_wp2_with fail;go_ret;exact⟨⟨_,rfl,HD.out⟩,HB.out⟩
end Go.Proofs.YtnkilceibkkjlaaGreat
