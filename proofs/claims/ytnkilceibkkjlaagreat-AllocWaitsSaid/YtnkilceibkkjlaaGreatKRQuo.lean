/- What is proved here: plain facts for a division of digits -/
import Derived.Test.YtnkilceibkkjlaaGreatKRSum
set_option maxRecDepth 100000
set_option maxHeartbeats 16000000
namespace Go.Proofs.YtnkilceibkkjlaaGreat
open Go.RowKit
theorem zcr(a b:Nat)(ha:a<4294967296)(hb:b<4294967296):bits .or .u32 (a:Int) (b:Int)=((a ||| b:Nat):Int):=by
 have h:=Nat.or_lt_two_pow (n:=32) (by simpa using ha) (by simpa using hb);show IntKind.u32.wrap ((BitVec.ofInt 32 (a:Int) ||| BitVec.ofInt 32 (b:Int)).toNat:Int)=_
 rw[BitVec.ofInt_natCast,BitVec.ofInt_natCast,BitVec.toNat_or,BitVec.toNat_ofNat,BitVec.toNat_ofNat,Nat.mod_eq_of_lt (by omega),Nat.mod_eq_of_lt (by omega),IntKind.wrap_u32];omega
theorem zgi(a:Nat)(ha:a<4294967296):bits .and .u32 (a:Int) 1=((a%2:Nat):Int):=by
 show IntKind.u32.wrap ((BitVec.ofInt 32 (a:Int) &&& BitVec.ofInt 32 ((1:Nat):Int)).toNat:Int)=_
 rw[BitVec.ofInt_natCast,BitVec.ofInt_natCast,BitVec.toNat_and,BitVec.toNat_ofNat,BitVec.toNat_ofNat,Nat.mod_eq_of_lt (by omega),Nat.mod_eq_of_lt (by decide),Nat.and_one_is_mod,IntKind.wrap_u32];omega
theorem zx6:∀ (l:List Nat) (k:Nat),DOk l->dg l k=z04 l/BP k%4294967296
 | [],k,_=>by
  have e:z04 []=0:=rfl
  rw[e,Nat.zero_div];rfl
 | d::l,0,h=>by
  have hd:=h d (by simp)
  show d=(d+4294967296*z04 l)/BP 0%4294967296
  rw[show BP 0=1 from rfl,Nat.div_one];omega
 | d::l,k+1,h=>by
  have hd:=h d (by simp)
  have ih:=zx6 l k h.tail
  show dg l k=(d+4294967296*z04 l)/BP (k+1)%4294967296
  rw[ih,z6w,<- Nat.div_div_eq_div_mul]
  congr 2
  omega
theorem zvd{l:List Nat}(h:DOk l)(i:Nat):dg l (i/32)/2 ^ (i%32)%2=z04 l/2 ^ i%2:=by
 rw[zx6 l _ h,zh7,show(4294967296:Nat)=2 ^ (i%32)*2 ^ (32-i%32)by rw[<- Nat.pow_add,show i%32+(32-i%32)=32 by omega],Nat.mod_mul_right_div_self,Nat.div_div_eq_div_mul,<- Nat.pow_add,show 32*(i/32)+i%32=i by omega]
 rw[Nat.mod_mod_of_dvd];exact⟨2 ^ (31-i%32),by rw[Nat.mul_comm,<- Nat.pow_succ];congr 1;omega⟩
theorem zwh{l:List Nat}(h:DOk l)(i:Nat)(hl:i/32<l.length)(hz:z04 l%2 ^ (i+1)=0):dg l (i/32)+2 ^ (i%32)<4294967296/\dg l (i/32) ||| 2 ^ (i%32)=dg l (i/32)+2 ^ (i%32)/\z04 (l.set (i/32) (dg l (i/32)+2 ^ (i%32)))=z04 l+2 ^ i:=by
 have hw:dg l (i/32)%2 ^ (i%32+1)=0:=by
  rw[zx6 l _ h,zh7];have hd:2 ^ (i%32+1)∣4294967296:=by
   rw[show(4294967296:Nat)=2 ^ 32 by decide];exact Nat.pow_dvd_pow 2 (by omega)
  rw[Nat.mod_mod_of_dvd _ hd];have hp1:2 ^ (i+1)=2 ^ (32*(i/32))*2 ^ (i%32+1):=by rw[<- Nat.pow_add];congr 1;omega
  have h1:z04 l=2 ^ (32*(i/32))*(2 ^ (i%32+1)*(z04 l/2 ^ (i+1))):=by
   have:=Nat.div_add_mod (z04 l) (2 ^ (i+1));rw[hz,Nat.add_zero,hp1,Nat.mul_assoc,<- hp1]at this;exact this.symm
  rw[h1,Nat.mul_div_cancel_left _ (Nat.pow_pos (by decide)),Nat.mul_mod_right]
 have hlt:=z8k h (i/32);obtain⟨b1,b2⟩:=zuk _ _ (by omega) hw (show dg l (i/32)<18446744073709551616 by omega);have hfit:dg l (i/32)+2 ^ (i%32)<4294967296:=by
  have h64:(4294967296:Nat)=2 ^ (i%32+1)*2 ^ (31-i%32):=by
   rw[<- Nat.pow_add,show i%32+1+(31-i%32)=32 by omega]
  have hq:dg l (i/32)=2 ^ (i%32+1)*(dg l (i/32)/2 ^ (i%32+1)):=by
   have:=Nat.div_add_mod (dg l (i/32)) (2 ^ (i%32+1));omega
  have hp:2 ^ (i%32)<2 ^ (i%32+1):=Nat.pow_lt_pow_right (by decide) (by omega);rw[h64]at hlt ⊢;have h1:dg l (i/32)/2 ^ (i%32+1)<2 ^ (31-i%32):=Nat.div_lt_of_lt_mul hlt;have h2:2 ^ (i%32+1)*(dg l (i/32)/2 ^ (i%32+1)+1)<=2 ^ (i%32+1)*2 ^ (31-i%32):=Nat.mul_le_mul_left _ h1;rw[Nat.mul_add]at h2;omega
 refine⟨hfit,b2,?_⟩;have hs:=zcb 4294967296 l (i/32) _ (dg l (i/32)+2 ^ (i%32)) (zah hl);have hp:2 ^ i=BP (i/32)*2 ^ (i%32):=by rw[zh7,<- Nat.pow_add];congr 1;omega
 show dgN 4294967296 _=dgN 4294967296 l+2 ^ i
 rw[Nat.mul_add]at hs;have hs:dgN 4294967296 (l.set (i/32) (dg l (i/32)+2 ^ (i%32)))+BP (i/32)*dg l (i/32)=dgN 4294967296 l+(BP (i/32)*dg l (i/32)+BP (i/32)*2 ^ (i%32)):=hs;rw[<- hp]at hs;omega
def shC(R:List Nat)(c:Nat):Nat->Nat
 | 0=>c
 | j+1=>dg R j/2147483648
def shL(R:List Nat)(c:Nat):Nat->List Nat
 | 0=>R
 | j+1=>(shL R c j).set j (dg R j*2%4294967296+shC R c j)
theorem zuw{R:List Nat}(hR:DOk R){c:Nat}(hc:c<=1):∀ j,shC R c j<=1
 | 0=>hc
 | j+1=>by have:=z8k hR j;show dg R j/2147483648<=1;omega
theorem zj8{R:List Nat}(hR:DOk R){c:Nat}(hc:c<=1):∀ j,j<=R.length->(shL R c j).length=R.length/\DOk (shL R c j)/\(∀ k,j<=k->dg (shL R c j) k=dg R k)/\z04 (shL R c j)+BP j*shC R c j=z04 R+z04 (R.take j)+c
 | 0,_=>⟨rfl,hR,fun k _=>rfl,by show z04 R+1*c=z04 R+z04 (R.take 0)+c;rw[List.take_zero];show _=z04 R+0+c;omega⟩
 | j+1,hj=>by
  obtain⟨h1,h2,h3,h4⟩:=zj8 hR hc j (by omega)
  have hl:=z8k hR j
  have hcl:=zuw hR hc j
  refine⟨by rw[shL,List.length_set];exact h1,fun d hd => ?_,fun k hk => ?_,?_⟩
  ·rcases List.mem_or_eq_of_mem_set hd with hd | rfl
   ·exact h2 d hd
   ·omega
  ·rw[<- h3 k (by omega)]
   unfold dg
   rw[shL,List.getD_eq_getElem?_getD,List.getElem?_set_ne (by omega),<- List.getD_eq_getElem?_getD]
  ·have hs:=zcb 4294967296 (shL R c j) j _ (dg R j*2%4294967296+shC R c j) (zah (by omega))
   rw[h3 j (Nat.le_refl _)]at hs
   have hs:z04 (shL R c (j+1))+BP j*dg R j=z04 (shL R c j)+BP j*(dg R j*2%4294967296+shC R c j):=hs
   rw[z3c,z6w,show shC R c (j+1)=dg R j/2147483648 from rfl]
   have e:dg R j*2%4294967296+4294967296*(dg R j/2147483648)=dg R j+dg R j:=by omega
   have e2:=congrArg (BP j * ·) e
   simp only[Nat.mul_add]at e2
   rw[Nat.mul_left_comm (BP j)]at e2
   rw[Nat.mul_add]at hs
   rw[Nat.mul_assoc]
   omega
theorem zwa{R:List Nat}(hR:DOk R){c:Nat}(hc:c<=1)(h:2*z04 R+c<BP R.length):(shL R c R.length).length=R.length/\DOk (shL R c R.length)/\z04 (shL R c R.length)=2*z04 R+c:=by
 obtain⟨h1,h2,_,h4⟩:=zj8 hR hc R.length (Nat.le_refl _);rw[List.take_length]at h4;have hz:shC R c R.length=0:=by
  rcases Nat.eq_zero_or_pos (shC R c R.length)with e | e
  ·exact e
  ·have:BP R.length*1<=BP R.length*shC R c R.length:=Nat.mul_le_mul_left _ e;omega
 rw[hz]at h4;exact⟨h1,h2,by omega⟩
theorem zro{x b:Nat}(hb:b<=1):bits .or .u32 (IntKind.u32.wrap ((x:Int)*2)) (b:Int)=((x*2%4294967296+b:Nat):Int):=by
 have hw:IntKind.u32.wrap ((x:Int)*2)=((x*2%4294967296:Nat):Int):=by rw[IntKind.wrap_u32];omega
 rw[hw,zcr _ _ (by omega) (by omega)];congr 1;have e:x*2%4294967296=2 ^ 1*(x%2147483648):=by omega
 rw[e,<- Nat.two_pow_add_eq_or_of_lt (by omega)]
def padL(L:List Nat)(n:Nat):List Nat:=L++List.replicate (n-L.length) 0
theorem za2{L:List Nat}{n:Nat}(h:L.length<=n):(padL L n).length=n:=by
 unfold padL;rw[List.length_append,List.length_replicate];omega
theorem zvv(L:List Nat)(n k:Nat):dg (padL L n) k=dg L k:=by
 unfold dg padL;rw[List.getD_eq_getElem?_getD,List.getD_eq_getElem?_getD]
 by_cases h:k<L.length
 ·rw[List.getElem?_append_left h]
 ·rw[List.getElem?_append_right (by omega),List.getElem?_replicate,List.getElem?_eq_none (by omega)];split<;>rfl
theorem zs4(L:List Nat)(n:Nat):z04 (padL L n)=z04 L:=by
 unfold padL;rw[z6j,z6r];simp
theorem zx0{L:List Nat}(h:DOk L)(n:Nat):DOk (padL L n):=fun d hd=>by
 rcases List.mem_append.1 hd with hd | hd
 ·exact h d hd
 ·rw[(List.mem_replicate.1 hd).2];decide
def cpL(L R:List Nat)(j:Nat):List Nat:=(padL L R.length).take j++R.drop j
theorem zsz(L R:List Nat):cpL L R 0=R:=by unfold cpL;simp
theorem zwx{L R:List Nat}(h:L.length<=R.length):cpL L R R.length=padL L R.length:=by
 unfold cpL;rw[List.take_of_length_le (by rw[za2 h];exact Nat.le_refl _),List.drop_length,List.append_nil]
theorem zve{L R:List Nat}(h:L.length<=R.length)(j:Nat)(hj:j<=R.length):(cpL L R j).length=R.length:=by
 unfold cpL;rw[List.length_append,List.length_take,List.length_drop,za2 h];omega
theorem zv4{L R:List Nat}(h:L.length<=R.length){j:Nat}(hj:j<R.length):(cpL L R j).set j (dg L j)=cpL L R (j+1):=by
 have hl:((padL L R.length).take j).length=j:=by rw[List.length_take,za2 h];omega
 unfold cpL;rw[List.set_append_right _ _ (by omega),hl,Nat.sub_self,List.take_add_one,zah (by rw[za2 h];exact hj),zvv,List.drop_eq_getElem_cons hj,List.set_cons_zero,List.append_assoc];rfl
abbrev zyw(w:World)(n m:Nat)(e:Ending)(w':World):Prop:=(∃ u v,e= .returned (.tuple #[u,v])/\DgAt w' u (digs n)/\DgAt w' v (digs m))/\Below w.heap.size w w'
structure QAt (w:World) (aa ab:Option Addr) (da db:List Nat) (ca cb:Nat) (Q R:List Nat) (wr:World):Prop where
 b:Below w.heap.size w wr
 a:DgIn wr aa da ca
 c:DgIn wr ab db cb
 q:wr.heap[w.heap.size]?=some (.cells (aD Q) 181 (0,0))
 r:wr.heap[w.heap.size+1]?=some (.cells (aD R) 181 (0,0))
 na:∀ g,aa=some ⟨g,0,none⟩->g<w.heap.size\/da = []
 nb:∀ g,ab=some ⟨g,0,none⟩->g<w.heap.size\/db = []
theorem QAt.start{w:World}{aa ab:Option Addr}{da db:List Nat}{ca cb:Nat}(hA:DgIn w aa da ca)(hB:DgIn w ab db cb)(hbo:∀ g,ab=some ⟨g,0,none⟩->g<w.heap.size\/db = [])(n m:Nat):QAt w aa ab da db ca cb (List.replicate n 0) (List.replicate m 0) ((w.alloc (.cells (aD (List.replicate n 0)) 181)).alloc (.cells (aD (List.replicate m 0)) 181)):=by
 have hb:=z00 (z00 (Below.refl _ w) (.cells (aD (List.replicate n 0)) 181)) (.cells (aD (List.replicate m 0)) 181);refine⟨hb,hA.below hb,hB.below hb,?_,?_,hA.old,hbo⟩
 ·rw[heap_alloc_old _ _ (by simp)];exact heap_alloc_new w _
 ·have:=heap_alloc_new (w.alloc (.cells (aD (List.replicate n 0)) 181)) (.cells (aD (List.replicate m 0)) 181)
  rwa [World.size_alloc]at this
theorem QAt.below{w wr w':World}{aa ab:Option Addr}{da db:List Nat}{ca cb:Nat}{Q R:List Nat}(h:QAt w aa ab da db ca cb Q R wr)(hb:Below wr.heap.size wr w'):QAt w aa ab da db ca cb Q R w':=
 ⟨z0b h.b hb,h.a.below hb,h.c.below hb,(hb.block _ (z02 h.q)).trans h.q,(hb.block _ (z02 h.r)).trans h.r,h.na,h.nb⟩
theorem QAt.putR{w wr:World}{aa ab:Option Addr}{da db:List Nat}{ca cb:Nat}{Q R:List Nat}(h:QAt w aa ab da db ca cb Q R wr)(k v:Nat):QAt w aa ab da db ca cb Q (R.set k v) (wr.setCell ⟨w.heap.size+1,k,none⟩ (.int .u32 v)):=by
 have hk:∀ g,g<w.heap.size->(wr.setCell ⟨w.heap.size+1,k,none⟩ (.int .u32 v)).heap[g]?=wr.heap[g]?:=fun g hg=>Below.heap_setCell _ _ _ _ (by simp;omega)
 refine⟨h.b.setCell (p:=⟨w.heap.size+1,k,none⟩) (by simp) _,h.a.keep h.na hk,h.c.keep h.nb hk,by rw[Below.heap_setCell _ _ _ _ (by simp)];exact h.q,?_,h.na,h.nb⟩;rw[<- zna R k v];exact heap_setCell_same _ _ _ _ _ _ h.r
theorem QAt.putQ{w wr:World}{aa ab:Option Addr}{da db:List Nat}{ca cb:Nat}{Q R:List Nat}(h:QAt w aa ab da db ca cb Q R wr)(k v:Nat):QAt w aa ab da db ca cb (Q.set k v) R (wr.setCell ⟨w.heap.size,k,none⟩ (.int .u32 v)):=by
 have hk:∀ g,g<w.heap.size->(wr.setCell ⟨w.heap.size,k,none⟩ (.int .u32 v)).heap[g]?=wr.heap[g]?:=fun g hg=>Below.heap_setCell _ _ _ _ (by simp;omega)
 refine⟨h.b.setCell (p:=⟨w.heap.size,k,none⟩) (by simp) _,h.a.keep h.na hk,h.c.keep h.nb hk,?_,by rw[Below.heap_setCell _ _ _ _ (by simp)];exact h.r,h.na,h.nb⟩;rw[<- zna Q k v];exact heap_setCell_same _ _ _ _ _ _ h.q
theorem zgv{w:World}{g n:Nat}{l:List Nat}(h:w.heap[g]?=some (.cells (aD l) 181 (0,0)))(hn:l.length=n):DgAt w (.slice (some ⟨g,0,none⟩) n n) l:=by
 subst hn;refine⟨_,_,rfl,Nat.le_refl _,.inr ⟨_,rfl,fun j d hj => ?_⟩⟩;rw[cell_of_row _ _ _ _ _ _ h,List.getElem?_toArray,List.getElem?_map,hj];rfl
theorem zfq{w:World}{g k:Nat}{l:List Nat}(h:w.heap[g]?=some (.cells (aD l) 181 (0,0)))(hk:k<l.length):w.cell? ⟨g,k,none⟩=some (.int .u32 ((dg l k:Nat):Int)):=by
 rw[cell_of_row _ _ _ _ _ _ h];exact zs7 hk
structure QRs (N d k la lb:Nat) (Q R:List Nat):Prop where
 ql:Q.length=la
 qo:DOk Q
 qn:z04 Q=(N/2 ^ k/d)*2 ^ k
 rl:R.length=lb+1
 ro:DOk R
 rn:z04 R=N/2 ^ k%d
theorem zeo(w:World)(va vb:Value)(da db:List Nat)(ha:DOk da)(hb:DOk db)(hla:da.length<10000)(hlb:db.length<10000)(hA:DgAt w va da)(hB:DgAt w vb db)(h0:z04 db≠0):Calls Tryz.prog 109 #[va,vb] w (zyw w (z04 da/z04 db) (z04 da%z04 db)):=by
 obtain⟨aa,ca,rfl,hA⟩:=hA;obtain⟨ab,cb,rfl,hB⟩:=hB;have hd0:0<z04 db:=Nat.pos_of_ne_zero h0;have hNd:z04 (digs (z04 db))=z04 db:=z0j _;have hOd:DOk (digs (z04 db)):=z1h _;have hlen:(digs (z04 db)).length<=db.length:=z3a (z2j hb);have hpos:0<(digs (z04 db)).length:=by
  cases e:digs (z04 db)with
  | nil=>rw[e]at hNd;exact absurd hNd.symm h0
  | cons d l=>simp
 have HT:Hid (Calls Tryz.prog 127 #[.slice ab db.length cb] w fun e w'=>(e= .returned (.slice ab (digs (z04 db)).length cb)/\DgIn w ab (digs (z04 db)) cb)/\w=w'):=z8y w ab cb db hb (by omega) hB;have hbo:∀ g,ab=some ⟨g,0,none⟩->g<w.heap.size\/digs (z04 db) = []:=fun g hg=>by
  rcases hB.old g hg with h | h
  ·exact .inl h
  ·rw[h]at h0;exact absurd rfl h0
 have hRN:∀ Q R k,QRs (z04 da) (z04 db) k da.length (digs (z04 db)).length Q R->z04 R<z04 db/\R.length=(digs (z04 db)).length+1/\Q.length=da.length:=fun Q R k h=>⟨by rw[h.rn];exact Nat.mod_lt _ hd0,h.rl,h.ql⟩
 have HSt:Hid (QRs (z04 da) (z04 db) (32*da.length) da.length (digs (z04 db)).length (List.replicate da.length 0) (List.replicate ((digs (z04 db)).length+1) 0)):=by
  have hz:z04 da/2 ^ (32*da.length)=0:=by
   rw[<- zh7];exact Nat.div_eq_of_lt (z2j ha)
  refine⟨List.length_replicate,fun d hd=>by rw[(List.mem_replicate.1 hd).2];decide,by rw[z6r,hz,Nat.zero_div,Nat.zero_mul],List.length_replicate,fun d hd=>by rw[(List.mem_replicate.1 hd).2];decide,by rw[z6r,hz,Nat.zero_mod]⟩
 have hNd2:=zh hNd;have hDa:∀ k,dg da k<4294967296:=z8k ha;have hBitA:∀ i,dg da (i/32)/2 ^ (i%32)%2=z04 da/2 ^ i%2:=zvd ha
 have HEnd:Hid (∀ Q R wr,QRs (z04 da) (z04 db) 0 da.length (digs (z04 db)).length Q R->QAt w aa ab da (digs (z04 db)) ca cb Q R wr->Calls Tryz.prog 127 #[.slice (some ⟨w.heap.size,0,none⟩) da.length da.length] wr fun e w'=>(∃ u,e= .returned u/\DgAt w' u (digs (z04 da/z04 db))) /\
   Calls Tryz.prog 127 #[.slice (some ⟨w.heap.size+1,0,none⟩) ((digs (z04 db)).length+1) ((digs (z04 db)).length+1)] w' fun e w''=>(∃ u,e= .returned u/\DgAt w'' u (digs (z04 da%z04 db)))/\w''=wr/\w'=wr):=fun Q R wr h hQ=>by
  have e1:=h.qn;have e2:=h.rn;rw[Nat.pow_zero,Nat.div_one,Nat.mul_one]at e1;rw[Nat.pow_zero,Nat.div_one]at e2;refine(zkf wr _ Q h.qo (by rw[h.ql];omega) (zgv hQ.q h.ql)).mono fun e w' ⟨⟨u,he,hD⟩,hw⟩ => ?_
  subst hw;rw[e1]at hD;refine⟨⟨u,he,hD⟩,?_⟩;refine(zkf wr _ R h.ro (by rw[h.rl];omega) (zgv hQ.r h.rl)).mono fun e w' ⟨⟨u,he,hD⟩,hw⟩ => ?_
  subst hw;rw[e2]at hD;exact⟨⟨u,he,hD⟩,rfl,rfl⟩
 have hla2:32*da.length<=320000:=by omega
 have HStart:=zh (fun hB2=>QAt.start (w:=w) (aa:=aa) (ab:=ab) (da:=da) (db:=digs (z04 db)) (ca:=ca) (cb:=cb) hA hB2 hbo da.length ((digs (z04 db)).length+1));have hlb2:(digs (z04 db)).length<10000:=by omega
 have hMk1:=zix da.length (by omega);have hMk2:∀ W,(Instr.makeSlice 115 (.int .i64 (((digs (z04 db)).length:Nat)+1:Int)) (.int .i64 (((digs (z04 db)).length:Nat)+1:Int))).run Tryz.prog W= .ok (.slice (some ⟨W.heap.size,0,none⟩) ((digs (z04 db)).length+1) ((digs (z04 db)).length+1)) (W.alloc (.cells (aD (List.replicate ((digs (z04 db)).length+1) 0)) 181)):=zix ((digs (z04 db)).length+1) (by omega);have hd0:=zh hd0;clear hNd hlen hB hbo ha hb h0 hlb hA;have HOd:=zh hOd;have HRN:=zh hRN;have HDa:=zh hDa;have HBitA:=zh hBitA;clear hOd hRN hDa hBitA;generalize z04 da=N at *
 generalize z04 db=D at *
 generalize hes:digs D=es at *
 have HEs:=zh hes;clear hes;have hne:(((es.length:Nat):Int)==0)=false:=beq_eq_false_iff_ne.2 (by omega);have hne2:(es.length==0)=false:=beq_eq_false_iff_ne.2 (by omega);go_enter Tryz.func109,Tryz.ntmps109;go_wp2_with fail;refine zm HT.out ?_;rintro e w1 ⟨⟨rfl,hB2⟩,rfl⟩;have HQ0:=zh (HStart.out hB2);clear hB2 HT HStart;go_wp2_with fail
 go_loopw [8] (fun iv wr=>∃ (k:Nat) (Q R:List Nat),iv= .int .i64 ((k:Int)-1)/\k<=32*da.length/\QRs N D k da.length es.length Q R/\QAt w aa ab da es ca cb Q R wr) (fun iv _=>(intOf iv+1).toNat)
 case atStart=>exact⟨32*da.length,_,_,by first | rfl | go_num,by omega,HSt.out,HQ0.out⟩
 case round =>
  obtain⟨k,Q,R,rfl,hk,hqr,hQ⟩:=hrel;obtain⟨wo,rfl⟩:∃ wo:World,wo=wr:=⟨_,rfl⟩;have HQR:=zh hqr;have HQ:=zh hQ;clear hqr hQ HSt HQ0;cases k with
  | zero =>
   have HT2:=zh (HEnd.out Q R wo HQR.out HQ.out);have HB:=zh HQ.out.b;clear HEnd HRN HDa HBitA HOd;go_wp2_with fail;refine zm HT2.out ?_;rintro e w2 ⟨⟨u,rfl,hD1⟩,hC2⟩;have HC2:=zh hC2;have HD1:=zh hD1;clear hC2 hD1 HT2;go_wp2_with fail;refine zm HC2.out ?_;rintro e w3 ⟨⟨v,rfl,hD2⟩,rfl,rfl⟩;have HD2:=zh hD2;clear hD2 HC2;go_wp2_with fail;refine bodyPost_ret (results_tmp2 rfl _ _ _) rfl ?_;exact⟨⟨_,_,rfl,HD1.out,HD2.out⟩,HB.out⟩
  | succ k =>
   have hz:((k+1:Nat):Int)-1=(k:Int):=by omega
   have hkl:k/32<da.length:=by omega
   obtain⟨g,hga,hcx⟩:=HQ.out.a.at (zah hkl);have hix:=z1s (c:=ca) hga hkl;have hix2:∀ W,(Instr.indexAt 115 (.slice aa da.length ca) (.int .i64 ((k:Int)/32))).run Tryz.prog W= .ok (.pointer (some ⟨g,k/32,none⟩)) W:=hix;have hxl:=HDa.out (k/32);have hxs:dg da (k/32)/2 ^ (k%32)<=dg da (k/32):=Nat.div_le_self _ _;have hbt:bits .and .u32 (((dg da (k/32):Nat):Int)/2 ^ (k%32)) 1=((N/2 ^ k%2:Nat):Int):=by
    rw[show(((dg da (k/32):Nat):Int)/2 ^ (k%32))=((dg da (k/32)/2 ^ (k%32):Nat):Int)by rw[Int.natCast_ediv,Int.natCast_pow];rfl,zgi _ (by omega),HBitA.out k]
   have hb1:=Nat.mod_lt (N/2 ^ k) (show 0<2 by decide);obtain⟨r1,r2,r3⟩:=HRN.out Q R _ HQR.out;have HSh:Hid (∀ j,j<=R.length->(shL R (N/2 ^ k%2) j).length=R.length/\DOk (shL R (N/2 ^ k%2) j)/\(∀ i,j<=i->dg (shL R (N/2 ^ k%2) j) i=dg R i)/\_):=zj8 HQR.out.ro (by omega);have HShC:=zh (zuw (c:=N/2 ^ k%2) HQR.out.ro (by omega));have HRl:=zh (fun j=>z8k HQR.out.ro j);rw[hz];have HAll:=zh (fun h=>zwa (c:=N/2 ^ k%2) HQR.out.ro (by omega) h);have HDv:=zh (zgc N D k hd0.out);have HK:=zh hk;have hkb:k<320000:=by omega
   clear hga hk hz;generalize hbe:N/2 ^ k%2=bt at *
   have HBe:=zh hbe;clear hbe;go_wp2_with fail;clear hbt hix hix2 hcx hxl hxs hkl
   go_loopw [47,9] (fun jv cv wr=>∃ j:Nat,jv= .int .i64 j/\j<=es.length+1/\cv= .int .u32 (shC R bt j)/\QAt w aa ab da es ca cb Q (shL R bt j) wr) (fun jv _ _=>es.length+1-(intOf jv).toNat)
   case atStart=>exact⟨0,rfl,by omega,rfl,HQ.out⟩
   case round =>
    obtain⟨j,rfl,hj,rfl,hQ2⟩:=hrel;obtain⟨w2,rfl⟩:∃ w2:World,w2=wr:=⟨_,rfl⟩;have HQ2:=zh hQ2;clear hQ2 HQ
    by_cases hjl:j<es.length+1
    ·have d1:decide ((j:Int)<((es.length:Nat):Int)+1)=true:=decide_eq_true (by omega);obtain⟨z1,z2,z3,z4⟩:=HSh.out j (by omega);have cR:w2.cell? ⟨w.heap.size+1,j,none⟩=some (.int .u32 ((dg R j:Nat):Int)):=by
      rw[<- z3 j (Nat.le_refl _)];exact zfq HQ2.out.r (by rw[z1,r2];exact hjl)
     have fR:w2.frozen? ⟨w.heap.size+1,j,none⟩=false:=frozen_of_row _ _ _ _ _ HQ2.out.r;have hir:∀ W,(Instr.indexAt 115 (.slice (some ⟨w.heap.size+1,0,none⟩) (es.length+1) (es.length+1)) (.int .i64 j)).run Tryz.prog W= .ok (.pointer (some ⟨w.heap.size+1,j,none⟩)) W:=z1s rfl hjl;have hrl:=HRl.out j;have hsc:=HShC.out j;have hor:=zro (x:=dg R j) hsc;rw[IntKind.wrap_u32]at hor;have HP:Hid (QAt w aa ab da es ca cb Q (shL R bt (j+1)) (w2.setCell ⟨w.heap.size+1,j,none⟩ (.int .u32 ((dg R j*2%4294967296+shC R bt j:Nat):Int)))):=HQ2.out.putR _ _;have HCn:Hid (shC R bt (j+1)=dg R j/2147483648):=rfl;have HOr:=zh hor;clear z1 z2 z3 z4 hor HSh;go_wp2_with fail;go_roundw
     case rel=>exact⟨j+1,by go_num,by omega,by rw[HCn.out];rfl,by rw[HOr.out];exact HP.out⟩
     case measure=>simp[intOf];omega
    ·obtain rfl:j=es.length+1:=by omega
     have d1:decide (((es.length+1:Nat):Int)<((es.length:Nat):Int)+1)=false:=decide_eq_false (by omega);have d2:decide ((((es.length:Nat):Int)+1)<((es.length:Nat):Int)+1)=false:=decide_eq_false (by omega);have hRl:z04 R<D:=r1;have hDl:D<BP es.length:=by have:=z2j HOd.out;rw[hNd2.out]at this;exact this
     have hcond:2*z04 R+bt<BP R.length:=by rw[r2,z6w];omega
     obtain⟨l1,o1,n1⟩:=HAll.out hcond;rw[r2]at l1 o1 n1;have hNR:z04 R=N/2 ^ (k+1)%D:=HQR.out.rn;have hNQ:=HQR.out.qn;obtain⟨dv1,dv2⟩:=HDv.out;rw[<- hNR]at dv1 dv2;have HQ3:=HQ2.out;generalize hsh:shL R bt (es.length+1)=R1 at *
     generalize shC R bt (es.length+1)=cy at *
     have HCmp:Hid (Calls Tryz.prog 56 #[.slice (some ⟨w.heap.size+1,0,none⟩) (es.length+1) (es.length+1),.slice ab es.length cb] w2 fun e w'=>e= .returned (.int .i64 (cmpN (2*z04 R+bt) D))/\QAt w aa ab da es ca cb Q R1 w'):=(zbh w2 _ _ R1 es o1 HOd.out (by omega) (by omega) (zgv HQ3.r l1) ⟨ab,cb,rfl,HQ3.c⟩).mono fun e w' ⟨he,hb⟩=>⟨by rw[he,n1,hNd2.out],HQ3.below hb⟩
     clear HAll HDv HSh HShC HRl HQ2 hsh HEnd hcond
     by_cases ht:2*z04 R+bt<D
     ·have hcm:cmpN (2*z04 R+bt) D = -1:=if_pos ht;have HNx:Hid (QRs N D k da.length es.length Q R1):=by
       obtain⟨e1,e2⟩:=dv1 ht;refine⟨HQR.out.ql,HQR.out.qo,?_,l1,o1,by rw[n1,e1]⟩;rw[hNQ,e2];generalize N/2 ^ (k+1)/D=X;rw[Nat.pow_succ,Nat.mul_comm 2 X,Nat.mul_assoc X 2,Nat.mul_comm 2 (2 ^ k)]
      rw[hcm]at HCmp;clear hcm dv1 dv2 hNR hNQ n1 l1 o1 r2 r3 HQ3 ht;go_wp2_with fail;refine zm HCmp.out ?_;rintro e w3 ⟨rfl,hQ4⟩;have HQ4:=zh hQ4;clear hQ4 HCmp;go_wp2_with fail;go_roundw
      case rel=>exact⟨k,Q,R1,by go_num,by have:=HK.out;omega,HNx.out,HQ4.out⟩
      case measure=>simp[intOf]
     ·obtain⟨cm,hcm,hcm0⟩:∃ c:Int,cmpN (2*z04 R+bt) D=c/\decide (0<=c)=true:=⟨_,rfl,by unfold cmpN;rw[if_neg ht];split<;>decide⟩;rw[hcm]at HCmp;clear hcm;have HMin:Hid (∀ W,QAt w aa ab da es ca cb Q R1 W->Calls Tryz.prog 78 #[.slice (some ⟨w.heap.size+1,0,none⟩) (es.length+1) (es.length+1),.slice ab es.length cb] W fun e w'=>∃ ad c,e= .returned (.tuple #[.slice ad (digs (2*z04 R+bt-D)).length c,.bool true])/\DgIn w' ad (digs (2*z04 R+bt-D)) c/\(∀ g,ad=some ⟨g,0,none⟩->w.heap.size+1<g)/\QAt w aa ab da es ca cb Q R1 w'):=fun W hW=>by
       have:=zht W _ _ R1 es o1 HOd.out (by omega) (by omega) (zgv hW.r l1) ⟨ab,cb,rfl,hW.c⟩ (by rw[n1,hNd2.out];omega);rw[n1,hNd2.out]at this;refine this.mono fun e w' ⟨⟨u,he,ad,c,h1,h2,h3⟩,hb⟩ => ?_
       subst h1;exact⟨ad,c,he,h2,fun g hg=>by have h4:=h3 g hg;have h5:=z02 hW.r;omega,hW.below hb⟩
      have hLl:(digs (2*z04 R+bt-D)).length<=R1.length:=by
       refine z3a ?_;have h6:=z2j o1;rw[n1]at h6;omega
      have hLo:=z1h (2*z04 R+bt-D);have hLn:=z0j (2*z04 R+bt-D);generalize digs (2*z04 R+bt-D)=L at *
      have HTn:=zh ht;clear ht;go_wp2_with fail;refine zm HCmp.out ?_;rintro e w3 ⟨rfl,hQ4⟩;have HMin2:=zh (HMin.out w3 hQ4);clear hQ4 HCmp HMin;go_wp2_with fail;refine zm HMin2.out ?_;rintro e w4 ⟨ad,c,rfl,hDL,hfr,hQ5⟩;have HQ5:=zh hQ5;have HDL:=zh hDL;have HFr:=zh hfr;clear hQ5 hDL hfr HMin2;go_wp2_with fail
      go_loopw [79] (fun jv wr=>∃ j:Nat,jv= .int .i64 j/\j<=es.length+1/\DgIn wr ad L c/\QAt w aa ab da es ca cb Q (cpL L R1 j) wr) (fun jv _=>es.length+1-(intOf jv).toNat)
      case atStart=>exact⟨0,rfl,by omega,HDL.out,by rw[zsz];exact HQ5.out⟩
      case round =>
       obtain⟨j,rfl,hj,hDL,hQ6⟩:=hrel;have HDL6:=zh hDL;have HQ6:=zh hQ6;clear hDL hQ6 HDL HQ5
       by_cases hjl:j<es.length+1
       ·have d1:decide ((j:Int)<((es.length:Nat):Int)+1)=true:=decide_eq_true (by omega);have hcl:j<(cpL L R1 j).length:=by rw[zve hLl j (by omega),l1];exact hjl
        have cR:=zfq HQ6.out.r hcl;have fR:wr.frozen? ⟨w.heap.size+1,j,none⟩=false:=frozen_of_row _ _ _ _ _ HQ6.out.r;have hir:∀ W,(Instr.indexAt 115 (.slice (some ⟨w.heap.size+1,0,none⟩) (es.length+1) (es.length+1)) (.int .i64 j)).run Tryz.prog W= .ok (.pointer (some ⟨w.heap.size+1,j,none⟩)) W:=z1s rfl hjl;have HKp:Hid (∀ W v,DgIn W ad L c->DgIn (W.setCell ⟨w.heap.size+1,j,none⟩ (.int .u32 v)) ad L c):=fun W v hW=>by
         obtain⟨h1,h2⟩:=hW;refine⟨h1,?_⟩;rcases h2 with h2 | ⟨g,h2,h3⟩
         ·exact .inl h2
         ·refine .inr ⟨g,h2,fun i d hi => ?_⟩;have h4:=HFr.out g h2;rw[World.cell?_of_block (w:=W) (by exact Below.heap_setCell _ _ _ _ (by simp;omega))];exact h3 i d hi
        have HSt2:=zh (zv4 hLl (show j<R1.length by rw[l1];exact hjl));have hP:=HQ6.out.putR j (dg L j);have hP2:=(HQ6.out.putR j 0).putR j (dg L j);rw[List.set_set,HSt2.out]at hP2;rw[HSt2.out]at hP;have HP:=zh hP;have HP2:=zh hP2;clear hP hP2 HSt2
        by_cases hjL:j<L.length
        ·have d3:decide ((j:Int)<((L.length:Nat):Int))=true:=decide_eq_true (by omega);have d4:decide (j<L.length)=true:=decide_eq_true hjL;obtain⟨f,hfa,hcy⟩:=HDL6.out.at (zah hjL);have hfn:w.heap.size+1<f:=HFr.out f hfa;have hil:=z1s (c:=c) hfa hjL;have hfne:f≠w.heap.size+1:=by omega
         have hfne2:=Ne.symm hfne;clear hfa;go_wp2_with fail;go_roundw
         case rel=>exact⟨j+1,by go_num,by omega,HKp.out _ _ (HKp.out _ _ HDL6.out),HP2.out⟩
         case measure=>simp[intOf];omega
        ·have d3:decide ((j:Int)<((L.length:Nat):Int))=false:=decide_eq_false (by omega);have d4:decide (j<L.length)=false:=decide_eq_false hjL;have hz0:dg L j=0:=zcz (by omega);rw[hz0]at HP;go_wp2_with fail;go_roundw
         case rel=>exact⟨j+1,by go_num,by omega,HKp.out _ _ HDL6.out,HP.out⟩
         case measure=>simp[intOf];omega
       ·obtain rfl:j=es.length+1:=by omega
        have d1:decide (((es.length+1:Nat):Int)<((es.length:Nat):Int)+1)=false:=decide_eq_false (by omega);have d2:decide ((((es.length:Nat):Int)+1)<((es.length:Nat):Int)+1)=false:=decide_eq_false (by omega);have hQ7:=HQ6.out;have hca:=zwx hLl;rw[l1]at hca;rw[hca]at hQ7;have hkl:k/32<Q.length:=by have:=HK.out;rw[HQR.out.ql];omega
        have hzq:z04 Q%2 ^ (k+1)=0:=by rw[hNQ,Nat.mul_mod_left]
        obtain⟨b1,b2,b3⟩:=zwh HQR.out.qo k hkl hzq;have cQ:=zfq hQ7.q hkl;have fQ:wr.frozen? ⟨w.heap.size,k/32,none⟩=false:=frozen_of_row _ _ _ _ _ hQ7.q;have hiq:∀ W,(Instr.indexAt 115 (.slice (some ⟨w.heap.size,0,none⟩) da.length da.length) (.int .i64 ((k/32:Nat):Int))).run Tryz.prog W= .ok (.pointer (some ⟨w.heap.size,k/32,none⟩)) W:=z1s rfl (by rw[<- HQR.out.ql];exact hkl);have hiq2:∀ W,(Instr.indexAt 115 (.slice (some ⟨w.heap.size,0,none⟩) da.length da.length) (.int .i64 ((k:Int)/32))).run Tryz.prog W= .ok (.pointer (some ⟨w.heap.size,k/32,none⟩)) W:=hiq;have hle:D<=2*z04 R+bt:=Nat.le_of_not_lt HTn.out;obtain⟨e1,e2⟩:=dv2 hle;have HP:=zh (hQ7.putQ (k/32) (dg Q (k/32)+2 ^ (k%32)));have HNx:Hid (QRs N D k da.length es.length (Q.set (k/32) (dg Q (k/32)+2 ^ (k%32))) (padL L (es.length+1))):=by
         refine⟨by rw[List.length_set];exact HQR.out.ql,fun d hd => ?_,?_,za2 (by rw[<- l1];exact hLl),zx0 hLo _,by rw[zs4,hLn,e1]⟩
         ·rcases List.mem_or_eq_of_mem_set hd with hd | rfl
          ·exact HQR.out.qo d hd
          ·exact b1
         ·rw[b3,hNQ,e2];generalize N/2 ^ (k+1)/D=X;rw[Nat.pow_succ,Nat.add_mul,Nat.one_mul,Nat.mul_comm 2 X,Nat.mul_assoc X 2,Nat.mul_comm 2 (2 ^ k)]
        have hpl:2 ^ (k%32)<4294967296:=by
         have:2 ^ (k%32)<2 ^ 32:=Nat.pow_lt_pow_right (by decide) (Nat.mod_lt _ (by decide))
         simpa using this
        have hor:bits .or .u32 (((dg Q (k/32):Nat):Int)) (2 ^ (k%32)%4294967296)=((dg Q (k/32)+2 ^ (k%32):Nat):Int):=by
         have hc:(2:Int) ^ (k%32)=((2 ^ (k%32):Nat):Int):=by simp
         rw[hc];generalize 2 ^ (k%32)=p at *
         rw[show(((p:Nat):Int)%4294967296)=((p:Nat):Int)by omega,zcr _ _ (by omega) hpl,b2]
        have HOr:=zh hor;clear hca hQ7 hkl hzq b1 b2 b3 hle e1 e2 hor hpl dv1 dv2 hNR hNQ hLo hLn hLl l1 o1 n1 HQ6 HDL6;go_wp2_with fail;go_roundw
        case rel=>exact⟨k,_,_,by go_num,by have:=HK.out;omega,HNx.out,by rw[HOr.out];exact HP.out⟩
        case measure=>simp[intOf]
def subW(x y:W4):W4:=if uN y<=uN x then uOf (uN x-uN y)else(0,0,0,0)
def subB(x y:W4):Bool:=decide (uN y<=uN x)
theorem zau{x y:W4}(hx:x.Ok)(hy:y.Ok):(if z3l x y=0 then z3s x y else(0,0,0,0))=subW x y/\(z3l x y==0)=subB x y:=by
 unfold subW subB
 by_cases h:uN y<=uN x
 ·rw[if_pos h,decide_eq_true h,if_pos ((z3f hx hy).2 h),zl9 hx hy h,(z3f hx hy).2 h];exact⟨rfl,rfl⟩
 ·have hn:¬ z3l x y=0:=fun e=>h ((z3f hx hy).1 e)
  rw[if_neg h,decide_eq_false h,if_neg hn,beq_eq_false_iff_ne.2 hn];exact⟨rfl,rfl⟩
theorem zjd(x y:W4):(subW x y).Ok:=by
 unfold subW;split
 ·exact z1y _
 ·exact zjr
theorem znl(x y:W4)(hx:x.Ok)(hy:y.Ok)(w:World):Calls Tryz.prog 71 #[uV x,uV y] w fun e w'=>e= .returned (.tuple #[uV (subW x y),.bool (subB x y)])/\Below w.heap.size w w':=by
 have:=z9v x y hx hy w;rw[(zau hx hy).1,(zau hx hy).2]at this;exact this
def sumW(x y:W4):W4:=toW (uN x+uN y)
def sumB(x y:W4):Bool:=toB (uN x+uN y)
theorem zhp(n:Nat):(toW n).Ok:=by
 unfold toW;split
 ·exact z1y _
 ·exact zjr
theorem zqy(x y:W4)(hx:x.Ok)(hy:y.Ok)(w:World):Calls Tryz.prog 79 #[uV x,uV y] w fun e w'=>e= .returned (.tuple #[uV (sumW x y),.bool (sumB x y)])/\Below w.heap.size w w':=by
 have:=zkp x y hx hy w;have e:(if z8j x y=0 then zcf x y else(0,0,0,0))=sumW x y/\(z8j x y==0)=sumB x y:=by
  unfold sumW sumB toW toB W256
  by_cases h:z8j x y=0
  ·have h2:=zbx.1 h;rw[if_pos h,if_pos h2,decide_eq_true h2,zl4,h];exact⟨rfl,rfl⟩
  ·have h2:=fun e=>h (zbx.2 e)
   rw[if_neg h,if_neg h2,decide_eq_false h2,beq_eq_false_iff_ne.2 h];exact⟨rfl,rfl⟩
 rw[e.1,e.2]at this;exact this
theorem zb7(x:W4)(hx:x.Ok):(digs (uN x)).length<=8:=z3a (by
 have:=z2i hx
 have e:BP 8=115792089237316195423570985008687907853269984665640564039457584007913129639936:=by decide
 omega)
theorem zl7(w:World)(v:Value)(n:Nat)(hs:(digs n).length<1000000)(h:DgAt w v (digs n)):Calls Tryz.prog 76 #[v] w fun e w'=>e= .returned (.tuple #[uV (toW n),.bool (toB n)])/\Below w.heap.size w w':=by
 have HT:Hid (Calls Tryz.prog 110 #[v] (w.alloc (.cells (uL (0,0,0,0)) 24)) fun e w'=>e= .returned (.tuple #[uV (toW n),.bool (toB n)])/\Below w.heap.size w w'/\w'.heap[w.heap.size]?=some (.cells (uL (0,0,0,0)) 24 (0,0))):=by
  have:=zja (w.alloc (.cells (uL (0,0,0,0)) 24)) v (digs n) (z1h n) hs (h.below (z00 zb _));rw[z0j]at this;exact this.mono fun e w' ⟨he,hb⟩=>⟨he,newRow _ hb⟩
 clear h hs;generalize toW n=r at *
 generalize toB n=b at *
 go_enter Tryz.func76,Tryz.ntmps76;go_wp2_with fail;refine zm HT.out ?_;rintro e w1 ⟨rfl,hb,hrow⟩;obtain⟨_,_,_,_,r0,r1,r2,r3⟩:=row4 hrow;have HR:=zh hrow;have HB:=zh hb;clear hb hrow HT;go_wp2_with fail;refine bodyPost_ret (z03 rfl _ _ w.heap.size 24 (uL r) (0,0) _ rfl (put4 HR.out r) Tryz.underlying24 rfl (by kernel_rfl)) rfl ?_;exact⟨rfl,z0f HB.out (by omega) _ _ _ _⟩
abbrev m3(w:World)(x y:W4):World:=((w.alloc (.cells (uL x) 24)).alloc (.cells (uL y) 24)).alloc (.cells #[.int .u64 0,.int .u64 0,.int .u64 0,.int .u64 0] 24)
theorem MAt.cel{w wr:World}{x y:W4}(h:MAt w x y wr):Cel4 w.heap.size x wr/\Cel4 (w.heap.size+1) y wr:=⟨z1t h.x,z1t h.y⟩
theorem zgm{w W:World}{x y:W4}(z:W4)(hz:z.Ok)(h:MAt w x y W):Calls Tryz.prog 57 #[uV z] W fun e w'=>(∃ u,e= .returned u/\DgAt w' u (digs (uN z)))/\Below W.heap.size W w'/\MAt w x y w'/\Cel4 w.heap.size x w'/\Cel4 (w.heap.size+1) y w':=
 (zib z hz W).mono fun _ _ ⟨⟨u,he,hD⟩,hb⟩=>⟨⟨u,he,hD.dg⟩,hb,h.below hb,(h.below hb).cel⟩
theorem za5(x y:W4)(hx:x.Ok)(hy:y.Ok)(w:World):Calls Tryz.prog 22 #[uV x,uV y] w fun e w'=>e= .returned (.tuple #[uV (subW x y),.bool (subB x y)])/\Below w.heap.size w w':=by
 have H0:Hid (MAt w x y (m3 w x y).drew):=(MAt.start w x y).below (z0h zb);have hm:=MAt.start w x y;obtain⟨p0,p1,p2,p3,_⟩:=row4 hm.x;obtain⟨q0,q1,q2,q3,_⟩:=row4 hm.y;have HX:Hid (∀ W,MAt w x y W->_):=fun W h=>zgm x hx h
 have HY:Hid (∀ W,MAt w x y W->_):=fun W h=>zgm y hy h
 have hlx:=zb7 x hx;have hly:=zb7 y hy;clear hm
 by_cases hlt:uN x<uN y
 ·have HM:Hid (∀ W u v,MAt w x y W->DgAt W u (digs (uN x))->DgAt W v (digs (uN y))->Calls Tryz.prog 78 #[u,v] W fun e w'=>(∃ u,e= .returned (.tuple #[u,.bool false]))/\MAt w x y w'/\Cel4 w.heap.size x w'/\Cel4 (w.heap.size+1) y w'):=fun W u v h hu hv=>(zpq W u v _ _ (z1h _) (z1h _) (by omega) (by omega) hu hv (by rw[z0j,z0j];exact hlt)).mono fun e w' ⟨⟨u,he,_⟩,hb⟩=>⟨⟨u,he⟩,h.below hb,(h.below hb).cel⟩
  have e1:subW x y=(0,0,0,0):=if_neg (by omega);have e2:subB x y=false:=decide_eq_false (by omega);rw[e1,e2];clear hlt hlx hly e1 e2;go_enter Tryz.func22,Tryz.ntmps22;go_wp2_with fail
  go_region_held3 (fun w'=>w'.cell? ⟨w.heap.size,0,none⟩=some (.int .u64 x.1)/\w'.cell? ⟨w.heap.size,1,none⟩=some (.int .u64 x.2.1)/\w'.cell? ⟨w.heap.size,2,none⟩=some (.int .u64 x.2.2.1)/\w'.cell? ⟨w.heap.size,3,none⟩=some (.int .u64 x.2.2.2)/\w'.cell? ⟨w.heap.size+1,0,none⟩=some (.int .u64 y.1)/\w'.cell? ⟨w.heap.size+1,1,none⟩=some (.int .u64 y.2.1)/\w'.cell? ⟨w.heap.size+1,2,none⟩=some (.int .u64 y.2.2.1)/\w'.cell? ⟨w.heap.size+1,3,none⟩=some (.int .u64 y.2.2.2)) (first | assumption | go_keep)
   (first
    | (go_at_call 57;(with_reducible refine zm (HX.out _ H0.out) ?_);rintro e w2 ⟨⟨u2,rfl,hd2⟩,hb2,hM2,⟨a0,a1,a2,a3⟩,b0,b1,b2,b3⟩)
    | (go_at_call 57;(with_reducible refine zm (HY.out _ hM2) ?_);rintro e w3 ⟨⟨u3,rfl,hd3⟩,hb3,hM3,⟨c0,c1,c2,c3⟩,d0,d1,d2,d3⟩)
    | (go_at_call 78;(with_reducible refine zm (HM.out _ _ _ hM3 (hd2.below hb3) hd3) ?_);rintro e w4 ⟨⟨u4,rfl⟩,hM4,⟨e0,e1,e2,e3⟩,f0,f1,f2,f3⟩))
  all_goals
   have HM4:=zh hM4;clear hM2 hM3 hb2 hb3 hd2 hd3 a0 a1 a2 a3 b0 b1 b2 b3 c0 c1 c2 c3 d0 d1 d2 d3 p0 p1 p2 p3 q0 q1 q2 q3 hM4 e0 e1 e2 e3 f0 f1 f2 f3;obtain⟨_,_,_,_,r0,r1,r2,r3⟩:=row4 HM4.out.r;go_wp2_with fail;refine bodyPost_ret (z03 rfl _ _ (w.heap.size+2) 24 (uL (0,0,0,0)) (0,0) _ rfl (put4 HM4.out.r (0,0,0,0)) Tryz.underlying24 rfl (by kernel_rfl)) rfl ?_;exact⟨rfl,z0f HM4.out.b (by omega) _ _ _ _⟩
 ·have HM:Hid (∀ W u v,MAt w x y W->DgAt W u (digs (uN x))->DgAt W v (digs (uN y))->Calls Tryz.prog 78 #[u,v] W fun e w'=>(∃ u,e= .returned (.tuple #[u,.bool true])/\DgAt w' u (digs (uN x-uN y)))/\MAt w x y w'/\Cel4 w.heap.size x w'/\Cel4 (w.heap.size+1) y w'):=fun W u v h hu hv=>by
   have:=zht W u v _ _ (z1h _) (z1h _) (by omega) (by omega) hu hv (by rw[z0j,z0j];omega);rw[z0j,z0j]at this;exact this.mono fun e w' ⟨⟨u,he,hD⟩,hb⟩=>⟨⟨u,he,hD.dg⟩,h.below hb,(h.below hb).cel⟩
  have hld:(digs (uN x-uN y)).length<1000000:=by
   have:(digs (uN x-uN y)).length<=8:=z3a (by
    have h1:=z2i hx;have e:BP 8=115792089237316195423570985008687907853269984665640564039457584007913129639936:=by decide
    omega)
   omega
  have HTo:Hid (∀ W u,MAt w x y W->DgAt W u (digs (uN x-uN y))->Calls Tryz.prog 76 #[u] W fun e w'=>e= .returned (.tuple #[uV (toW (uN x-uN y)),.bool (toB (uN x-uN y))])/\MAt w x y w'):=fun W u h hu=>(zl7 W u _ hld hu).mono fun e w' ⟨he,hb⟩=>⟨he,h.below hb⟩
  have h256:uN x-uN y<W256:=by have:=z2i hx;unfold W256;omega
  have e1:subW x y=toW (uN x-uN y):=by unfold subW toW;rw[if_pos (by omega),if_pos h256]
  have e2:subB x y=toB (uN x-uN y):=by unfold subB toB;rw[decide_eq_true h256];exact decide_eq_true (by omega)
  rw[e1,e2];clear hlt hlx hly e1 e2 h256 hld;generalize toW (uN x-uN y)=rw4 at *
  generalize toB (uN x-uN y)=rb at *
  go_enter Tryz.func22,Tryz.ntmps22;go_wp2_with fail
  go_region_held3 (fun w'=>w'.cell? ⟨w.heap.size,0,none⟩=some (.int .u64 x.1)/\w'.cell? ⟨w.heap.size,1,none⟩=some (.int .u64 x.2.1)/\w'.cell? ⟨w.heap.size,2,none⟩=some (.int .u64 x.2.2.1)/\w'.cell? ⟨w.heap.size,3,none⟩=some (.int .u64 x.2.2.2)/\w'.cell? ⟨w.heap.size+1,0,none⟩=some (.int .u64 y.1)/\w'.cell? ⟨w.heap.size+1,1,none⟩=some (.int .u64 y.2.1)/\w'.cell? ⟨w.heap.size+1,2,none⟩=some (.int .u64 y.2.2.1)/\w'.cell? ⟨w.heap.size+1,3,none⟩=some (.int .u64 y.2.2.2)) (first | assumption | go_keep)
   (first
    | (go_at_call 57;(with_reducible refine zm (HX.out _ H0.out) ?_);rintro e w2 ⟨⟨u2,rfl,hd2⟩,hb2,hM2,⟨a0,a1,a2,a3⟩,b0,b1,b2,b3⟩)
    | (go_at_call 57;(with_reducible refine zm (HY.out _ hM2) ?_);rintro e w3 ⟨⟨u3,rfl,hd3⟩,hb3,hM3,⟨c0,c1,c2,c3⟩,d0,d1,d2,d3⟩)
    | (go_at_call 78;(with_reducible refine zm (HM.out _ _ _ hM3 (hd2.below hb3) hd3) ?_);rintro e w4 ⟨⟨u4,rfl,hd4⟩,hM4,⟨e0,e1,e2,e3⟩,f0,f1,f2,f3⟩))
  all_goals
   have HT4:=zh (HTo.out _ _ hM4 hd4);clear hM2 hM3 hb2 hb3 hd2 hd3 a0 a1 a2 a3 b0 b1 b2 b3 c0 c1 c2 c3 d0 d1 d2 d3 p0 p1 p2 p3 q0 q1 q2 q3 hM4 hd4 e0 e1 e2 e3 f0 f1 f2 f3;go_wp2_with fail;refine zm HT4.out ?_;rintro e w5 ⟨rfl,hM5⟩;have HM5:=zh hM5;obtain⟨_,_,_,_,r0,r1,r2,r3⟩:=row4 hM5.r;clear hM5 HT4;go_wp2_with fail;refine bodyPost_ret (z03 rfl _ _ (w.heap.size+2) 24 (uL rw4) (0,0) _ rfl (put4 HM5.out.r rw4) Tryz.underlying24 rfl (by kernel_rfl)) rfl ?_;exact⟨rfl,z0f HM5.out.b (by omega) _ _ _ _⟩
structure TAt2 (w:World) (x y:W4) (wr:World):Prop where
 b:Below w.heap.size w wr
 hx:wr.heap[w.heap.size]?=some (.cells (uL x) 24 (0,0))
 hy:wr.heap[w.heap.size+1]?=some (.cells (uL y) 24 (0,0))
theorem TAt2.start(w:World)(x y:W4):TAt2 w x y ((w.alloc (.cells (uL x) 24)).alloc (.cells (uL y) 24)):=by
 refine⟨z00 (z00 zb _) _,?_,?_⟩
 ·rw[heap_alloc_old _ _ (by simp)];exact heap_alloc_new w _
 ·have:=heap_alloc_new (w.alloc (.cells (uL x) 24)) (.cells (uL y) 24)
  rwa [World.size_alloc]at this
theorem TAt2.below{w wr w':World}{x y:W4}(h:TAt2 w x y wr)(hb:Below wr.heap.size wr w'):TAt2 w x y w':=
 ⟨z0b h.b hb,(hb.block _ (z02 h.hx)).trans h.hx,(hb.block _ (z02 h.hy)).trans h.hy⟩
theorem zk0{w W:World}{x y:W4}(z:W4)(hz:z.Ok)(h:TAt2 w x y W):Calls Tryz.prog 57 #[uV z] W fun e w'=>(∃ u,e= .returned u/\DgAt w' u (digs (uN z)))/\Below W.heap.size W w'/\TAt2 w x y w'/\Cel4 w.heap.size x w'/\Cel4 (w.heap.size+1) y w':=
 (zib z hz W).mono fun _ _ ⟨⟨u,he,hD⟩,hb⟩=>⟨⟨u,he,hD.dg⟩,hb,h.below hb,z1t (h.below hb).hx,z1t (h.below hb).hy⟩
theorem zuo(x y:W4)(hx:x.Ok)(hy:y.Ok)(w:World):Calls Tryz.prog 10 #[uV x,uV y] w fun e w'=>e= .returned (.int .i64 (uCmp x y))/\Below w.heap.size w w':=by
 have H0:Hid (TAt2 w x y ((w.alloc (.cells (uL x) 24)).alloc (.cells (uL y) 24)).drew):=(TAt2.start w x y).below (z0h zb);have hm:=TAt2.start w x y;obtain⟨p0,p1,p2,p3,_⟩:=row4 hm.hx;obtain⟨q0,q1,q2,q3,_⟩:=row4 hm.hy;have HX:Hid (∀ W,TAt2 w x y W->_):=fun W h=>zk0 x hx h
 have HY:Hid (∀ W,TAt2 w x y W->_):=fun W h=>zk0 y hy h
 have hlx:=zb7 x hx;have hly:=zb7 y hy;have HM:Hid (∀ W u v,TAt2 w x y W->DgAt W u (digs (uN x))->DgAt W v (digs (uN y))->Calls Tryz.prog 56 #[u,v] W fun e w'=>e= .returned (.int .i64 (uCmp x y))/\TAt2 w x y w'/\Cel4 w.heap.size x w'/\Cel4 (w.heap.size+1) y w'):=fun W u v h hu hv=>by
  have:=zbh W u v _ _ (z1h _) (z1h _) (by omega) (by omega) hu hv;rw[z0j,z0j]at this;exact this.mono fun e w' ⟨he,hb⟩=>⟨he,h.below hb,z1t (h.below hb).hx,z1t (h.below hb).hy⟩
 clear hm hlx hly;generalize uCmp x y=r at *
 go_enter Tryz.func10,Tryz.ntmps10;go_wp2_with fail
 go_region_held3 (fun w'=>w'.cell? ⟨w.heap.size,0,none⟩=some (.int .u64 x.1)/\w'.cell? ⟨w.heap.size,1,none⟩=some (.int .u64 x.2.1)/\w'.cell? ⟨w.heap.size,2,none⟩=some (.int .u64 x.2.2.1)/\w'.cell? ⟨w.heap.size,3,none⟩=some (.int .u64 x.2.2.2)/\w'.cell? ⟨w.heap.size+1,0,none⟩=some (.int .u64 y.1)/\w'.cell? ⟨w.heap.size+1,1,none⟩=some (.int .u64 y.2.1)/\w'.cell? ⟨w.heap.size+1,2,none⟩=some (.int .u64 y.2.2.1)/\w'.cell? ⟨w.heap.size+1,3,none⟩=some (.int .u64 y.2.2.2)) (first | assumption | go_keep)
  (first
   | (go_at_call 57;(with_reducible refine zm (HX.out _ H0.out) ?_);rintro e w2 ⟨⟨u2,rfl,hd2⟩,hb2,hM2,⟨a0,a1,a2,a3⟩,b0,b1,b2,b3⟩)
   | (go_at_call 57;(with_reducible refine zm (HY.out _ hM2) ?_);rintro e w3 ⟨⟨u3,rfl,hd3⟩,hb3,hM3,⟨c0,c1,c2,c3⟩,d0,d1,d2,d3⟩)
   | (go_at_call 56;(with_reducible refine zm (HM.out _ _ _ hM3 (hd2.below hb3) hd3) ?_);rintro e w4 ⟨rfl,hM4,⟨e0,e1,e2,e3⟩,f0,f1,f2,f3⟩))
 all_goals
  have HM4:=zh hM4.b;clear hM2 hM3 hM4 hb2 hb3 hd2 hd3 a0 a1 a2 a3 b0 b1 b2 b3 c0 c1 c2 c3 d0 d1 d2 d3 e0 e1 e2 e3 f0 f1 f2 f3 p0 p1 p2 p3 q0 q1 q2 q3;go_wp2_with fail;go_ret;exact⟨rfl,HM4.out⟩
end Go.Proofs.YtnkilceibkkjlaaGreat
