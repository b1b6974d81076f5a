/- What is proved here: the reference's withdrawals: All, Open. Conditions: sizes. exits: what the state -/
import Derived.Test.YtnkilceibkkjlaaGreatGRExD
import Derived.Test.YtnkilceibkkjlaaGreatGExIdW
import Derived.Test.YtnkilceibkkjlaaGreatGExA
import Derived.Test.YtnkilceibkkjlaaGreatGRowW
import Derived.Test.YtnkilceibkkjlaaGreatGRExAd
import Derived.Test.YtnkilceibkkjlaaGreatGExAd
import Derived.Test.YtnkilceibkkjlaaGreatGExC
import Derived.Test.YtnkilceibkkjlaaGreatGHistW
set_option maxRecDepth 100000
set_option maxHeartbeats 16000000
namespace Go.Proofs.YtnkilceibkkjlaaGreat
open Go.RowKit Go.Maps
theorem zoz(w:World)(b:Nat)(L:List Nat)(s:St)(f:Nat)(h:RRep w b s L)(hf:s.Fit f)(hm:f<10000000000)(hkey:∀ x∈s.ents,x.1.size<1000000000000) :
  Calls Tryz.prog 55 #[.pointer (some ⟨b,0,none⟩)] w fun e W'=>∃ v,e= .returned v/\Own W' 3 1 v (s.ids pAll).length ((s.ids pAll).map fun x=>Value.int .i64 x)/\Below w.heap.size w W':=by
 have hlen:s.ents.length<1000000000000:=by have:=hf.size;unfold St.size at this;omega
 rw[show s.ids pAll=(z0o (keyL 15 []) s.ents).filterMap (idOf s pAll)from rfl]
 have hido:∀ x:Ent,idOf s pAll x=match z8l x.1 with
   | some nn=>some (nn:Int)
   | none=>none:=fun x=>by unfold idOf pAll;cases z8l x.1<;>rfl
 have hb0:=Below.refl w.heap.size w;have HK:Hid (Calls Tryz.prog 95 #[.int .i64 15,.slice none 0 0] w fun e w2=>e= .returned (.string (keyL 15 []))/\Below w.heap.size w w2):=zi2 15 (by decide) (by decide) w;have HU:Hid (∀ w1,Below w.heap.size w w1->Calls Tryz.prog 94 #[.pointer (some ⟨b,0,none⟩),.string (keyL 15 [])] w1 fun e w2=>∃ ad c,e= .returned (.slice ad (z0o (keyL 15 []) s.ents).length c)/\z5n w2 ad (z0o (keyL 15 []) s.ents)/\Below w.heap.size w w2):=fun w1 h1 =>
  (zmg w1 b s L (keyL 15 []) (h.below h1) hlen).mono fun e w2 ⟨v,he,hO⟩=>by
   obtain⟨ad,c,rfl,hp⟩:=hO.1.pairs;exact⟨ad,c,he,hp,h1.trans (hO.2.2.mono h1.size)⟩
 have HL:Hid ((z0o (keyL 15 []) s.ents).length<1000000000000):=Nat.lt_of_le_of_lt (z3i _ _) hlen;have HKS:Hid (∀ (i:Nat) (x:Ent),(z0o (keyL 15 []) s.ents)[i]?=some x->x.1.size<1000000000000):=fun i x hx=>hkey x (by have h:=List.mem_of_getElem? hx;unfold z0o at h;exact(List.mem_filter.1 h).1)
 generalize z0o (keyL 15 []) s.ents=us at *
 generalize idOf s pAll=idf at *
 have HID:=zh hido;clear h hlen hkey hf hido;generalize keyL 15 []=kt at *
 go_enter Tryz.func55,Tryz.ntmps55;go_wp2_with fail;refine zm HK.out ?_;rintro e w1 ⟨rfl,hb1⟩;go_wp2_with fail;refine zm (HU.out w1 hb1) ?_;rintro e w2 ⟨ad,c,rfl,hp,hb2⟩;have HP:=zh hp;have HG:Hid (∀ k,k<us.length->∃ x,us[k]?=some x):=fun k hk=>⟨_,List.getElem?_eq_getElem hk⟩
 have HFL:Hid (∀ k,(((us.take k).filterMap idf).length<=k)):=fun k=>by
  refine Nat.le_trans (zfk _ _) ?_;rw[List.length_take];exact Nat.min_le_left _ _
 have H0:Hid (z2d w2 ((us.take 0).filterMap idf) (.slice none 0 0) w2):=⟨Own.nil _ _ _,fun g hg=>by simp[Value.ownBlock]at hg,Below.refl _ _⟩;have HEE:Hid (∀ v wr,z2d w2 (us.filterMap idf) v wr->∃ v',Ending.returned v= .returned v'/\Own wr 3 1 v' (us.filterMap idf).length ((us.filterMap idf).map fun x=>Value.int .i64 x)/\Below w.heap.size w wr):=fun v wr hO=>⟨v,rfl,hO.1,hb2.trans (hO.2.2.mono hb2.size)⟩
 clear hp hb1 hb0 HU HK hb2;go_wp2_with fail
 go_loopw [3,13] (fun v iv wr=>∃ k:Nat,iv= .int .i64 k/\k<=us.length/\z2d w2 ((us.take k).filterMap idf) v wr) (fun _ iv _=>us.length-(intOf iv).toNat)
 case atStart=>exact⟨0,rfl,by omega,H0.out⟩
 case round =>
  obtain⟨k,rfl,hk,hR⟩:=hrel;have HR:=zh hR;clear hR H0;have hL:=HL.out
  by_cases hlt:k<us.length
  ·obtain⟨x,hx⟩:=HG.out k hlt;obtain⟨g,rfl,q1,q2⟩:=HP.out.at0 k x hx;have c1:wr.cell? ⟨g,k*2,none⟩=some (.string x.1):=by rw[HR.out.2.2.cell (p:=⟨g,k*2,none⟩) (World.block_lt_of_cell? w2 _ q1)];exact q1
   have c2:wr.cell? ⟨g,k*2+1,none⟩=some (.string x.2):=by rw[HR.out.2.2.cell (p:=⟨g,k*2+1,none⟩) (World.block_lt_of_cell? w2 _ q2)];exact q2
   have hba:Below wr.heap.size wr (wr.alloc (.cells #[.string x.1,.string x.2] 156)):=(Below.refl _ wr).alloc (Nat.le_refl _) _;have hPA:=zmt x.1 (HKS.out k x hx) (wr.alloc (.cells #[.string x.1,.string x.2] 156));have hst:=z5y idf us k x hx;have hfl:=HFL.out k;clear q1 q2;cases hn:z8l x.1 with
   | none =>
    have hid0:=HID.out x;rw[hn]at hid0;rw[hid0]at hst;simp only[Option.toList_none,List.append_nil]at hst;have HPA:Hid (Calls Tryz.prog 96 #[.string x.1] (wr.alloc (.cells #[.string x.1,.string x.2] 156)) fun e w3=>(∃ (t:Int) (a:Option Addr) (m c:Nat) (ok:Bool),e= .returned (.tuple #[.int .i64 t,.slice a m c,.bool ok])/\((m:Int)==1)=false)/\z2d w2 ((us.take (k+1)).filterMap idf) u3 w3):=
     hPA.mono fun e w3 hr=>⟨zas hr hn,by rw[hst];exact HR.out.below (hba.trans (hr.1.mono (by simp)))⟩
    clear hPA hst hn hx HR hba hid0;go_wp2_with fail;refine zm HPA.out ?_;rintro e w3 ⟨⟨t,a3,m3,c3,ok,rfl,hm3⟩,hR3⟩;have HR3:=zh hR3;clear hR3 HPA;go_wp2_with fail;go_roundw
    case rel=>exact⟨k+1,by go_num,by omega,HR3.out⟩
    case measure=>simp[intOf];omega
   | some y =>
    have hid0:=HID.out x;rw[hn]at hid0;rw[show idf x=some ((y:Nat):Int)from hid0]at hst
    simp only[Option.toList_some]at hst;have HPA:Hid (Calls Tryz.prog 96 #[.string x.1] (wr.alloc (.cells #[.string x.1,.string x.2] 156)) fun e w3=>(∃ (t:Int) (g c:Nat),e= .returned (.tuple #[.int .i64 t,.slice (some ⟨g,0,none⟩) 1 c,.bool true])/\w3.cell? ⟨g,0,none⟩=some (.int .i64 y)/\z2d w2 ((us.take k).filterMap idf) u3 w3)):=by
     refine hPA.mono fun e w3 hr => ?_
     obtain⟨t,g,c,he,hc⟩:=zf2 hr hn;exact⟨t,g,c,he,hc _ zb,HR.out.below (hba.trans (hr.1.mono (by simp)))⟩
    have hform:=HR.out.form;clear hPA hn hx HR hba hid0;generalize ((y:Nat):Int)=z at *
    generalize (us.take k).filterMap idf=fs at *
    obtain⟨m,hm⟩:∃ m,fs.length=m:=⟨_,rfl⟩;have HM:=zh hm;rw[hm]at hform hfl;clear hm;obtain⟨av,cv,hv⟩:=hform;subst hv;have h33:((1:Nat):Int)=1:=rfl;have HST2:Hid ((us.take (k+1)).filterMap idf=fs ++ [z]):=hst;clear hst;go_wp2_with fail;refine zm HPA.out ?_;rintro e w3 ⟨t,g3,c3,rfl,hg3,hR3⟩;have HR3:=zh hR3;have HPUSH:Hid (∀ o1 v' w',z0t (w3.alloc o1) 3 1 (.slice av m cv) m 1 (fs.map fun n=>Value.int .i64 n) [.int .i64 z] v' w'->z2d w2 ((us.take (k+1)).filterMap idf) v' w'):=fun o1 v' w' hA=>by
     rw[HST2.out];exact HR3.out.push (by rw[HM.out];exact hA)
    have HOO:Hid (∀ o1,Own (w3.alloc o1) 3 1 (.slice av m cv) m (fs.map fun n=>Value.int .i64 n)):=fun o1=>by
     have:=(HR3.out.below ((Below.refl _ w3).alloc (Nat.le_refl _) o1)).1;rw[HM.out]at this;exact this
    clear hR3 HST2 HR3 HM HPA;generalize (fs.map fun n=>Value.int .i64 n)=xs at *
    go_wp2_with (at_builtin;refine z07 rfl _ _ 75 75 rfl intT intT _ m xs rfl (HOO.out _) _ 1 _ [.int .i64 z] rfl rfl (z1d _ _ _) (by intro u hu;rw[List.mem_singleton.1 hu];rfl) (by unfold maxLen;omega) (by omega) ?_);intro v' w' hA;have HR2:=zh (HPUSH.out _ _ _ hA);clear hA;go_wp2_with fail;go_roundw
    case rel=>exact⟨k+1,by go_num,by omega,HR2.out⟩
    case measure=>simp[intOf];omega
  ·obtain rfl:k=us.length:=by omega
   have HE2:=HR.out;rw[List.take_length]at HE2;have HE3:=zh (HEE.out _ _ HE2);clear HE2;go_wp2_with fail;go_ret;exact HE3.out
def St.zgp(s:St)(n:Int):List Int:=(s.ids pAll).filter fun id=>(s.ex id).st==n
theorem zi9{α:Type}(f:α->Bool)(l:List α)(i:Nat)(x:α)(h:l[i]?=some x):(l.take (i+1)).filter f=(l.take i).filter f++(if f x then [x]else []):=by
 rw[z1u l i x h,List.filter_append];cases hf:f x<;>simp[hf]
theorem ztl(w:World)(b:Nat)(L:List Nat)(s:St)(f:Nat)(n:Int)(h:RRep w b s L)(hf:s.Fit f)(hm:f<10000000000)(hkey:∀ x∈s.ents,x.1.size<1000000000000) :
  Calls Tryz.prog 52 #[.pointer (some ⟨b,0,none⟩),.int .i64 n] w fun e W'=>∃ v,e= .returned v/\Own W' 3 1 v (s.zgp n).length ((s.zgp n).map fun x=>Value.int .i64 x)/\Below w.heap.size w W':=by
 have hlen:s.ents.length<1000000000000:=by have:=hf.size;unfold St.size at this;omega
 have hil:(s.ids pAll).length<1000000000000:=Nat.lt_of_le_of_lt (List.length_filterMap_le _ _) (Nat.lt_of_le_of_lt (z3i _ _) hlen);have hi63:=(zg3 hf.srt pAll).2;have HA:Hid (Calls Tryz.prog 55 #[.pointer (some ⟨b,0,none⟩)] w fun e w2=>∃ ad c,e= .returned (.slice ad (s.ids pAll).length c)/\z8t w2 ad (s.ids pAll)/\Below w.heap.size w w2):=(zoz w b L s f h hf hm hkey).mono fun e w2 ⟨v,he,ho,hb⟩=>by
  obtain⟨a,c,rfl,hl⟩:=ho.nums;exact⟨a,c,he,hl,hb⟩
 have HGT:Hid (∀ (k:Nat) id W,(s.ids pAll)[k]?=some id->Below w.heap.size w W->Calls Tryz.prog 53 #[.pointer (some ⟨b,0,none⟩),.int .i64 id] W fun e w'=>∃ x:Ex,x=s.ex id/\e= .returned (.tuple #[.agg x.L,.bool (s.exIs id)])/\Below W.heap.size W w'):=fun k id W hk hW=>(zj7 W b s L f id (by have:=hi63 id (List.mem_of_getElem? hk);unfold I63;omega) (h.below hW) hf (by omega)).mono fun e w' ⟨he,hb⟩=>⟨_,rfl,he,hb⟩
 have HFS:Hid (∀ (k:Nat) id,(s.ids pAll)[k]?=some id->((s.ids pAll).take (k+1)).filter (fun id=>(s.ex id).st==n)=((s.ids pAll).take k).filter (fun id=>(s.ex id).st==n)++(if (s.ex id).st==n then [id]else [])):=fun k id hk=>zi9 _ _ k id hk
 unfold St.zgp;clear h hf hkey hlen hi63 hm;generalize (fun id=>(s.ex id).st==n)=pf at *
 generalize s.ids pAll=il at *
 go_enter Tryz.func52,Tryz.ntmps52;go_wp2_with fail;refine zm HA.out ?_;rintro e w2 ⟨ad,c,rfl,hp,hb2⟩;have HP:=zh hp;have HG:Hid (∀ k,k<il.length->∃ x,il[k]?=some x):=fun k hk=>⟨_,List.getElem?_eq_getElem hk⟩
 have HFL:Hid (∀ k,(((il.take k).filter pf).length<=k)):=fun k=>by
  refine Nat.le_trans (List.length_filter_le _ _) ?_;rw[List.length_take];exact Nat.min_le_left _ _
 have H0:Hid (z2d w2 ((il.take 0).filter pf) (.slice none 0 0) w2):=⟨Own.nil _ _ _,fun g hg=>by simp[Value.ownBlock]at hg,Below.refl _ _⟩;have HEE:Hid (∀ v wr,z2d w2 (il.filter pf) v wr->∃ v',Ending.returned v= .returned v'/\Own wr 3 1 v' (il.filter pf).length ((il.filter pf).map fun x=>Value.int .i64 x)/\Below w.heap.size w wr):=fun v wr hO=>⟨v,rfl,hO.1,hb2.trans (hO.2.2.mono hb2.size)⟩
 have HBW:Hid (∀ f v wr,z2d w2 f v wr->Below w.heap.size w wr):=fun f v wr hO=>hb2.trans (hO.2.2.mono hb2.size)
 have HL:=zh hil;clear hp hb2 HA hil;go_wp2_with fail
 go_loopw [5,13] (fun v iv wr=>∃ k:Nat,iv= .int .i64 k/\k<=il.length/\z2d w2 ((il.take k).filter pf) v wr) (fun _ iv _=>il.length-(intOf iv).toNat)
 case atStart=>exact⟨0,rfl,by omega,H0.out⟩
 case round =>
  obtain⟨k,rfl,hk,hR⟩:=hrel;have HR:=zh hR;clear hR H0;have hL:=HL.out
  by_cases hlt:k<il.length
  ·obtain⟨id,hx⟩:=HG.out k hlt;obtain⟨g,rfl,q1⟩:=HP.out.at0 k id hx;have c1:wr.cell? ⟨g,k,none⟩=some (.int .i64 id):=by rw[HR.out.2.2.cell (p:=⟨g,k,none⟩) (World.block_lt_of_cell? w2 _ q1)];exact q1
   have HG0:=zh (HGT.out k id wr hx (HBW.out _ _ _ HR.out));have hst:=HFS.out k id hx;have hfl:=HFL.out k;clear q1 hx HGT HFS HFL HBW;go_wp2_with fail;refine zm HG0.out ?_;rintro e w3 ⟨x,hxe,rfl,hb3⟩;rw[<- hxe]at hst;have hba:=z0a hb3 (z04 (Below.refl _ w3) (rexO x));have HR4:=zh (HR.out.below hba);have hrow:(w3.alloc (rexO x)).heap[w3.heap.size]?=some (rexO x):=heap_alloc_new w3 _;have HROW:=zh hrow;clear HG0 hxe hb3 hba HR hrow c1;obtain⟨xs,xo,xt,xb,W,M⟩:=x;dsimp only[rexO,Ex.L]at HR4 HROW hst ⊢;go_upto_region 6 with fail;generalize hw4:w3.alloc (.cells #[.int .i64 xs,.int .i64 xo,.int .i64 xt,.int .i64 xb,.int .u64 W.1,.int .u64 W.2.1,.int .u64 W.2.2.1,.int .u64 W.2.2.2,.int .u64 M.1,.int .u64 M.2.1,.int .u64 M.2.2.1,.int .u64 M.2.2.2] 107)=w4 at *
   generalize w3.heap.size=g4 at *
   clear hw4;obtain⟨⟨k0,k1,k2,k3⟩,_,_⟩:=z3c (x:=⟨xs,xo,xt,xb,W,M⟩) HROW.out;clear HROW
   by_cases hs:xs=n
   ·have hsb:(xs==n)=true:=by rw[beq_iff_eq];exact hs
    rw[if_pos hsb]at hst;have hform:=HR4.out.form;generalize (il.take k).filter pf=fs at *
    obtain⟨m,hm⟩:∃ m,fs.length=m:=⟨_,rfl⟩;have HM:=zh hm;rw[hm]at hform hfl;clear hm hs;obtain⟨av,cv,hv⟩:=hform;subst hv;have HPUSH:Hid (∀ o1 v' w',z0t (w4.alloc o1) 3 1 (.slice av m cv) m 1 (fs.map fun n=>Value.int .i64 n) [.int .i64 id] v' w'->z2d w2 ((il.take (k+1)).filter pf) v' w'):=fun o1 v' w' hA=>by
     rw[hst];exact HR4.out.push (by rw[HM.out];exact hA)
    have HOO:Hid (∀ o1,Own (w4.alloc o1) 3 1 (.slice av m cv) m (fs.map fun n=>Value.int .i64 n)):=fun o1=>by
     have:=(HR4.out.below ((Below.refl _ w4).alloc (Nat.le_refl _) o1)).1;rw[HM.out]at this;exact this
    clear hst HR4 HM;generalize (fs.map fun n=>Value.int .i64 n)=xss at *
    go_wp2_with (at_builtin;refine z07 rfl _ _ 75 75 rfl intT intT _ m xss rfl (HOO.out _) _ 1 _ [.int .i64 id] rfl rfl (z1d _ _ _) (by intro u hu;rw[List.mem_singleton.1 hu];rfl) (by unfold maxLen;omega) (by omega) ?_);intro v' w' hA;have HR2:=zh (HPUSH.out _ _ _ hA);clear hA;go_wp2_with fail;go_roundw
    case rel=>exact⟨k+1,by go_num,by omega,HR2.out⟩
    case measure=>simp[intOf];omega
   ·have hsb:(xs==n)=false:=by rw[beq_eq_false_iff_ne];exact hs
    rw[if_neg (by rw[hsb];decide),List.append_nil]at hst;have HR2:Hid (z2d w2 ((il.take (k+1)).filter pf) u5 w4):=by
     rw[hst];exact HR4.out
    clear hst HR4 hs;go_wp2_with fail;go_roundw
    case rel=>exact⟨k+1,by go_num,by omega,HR2.out⟩
    case measure=>simp[intOf];omega
  ·obtain rfl:k=il.length:=by omega
   have HE2:=HR.out;rw[List.take_length]at HE2;have HE3:=zh (HEE.out _ _ HE2);clear HE2;go_wp2_with fail;go_ret;exact HE3.out
end Go.Proofs.YtnkilceibkkjlaaGreat
namespace Go.Proofs.YtnkilceibkkjlaaGreat
open Go.RowKit
theorem q0a{n m:Nat}(hn:n<=255)(hm:m<=255)(h:n≠m):UInt8.ofNat n≠UInt8.ofNat m:=fun e=>by
 have h1:=congrArg UInt8.toNat e
 rw[UInt8.toNat_ofNat',UInt8.toNat_ofNat']at h1
 omega
theorem zzx{n n':Nat}(hn:n<=255)(hn':n'<=255)(hne:n≠n'){l l':List Int}(hl:∀ x∈l,0<=x)(hl':∀ x∈l',0<=x):keyL n l≠keyL n' l':=fun h=>by
 have h1:=zen (t:=n) (l:=l) (fun x hx=>by have:=hl x hx;omega)
 have h2:=zen (t:=n') (l:=l') (fun x hx=>by have:=hl' x hx;omega)
 rw[h,h2]at h1
 exact q0a hn hn' hne (Option.some.inj h1).symm
theorem z7p:∀ {l:List Int},(∀ x∈l,0<=x)->z5f (l.map Int.toNat)=l
 | [],_=>rfl
 | x::l,h=>by
  have h1:=z7p (l:=l) fun y hy=>h y (by simp[hy])
  have h2:=h x (by simp)
  unfold z5f at h1 ⊢
  simp only[List.map_cons,h1]
  rw[Int.toNat_of_nonneg h2]
theorem zf9{t:Nat}(h1:1<=t)(h2:t<=255){l m:List Int}(hl:∀ x∈l,0<=x/\I63 x)(hm:∀ x∈m,0<=x/\I63 x)(h:keyL t l=keyL t m):l=m:=by
 have e1:=z7p fun x hx=>(hl x hx).1
 have e2:=z7p fun x hx=>(hm x hx).1
 rw[<- e1,<- e2]at h ⊢
 have h3:=(zum h1 h2 h1 h2 (fun x hx=>by
  obtain⟨y,hy,rfl⟩:=List.mem_map.1 hx
  have:=(hl y hy).2;unfold I63 at this;omega) (fun x hx=>by
  obtain⟨y,hy,rfl⟩:=List.mem_map.1 hx
  have:=(hm y hy).2;unfold I63 at this;omega) h).2
 rw[h3]
theorem zxq{t:Nat}(h1:1<=t)(h2:t<=255){l m:List Int}(hl:∀ x∈l,0<=x/\I63 x)(hm:∀ x∈m,0<=x/\I63 x)(h:l≠m):keyL t l≠keyL t m:=fun e=>h (zf9 h1 h2 hl hm e)
theorem zh8(n:Nat){l:List Int}(h:l.length<=3):(keyL n l).size<=25:=by
 unfold keyL;split
 ·exact Nat.zero_le _
 ·show(keyBytes n l).toArray.size<=_
  rw[List.size_toArray,z3k];omega
theorem za2{n:Nat}{l:List Int}(h:¬ ∀ x∈l,0<=x):keyL n l=z0d:=by
 have:∃ x∈l,x<0:=by
  apply Classical.byContradiction;intro h2;exact h fun x hx=>Int.not_lt.1 fun h3=>h2 ⟨x,hx,h3⟩
 obtain⟨x,hx,h3⟩:=this;exact zfn hx h3
structure XB (s:St):Prop where
 srt:Sorted s.ents
 keys:∀ x∈s.ents,x.1.size<=25
 noE:getE s.ents z0d=none
theorem XB.put{s:St}(h:XB s){k:ByteArray}(hk:k.size<=25)(v:ByteArray):XB (s.put k v):=by
 refine⟨z6o h.srt _ _,?_,?_⟩
 ·unfold St.put;split
  ·unfold St.del;split
   ·exact fun y hy=>h.keys y (zff hy)
   ·exact h.keys
  ·split
   ·exact h.keys
   ·unfold St.set;split
    ·exact h.keys
    ·intro y hy;rcases zg6 hy with rfl | hy
     ·exact hk
     ·exact h.keys y hy
 ·rw[z4y h.srt]
  by_cases h1:k=z0d
  ·rw[if_pos h1];split
   ·rfl
   ·exact h.noE
  ·rw[if_neg h1];exact h.noE
theorem XB.empty:XB z2p:=⟨List.Pairwise.nil,(fun x hx=>by cases hx),rfl⟩
theorem znf{s:St}(h:XB s)(v:ByteArray):(s.put z0d v).ents=s.ents:=by
 refine z6j (z6o h.srt _ _) h.srt fun j => ?_
 rw[z4y h.srt]
 by_cases h1:z0d=j
 ·rw[if_pos h1,<- h1];split
  ·exact h.noE.symm
  ·rw[if_pos rfl]
 ·rw[if_neg h1]
def Same(T:List Nat)(s s':St):Prop:=∀ t l,t<=255->t∉T->(∀ y∈l,0<=y)->getE s'.ents (keyL t l)=getE s.ents (keyL t l)
theorem Same.refl(T:List Nat)(s:St):Same T s s:=fun _ _ _ _ _=>rfl
theorem Same.trans{T:List Nat}{s s1 s2:St}(h:Same T s s1)(h2:Same T s1 s2):Same T s s2:=fun t l a b c=>(h2 t l a b c).trans (h t l a b c)
theorem Same.q0m{T:List Nat}{s s':St}(h:s'.ents=s.ents):Same T s s':=fun _ _ _ _ _=>by rw[h]
theorem XB.same{s:St}(h:XB s){n:Nat}(hn:n<=255)(l:List Int)(v:ByteArray):Same [n] s (s.put (keyL n l) v):=by
 by_cases hl:∀ x∈l,0<=x
 ·intro t m ht hT hm;rw[z4y h.srt,if_neg (zzx hn ht (fun e=>hT (by simp[e])) hl hm)]
 ·rw[za2 hl];exact Same.q0m (znf h v)
theorem Same.st{T:List Nat}{h:Hand}{s s':St}(h2:Same T s s'):Same T s (h.st s s'):=by
 unfold Hand.st;split
 ·exact h2
 ·exact Same.refl _ _
theorem Same.val{T:List Nat}{s s':St}(h:Same T s s'){t:Nat}{l:List Int}(ht:t<=255)(hT:t∉T)(hl:∀ y∈l,0<=y):s'.val (keyL t l)=s.val (keyL t l):=by
 unfold St.val;rw[h t l ht hT hl]
theorem Same.int{T:List Nat}{s s':St}(h:Same T s s'){t:Nat}{l:List Int}(ht:t<=255)(hT:t∉T)(hl:∀ y∈l,0<=y):s'.int (keyL t l)=s.int (keyL t l):=by
 unfold St.int;rw[h.val ht hT hl]
theorem nn2{a b:Int}(ha:0<=a)(hb:0<=b):∀ y∈[a,b],0<=y:=fun y hy=>by
 simp only[List.mem_cons,List.not_mem_nil,or_false]at hy
 rcases hy with rfl | rfl<;>assumption
theorem nn1{a:Int}(ha:0<=a):∀ y∈[a],0<=y:=fun y hy=>by rw[List.mem_singleton]at hy;subst hy;exact ha
theorem nn3{a b:Int}(ha:0<=a)(hb:0<=b)(i:Nat):∀ y∈[a,b] ++ [(i:Int)],0<=y:=fun y hy=>by
 rcases List.mem_append.1 hy with h | h
 ·exact nn2 ha hb y h
 ·rw[List.mem_singleton]at h;subst h;omega
theorem Same.hlen{T:List Nat}{s s':St}(h:Same T s s')(hT:16∉T){o t:Int}(ho:0<=o)(ht:0<=t):s'.hlen 16 [o,t]=s.hlen 16 [o,t]:=h.int (by decide) hT (nn2 ho ht)
theorem Same.hpI{T:List Nat}{s s':St}(h:Same T s s')(hT:16∉T){o t:Int}(ho:0<=o)(ht:0<=t)(i:Nat):s'.hpI 16 [o,t] i=s.hpI 16 [o,t] i:=by
 unfold St.hpI;rw[h.val (by decide) hT (nn3 ho ht i)]
structure XG (k:Nat) (s:St):Prop where
 b:XB s
 rows:∀ (id:Int) v,0<=id->I63 id->getE s.ents (keyL 15 [id])=some v->(rowOf v).length=4
 mono:∀ o t:Int,0<=o->0<=t->I63 o->I63 t->∀ i j:Nat,i<=j->j<s.hlen 16 [o,t]->(s.hpI 16 [o,t] i).1<=(s.hpI 16 [o,t] j).1
 hlen:∀ o t:Int,0<=o->0<=t->I63 o->I63 t->s.hlen 16 [o,t]<=k
 cnt:s.int (keyL 14 [])<=k
 op:∀ n:Int,0<=n->I63 n->s.int (keyL 20 [n])<=16
theorem XG.more{k k':Nat}{s:St}(h:XG k s)(hk:k<=k'):XG k' s:=⟨h.b,h.rows,h.mono,fun o t a b c d=>Nat.le_trans (h.hlen o t a b c d) hk,Nat.le_trans h.cnt hk,h.op⟩
theorem XG.empty:XG 0 z2p:=⟨XB.empty,(fun _ _ _ _ h=>by cases h),fun _ _ _ _ _ _ i j _ h=>absurd h (by show ¬ j<0;omega),fun _ _ _ _ _ _=>Nat.le_refl _,Nat.le_refl _,fun _ _ _=>Nat.zero_le _⟩
theorem zjt{s:St}(h:XB s):s.int z0d=0:=by
 unfold St.int St.val;rw[h.noE];exact zb3
theorem XG.op'{k:Nat}{s:St}(h:XG k s){n:Int}(hn:I63 n):s.int (keyL 20 [n])<=16:=by
 by_cases h0:0<=n
 ·exact h.op n h0 hn
 ·rw[za2 (fun hh=>h0 (hh n (by simp))),zjt h.b];exact Nat.zero_le _
theorem XG.hlen'{k:Nat}{s:St}(h:XG k s){o t:Int}(ho:I63 o)(ht:I63 t):s.hlen 16 [o,t]<=k:=by
 by_cases h0:0<=o/\0<=t
 ·exact h.hlen o t h0.1 h0.2 ho ht
 ·unfold St.hlen;rw[za2 (fun hh=>h0 ⟨hh o (by simp),hh t (by simp)⟩),zjt h.b];exact Nat.zero_le _
theorem XG.mono'{k:Nat}{s:St}(h:XG k s){o t:Int}(ho:I63 o)(ht:I63 t):∀ i j:Nat,i<=j->j<s.hlen 16 [o,t]->(s.hpI 16 [o,t] i).1<=(s.hpI 16 [o,t] j).1:=by
 by_cases h0:0<=o/\0<=t
 ·exact h.mono o t h0.1 h0.2 ho ht
 ·intro i j _ hj;unfold St.hlen at hj;rw[za2 (fun hh=>h0 ⟨hh o (by simp),hh t (by simp)⟩),zjt h.b]at hj;exact absurd hj (by omega)
theorem XG.step{k:Nat}{s s':St}(h:XG k s)(hb:XB s'){T:List Nat}(hS:Same T s s')(h14:14∉T)(h15:15∉T)(h16:16∉T)(h20:20∉T):XG k s':=by
 refine⟨hb,fun id v h0 h1 hv => ?_,fun o t ho ht h1 h2 i j hij hj => ?_,fun o t ho ht h1 h2 => ?_,?_,fun n hn h1 => ?_⟩
 ·rw[hS 15 [id] (by decide) h15 (nn1 h0)]at hv;exact h.rows id v h0 h1 hv
 ·rw[hS.hpI h16 ho ht,hS.hpI h16 ho ht];rw[hS.hlen h16 ho ht]at hj;exact h.mono o t ho ht h1 h2 i j hij hj
 ·rw[hS.hlen h16 ho ht];exact h.hlen o t ho ht h1 h2
 ·rw[hS.int (by decide) h14 (by simp)];exact h.cnt
 ·rw[hS.int (by decide) h20 (nn1 hn)];exact h.op n hn h1
theorem XG.put{k n:Nat}{s:St}(h:XG k s)(hn:n=17\/n=18\/n=19){l:List Int}(hl:l.length<=3)(v:ByteArray):XG k (s.put (keyL n l) v):=by
 have hb:=h.b.put (zh8 n hl) v;have hS:=h.b.same (n:=n) (by omega) l v;exact h.step hb hS (by simp;omega) (by simp;omega) (by simp;omega) (by simp;omega)
theorem XG.st{k:Nat}{hd:Hand}{s s':St}(h1:XG k s)(h2:XG k s'):XG k (hd.st s s'):=by
 unfold Hand.st;split
 ·exact h2
 ·exact h1
theorem XG.zlh{k:Nat}{s:St}(h:XG k s)(hk:k<1000000000000):XG (k+1) (s.z0m (keyL 14 []) (((s.int (keyL 14 []):Nat):Int)+1)):=by
 have hb:XB (s.z0m (keyL 14 []) (((s.int (keyL 14 []):Nat):Int)+1)):=h.b.put (zh8 14 (by simp)) _;have hS:Same [14] s (s.z0m (keyL 14 []) (((s.int (keyL 14 []):Nat):Int)+1)):=h.b.same (by decide) _ _;have hc:=h.cnt;have hne:keyL 14 []≠z0d:=z3o 14 (by simp);refine⟨hb,fun id v h0 h1 hv => ?_,fun o t ho ht h1 h2 i j hij hj => ?_,fun o t ho ht h1 h2 => ?_,?_,fun n hn h1 => ?_⟩
 ·rw[hS 15 [id] (by decide) (by simp) (nn1 h0)]at hv;exact h.rows id v h0 h1 hv
 ·rw[hS.hpI (by simp) ho ht,hS.hpI (by simp) ho ht];rw[hS.hlen (by simp) ho ht]at hj;exact h.mono o t ho ht h1 h2 i j hij hj
 ·rw[hS.hlen (by simp) ho ht];exact Nat.le_trans (h.hlen o t ho ht h1 h2) (Nat.le_succ _)
 ·rw[zam s h.b.srt _ _ hne _ (by omega),if_pos rfl];omega
 ·rw[hS.int (by decide) (by simp) (nn1 hn)];exact h.op n hn h1
theorem XG.zkr{k:Nat}{s:St}(h:XG k s){a:Int}{n:Int}(hn:n<=16):XG k (s.z0m (keyL 20 [a]) n):=by
 have hb:XB (s.z0m (keyL 20 [a]) n):=h.b.put (zh8 20 (by simp)) _;have hS:Same [20] s (s.z0m (keyL 20 [a]) n):=h.b.same (by decide) _ _;refine⟨hb,fun id v h0 h1 hv => ?_,fun o t ho ht h1 h2 i j hij hj => ?_,fun o t ho ht h1 h2 => ?_,?_,fun b hb0 h1 => ?_⟩
 ·rw[hS 15 [id] (by decide) (by simp) (nn1 h0)]at hv;exact h.rows id v h0 h1 hv
 ·rw[hS.hpI (by simp) ho ht,hS.hpI (by simp) ho ht];rw[hS.hlen (by simp) ho ht]at hj;exact h.mono o t ho ht h1 h2 i j hij hj
 ·rw[hS.hlen (by simp) ho ht];exact h.hlen o t ho ht h1 h2
 ·rw[hS.int (by decide) (by simp) (by simp)];exact h.cnt
 ·by_cases ha:0<=a
  ·rw[zam s h.b.srt _ _ (z3o 20 (nn1 ha)) _ (by omega)];split
   ·omega
   ·exact h.op b hb0 h1
  ·have he:(s.z0m (keyL 20 [a]) n).ents=s.ents:=by
    rw[za2 (fun hh=>ha (hh a (by simp)))];exact znf h.b _
   have:(s.z0m (keyL 20 [a]) n).int (keyL 20 [b])=s.int (keyL 20 [b]):=by unfold St.int St.val;rw[he]
   rw[this];exact h.op b hb0 h1
theorem XG.zzw{k:Nat}{s:St}(h:XG k s)(id:Int)(hid:0<=id){v:ByteArray}(hv:(rowOf v).length=4):XG k (s.put (keyL 15 [id]) v):=by
 have hb:=h.b.put (zh8 15 (l:=[id]) (by simp)) v;have hS:=h.b.same (n:=15) (by decide) [id] v;refine⟨hb,fun j u h0 h1 hu => ?_,fun o t ho ht h1 h2 i j hij hj => ?_,fun o t ho ht h1 h2 => ?_,?_,fun n hn h1 => ?_⟩
 ·rw[z4y h.b.srt]at hu
  by_cases e:keyL 15 [id]=keyL 15 [j]
  ·rw[if_pos e]at hu;split at hu
   ·cases hu
   ·rw[if_neg (z3o 15 (nn1 hid))]at hu;cases hu;exact hv
  ·rw[if_neg e]at hu;exact h.rows j u h0 h1 hu
 ·rw[hS.hpI (by simp) ho ht,hS.hpI (by simp) ho ht];rw[hS.hlen (by simp) ho ht]at hj;exact h.mono o t ho ht h1 h2 i j hij hj
 ·rw[hS.hlen (by simp) ho ht];exact h.hlen o t ho ht h1 h2
 ·rw[hS.int (by decide) (by simp) (by simp)];exact h.cnt
 ·rw[hS.int (by decide) (by simp) (nn1 hn)];exact h.op n hn h1
theorem XG.del{k n:Nat}{s:St}(h:XG k s)(hn:n=15\/n=17\/n=18)(id:Int):XG k (s.del (keyL n [id])):=by
 have e:s.del (keyL n [id])=s.put (keyL n [id]) z0d:=by unfold St.put;rw[if_pos rfl]
 rcases hn with rfl | hn
 ·have hS:=h.b.same (n:=15) (by decide) [id] z0d;have hb:=h.b.put (zh8 15 (l:=[id]) (by simp)) z0d;rw[<- e]at hS hb;refine⟨hb,fun j u h0 h1 hu => ?_,fun o t ho ht h1 h2 i j hij hj => ?_,fun o t ho ht h1 h2 => ?_,?_,fun n hn h1 => ?_⟩
  ·rw[e,z4y h.b.srt]at hu;split at hu
   ·rw[if_pos rfl]at hu;cases hu
   ·exact h.rows j u h0 h1 hu
  ·rw[hS.hpI (by simp) ho ht,hS.hpI (by simp) ho ht];rw[hS.hlen (by simp) ho ht]at hj;exact h.mono o t ho ht h1 h2 i j hij hj
  ·rw[hS.hlen (by simp) ho ht];exact h.hlen o t ho ht h1 h2
  ·rw[hS.int (by decide) (by simp) (by simp)];exact h.cnt
  ·rw[hS.int (by decide) (by simp) (nn1 hn)];exact h.op n hn h1
 ·rw[e];exact h.put (by rcases hn with rfl | rfl<;>simp) (by simp) _
end Go.Proofs.YtnkilceibkkjlaaGreat
namespace Go.Proofs.YtnkilceibkkjlaaGreat
open Go.RowKit
abbrev xvH(q:Option Addr)(L:List Nat):Hand:=⟨q,true,L⟩
abbrev u100:W4:=(100,0,0,0)
abbrev u50:W4:=(50,0,0,0)
abbrev zgc:W4:=(500000000000000000,0,0,0)
abbrev lvx:Ex:=⟨8,7,1,0,u100,oneW⟩
abbrev lvsl:W4:=(7766279631452241920,5,0,0)
def xl1:St:=(xvH none []).z4o z2p lvx
def xl2:St:=(xvH none []).cutX xl1 lvsl 7 1 0 5 zgc oneW
theorem q14:xadE z2p lvx=0:=by kernel_rfl
theorem q0b(q:Option Addr)(L:List Nat):(xvH q L).xadN z2p lvx=1:=by kernel_rfl
theorem q1c(q:Option Addr)(L:List Nat):(xvH q L).z4o z2p lvx=xl1:=by kernel_rfl
theorem q1a(q:Option Addr)(L:List Nat):((xvH q L).ad2 z2p lvx).int (keyL 14 [])=0:=by kernel_rfl
theorem q0q(q:Option Addr)(L:List Nat):((xvH q L).ad6 z2p lvx).int (keyL 20 [lvx.st])=0:=by kernel_rfl
theorem xl_g:xl1.ex 1=lvx:=by kernel_rfl
theorem q0t:xl1.exIs 1=true:=by kernel_rfl
theorem xl_h:xl1.hlast 16 [7,1]=lvsl:=by kernel_rfl
theorem q0c:z98 xl1 lvsl 7 1 0 5 zgc oneW=u50:=by kernel_rfl
theorem q0s:zb9 7 0 5 zgc oneW=0:=by kernel_rfl
theorem q0x(q:Option Addr)(L:List Nat):(xvH q L).cutX xl1 lvsl 7 1 0 5 zgc oneW=xl2:=by kernel_rfl
theorem xl_p:z5i lvx zgc=u50:=by kernel_rfl
theorem xl_l:xl2.left 1=u50:=by kernel_rfl
theorem ziv:xl1.Fit 16:=Hand.zht St.Fit.empty _
theorem q09:xl2.Fit 18:=by
 unfold xl2 Hand.cutX Hand.z4p;split
 ·exact ziv.mono (by omega)
 ·split
  ·exact Hand.zhe (ziv.mono (by omega)) (ziv.z15 _ _)
  ·exact ziv.mono (by omega)
theorem zp8:W4.Ok u100:=⟨by decide,by decide,by decide,by decide⟩
theorem zl5:W4.Ok zgc:=⟨by decide,by decide,by decide,by decide⟩
theorem zxx:W4.Ok lvsl:=⟨by decide,by decide,by decide,by decide⟩
theorem newB(w:World):Calls Tryz.prog 15 #[] w fun e w1=>∃ b L,e= .returned (.pointer (some ⟨b,0,none⟩))/\SRep w1 b z2p L/\Below w.heap.size w w1/\∀ k∈L,w.heap.size<=k:=
 (new_any w).mono fun _ _ ⟨b,L,he,hS,hF,hL⟩=>⟨b,L,he,hS,hF.below,hL⟩
theorem HV.zxc{h:Hand}{w0 w W:World}{s:St}{rs:List (Nat × Obj)}(hV:HV h w s rs W)(hb:Below w0.heap.size w0 w)(hL:∀ k∈h.L,w0.heap.size<=k):Below w0.heap.size w0 W:=by
 obtain⟨L',_,st⟩:=HV.done hV
 refine⟨st.fr.os.trans hb.os,st.fr.tape.trans hb.tape,st.fr.output.trans hb.output,Nat.le_trans hb.size st.fr.size,fun k hk => ?_⟩;rw[st.fr.block k (Nat.lt_of_lt_of_le hk hb.size) (fun hm=>absurd (hL k hm) (by omega))];exact hb.block k hk
end Go.Proofs.YtnkilceibkkjlaaGreat
namespace Go.Proofs.YtnkilceibkkjlaaGreat
open Go.RowKit
def rxEq(vs:Nat->Value)(cs:List Value)(ia:Nat):List Nat->Prop
 | []=>True
 | j::l=>(if j=ia then True else vs j=cs.getD j undef)/\rxEq vs cs ia l
theorem zji{vs:Nat->Value}{cs:List Value}{ia:Nat}:∀ {l:List Nat},(∀ j∈l,j≠ia->vs j=cs.getD j undef)->rxEq vs cs ia l
 | [],_=>trivial
 | j::l,h=>⟨by
   by_cases hj:j=ia
   ·rw[if_pos hj];trivial
   ·rw[if_neg hj];exact h j (by simp) hj,zji fun i hi=>h i (by simp[hi])⟩
abbrev ptrV(g:Nat):Value:=.pointer (some ⟨g,0,none⟩)
def z7m(P:Program)(ops:Array Oper)(pr:List (List Nat))(cs:List Value)(kc ia is:Nat)(R:Bool->List (Nat × Obj)->World->Prop)(o0 o1:Obj)(fr:(Nat->Value)->Act)(k:Nat)(o:Oper):Prop:=
 if k=ia then ∀ vs b w,R b [] w->rgDo P ops o (fr vs) w fun v w'=>∃ g,v=ptrV g/\R b [(g,o0)] w'
 else if k=is then ∀ vs b g w,rxEq vs cs ia (pr.getD k [])->vs ia=ptrV g->R b [(g,o0)] w->rgDo P ops o (fr vs) w fun v w'=>v=cs.getD k undef/\R b [(g,o1)] w'
 else if k=kc then ∀ vs rs w,rxEq vs cs ia (pr.getD k [])->R false rs w->rgDo P ops o (fr vs) w fun v w'=>v=cs.getD k undef/\R true rs w'
 else ∀ vs b rs w,rxEq vs cs ia (pr.getD k [])->R b rs w->rgDo P ops o (fr vs) w fun v w'=>v=cs.getD k undef/\R b rs w'
theorem z6t{P:Program}{ops:Array Oper}{pr:List (List Nat)}{cs:List Value}{kc ia is:Nat}{R:Bool->List (Nat × Obj)->World->Prop}{o0 o1:Obj}{fr:(Nat->Value)->Act}{k:Nat}{o:Oper}(h:((k != ia)&&(k != is)&&(k != kc))=true)
  (hs:∀ vs b rs w,rxEq vs cs ia (pr.getD k [])->R b rs w->rgDo P ops o (fr vs) w fun v w'=>v=cs.getD k undef/\R b rs w'):z7m P ops pr cs kc ia is R o0 o1 fr k o:=by
 simp only[Bool.and_eq_true,bne_iff_ne,ne_eq]at h;unfold z7m;rw[if_neg h.1.1,if_neg h.1.2,if_neg h.2];exact hs
theorem zxi{P:Program}{ops:Array Oper}{pr:List (List Nat)}{cs:List Value}{kc ia is:Nat}{R:Bool->List (Nat × Obj)->World->Prop}{o0 o1:Obj}{fr:(Nat->Value)->Act}{k:Nat}{o:Oper}(h:((k != ia)&&(k != is)&&(k==kc))=true)
  (hs:∀ vs rs w,rxEq vs cs ia (pr.getD k [])->R false rs w->rgDo P ops o (fr vs) w fun v w'=>v=cs.getD k undef/\R true rs w'):z7m P ops pr cs kc ia is R o0 o1 fr k o:=by
 simp only[Bool.and_eq_true,bne_iff_ne,ne_eq,beq_iff_eq]at h;unfold z7m;rw[if_neg h.1.1,if_neg h.1.2,if_pos h.2];exact hs
theorem zuo{P:Program}{ops:Array Oper}{pr:List (List Nat)}{cs:List Value}{kc ia is:Nat}{R:Bool->List (Nat × Obj)->World->Prop}{o0 o1:Obj}{fr:(Nat->Value)->Act}{k:Nat}{o:Oper}(h:k=ia)
  (hs:∀ vs b w,R b [] w->rgDo P ops o (fr vs) w fun v w'=>∃ g,v=ptrV g/\R b [(g,o0)] w'):z7m P ops pr cs kc ia is R o0 o1 fr k o:=by
 unfold z7m;rw[if_pos h];exact hs
theorem zx5{P:Program}{ops:Array Oper}{pr:List (List Nat)}{cs:List Value}{kc ia is:Nat}{R:Bool->List (Nat × Obj)->World->Prop}{o0 o1:Obj}{fr:(Nat->Value)->Act}{k:Nat}{o:Oper}(h:((k != ia)&&(k==is))=true)
  (hs:∀ vs b g w,rxEq vs cs ia (pr.getD k [])->vs ia=ptrV g->R b [(g,o0)] w->rgDo P ops o (fr vs) w fun v w'=>v=cs.getD k undef/\R b [(g,o1)] w'):z7m P ops pr cs kc ia is R o0 o1 fr k o:=by
 simp only[Bool.and_eq_true,bne_iff_ne,ne_eq,beq_iff_eq]at h;unfold z7m;rw[if_neg h.1,if_pos h.2];exact hs
def zjm(P:Program)(ops:Array Oper)(pr:List (List Nat))(cs:List Value)(kc ia is:Nat)(R:Bool->List (Nat × Obj)->World->Prop)(o0 o1:Obj)(fr:(Nat->Value)->Act):Nat->List Oper->Prop
 | _,[]=>True
 | k,o::l=>z7m P ops pr cs kc ia is R o0 o1 fr k o/\zjm P ops pr cs kc ia is R o0 o1 fr (k+1) l
theorem zek{P:Program}{ops:Array Oper}{pr:List (List Nat)}{cs:List Value}{kc ia is:Nat}{R:Bool->List (Nat × Obj)->World->Prop}{o0 o1:Obj}{fr:(Nat->Value)->Act}:∀ {l:List Oper} {k:Nat},zjm P ops pr cs kc ia is R o0 o1 fr k l->∀ (i:Nat) (o:Oper),l[i]?=some o->z7m P ops pr cs kc ia is R o0 o1 fr (k+i) o
 | [],_,_,i,o,h=>by simp at h
 | x::l,k,h,0,o,ho=>by
  simp only[List.getElem?_cons_zero,Option.some.injEq]at ho
  subst ho;exact h.1
 | x::l,k,h,i+1,o,ho=>by
  have:=zek h.2 i o (by simpa using ho)
  rwa [show k+1+i=k+(i+1)by omega]at this
def q17(cs:List Value)(kc ia is:Nat)(R:Bool->List (Nat × Obj)->World->Prop)(o0 o1:Obj)(L:Nat->Bool)(vs:Nat->Value)(w:World):Prop:=
 (∀ j,L j=true->j≠ia->vs j=cs.getD j undef)/\((L ia=true/\∃ g,vs ia=ptrV g/\R (L kc) [(g,if L is=true then o1 else o0)] w)\/(L ia=false/\L is=false/\R (L kc) [] w))
theorem zdr{P:Program}{id:Nat}{Q:Exit->Act->World->Prop}{a:Act}{w:World}{l:List Oper}(pr:List (List Nat))(cs:List Value)(kc ia is:Nat)(R:Bool->List (Nat × Obj)->World->Prop)(o0 o1:Obj)(fr:(Nat->Value)->Act)
  (hm:P.follows .mixedOrders=true) (hB:rgB l.toArray pr a.tmps.size=true) (hi:(decide (kc<l.length)&&decide (ia<l.length)&&decide (is<l.length)&&(kc != ia)&&(kc != is)&&(is != ia)&&(pr.getD is []).contains ia)=true) (hfr:∀ vs,z14 l a vs=fr vs)
  (h0:R false [] w.drew)
  (hs:zjm P l.toArray pr cs kc ia is R o0 o1 fr 0 l)
  (hend:∀ vs g w,rxEq vs cs ia (List.range l.length)->vs ia=ptrV g->R true [(g,o1)] w->Q .normal (fr vs) w):(Code.region id l.toArray true).wp P Q a w:=by
 simp only[Bool.and_eq_true,decide_eq_true_eq,bne_iff_ne,ne_eq,List.contains_iff_mem]at hi;obtain⟨⟨⟨⟨⟨⟨i1,i2⟩,i3⟩,i4⟩,i5⟩,i6⟩,i7⟩:=hi;refine wp_region_any hm ?_;have hok:=zi3 hB;have hsz:l.toArray.size=l.length:=by simp
 refine z6c hok (q17 cs kc ia is R o0 o1) ?_ ?_ l.toArray.size (Array.replicate l.toArray.size false) (fun _=>undef) a w.drew ?_ ?_ ?_
 ·intro i o ho L vs w hI hpre hLi _;obtain⟨hv,hR⟩:=hI;have hst:=zek hs i o (by simpa using ho);rw[Nat.zero_add]at hst;have hE:rxEq vs cs ia (pr.getD i []):=zji fun j hj hja=>hv j (hpre j hj) hja
  rw[show z14 l.toArray.toList a vs=z14 l a vs from rfl,hfr vs]
  have hval:∀ v,(i≠ia->v=cs.getD i undef)->∀ j,(if j=i then true else L j)=true->j≠ia->z1h vs i v j=cs.getD j undef:=fun v h j hj hja=>by
   unfold z1h
   by_cases hji:j=i
   ·rw[if_pos hji,hji];exact h (hji▸hja)
   ·rw[if_neg hji]at hj ⊢;exact hv j hj hja
  unfold z7m at hst
  by_cases c1:i=ia
  ·rw[if_pos c1]at hst;have hR2:L is=false/\R (L kc) [] w:=by
    rcases hR with⟨h1,_⟩ | ⟨_,h2⟩
    ·rw[<- c1,hLi]at h1;cases h1
    ·exact h2
   obtain⟨h2,h3⟩:=hR2;refine z3t (fun v w' he => ?_) (hst vs _ w h3);obtain⟨g,hg,hw⟩:=he;refine⟨hval v (fun h=>absurd c1 h),.inl ⟨by show(if ia=i then true else L ia)=true;rw[if_pos c1.symm],g,?_,?_⟩⟩
   ·unfold z1h;rw[if_pos c1.symm];exact hg
   ·have k1:¬ kc=i:=fun e=>i4 (e.trans c1)
    have k2:¬ is=i:=fun e=>i6 (e.trans c1)
    show R (if kc=i then true else L kc) [(g,if (if is=i then true else L is)=true then o1 else o0)] w'
    rw[if_neg k1,if_neg k2,h2,if_neg (by decide)];exact hw
  ·rw[if_neg c1]at hst;have hia:∀ v,z1h vs i v ia=vs ia:=fun v=>by unfold z1h;rw[if_neg (Ne.symm c1)]
   by_cases c2:i=is
   ·rw[if_pos c2]at hst;have hLa:L ia=true:=hpre ia (by rw[c2];exact i7);have hR2:∃ g,vs ia=ptrV g/\R (L kc) [(g,if L is=true then o1 else o0)] w:=by
     rcases hR with⟨_,h1⟩ | ⟨h1,_⟩
     ·exact h1
     ·rw[hLa]at h1;cases h1
    obtain⟨g,hg,h3⟩:=hR2;have hLs:L is=false:=by rw[<- c2];exact hLi
    rw[hLs,if_neg (by decide)]at h3;refine z3t (fun v w' he => ?_) (hst vs _ g w hE hg h3);refine⟨hval v (fun _=>he.1),.inl ⟨by show(if ia=i then true else L ia)=true;rw[if_neg (Ne.symm c1)];exact hLa,g,(hia v).trans hg,?_⟩⟩;show R (if kc=i then true else L kc) [(g,if (if is=i then true else L is)=true then o1 else o0)] w'
    have k1:¬ kc=i:=fun e=>i5 (e.trans c2)
    rw[if_neg k1,if_pos c2.symm,if_pos rfl];exact he.2
   ·rw[if_neg c2]at hst
    by_cases c3:i=kc
    ·rw[if_pos c3]at hst;have hLk:L kc=false:=by rw[<- c3];exact hLi
     rw[hLk]at hR;rcases hR with⟨h1,g,hg,h3⟩ | ⟨h1,h2,h3⟩
     ·refine z3t (fun v w' he => ?_) (hst vs _ w hE h3);refine⟨hval v (fun _=>he.1),.inl ⟨by show(if ia=i then true else L ia)=true;rw[if_neg (Ne.symm c1)];exact h1,g,(hia v).trans hg,?_⟩⟩;show R (if kc=i then true else L kc) [(g,if (if is=i then true else L is)=true then o1 else o0)] w'
      rw[if_pos c3.symm,if_neg (Ne.symm c2)];exact he.2
     ·refine z3t (fun v w' he => ?_) (hst vs _ w hE h3);refine⟨hval v (fun _=>he.1),.inr ⟨by show(if ia=i then true else L ia)=false;rw[if_neg (Ne.symm c1)];exact h1,by show(if is=i then true else L is)=false;rw[if_neg (Ne.symm c2)];exact h2,?_⟩⟩;show R (if kc=i then true else L kc) [] w'
      rw[if_pos c3.symm];exact he.2
    ·rw[if_neg c3]at hst;rcases hR with⟨h1,g,hg,h3⟩ | ⟨h1,h2,h3⟩
     ·refine z3t (fun v w' he => ?_) (hst vs _ _ w hE h3);refine⟨hval v (fun _=>he.1),.inl ⟨by show(if ia=i then true else L ia)=true;rw[if_neg (Ne.symm c1)];exact h1,g,(hia v).trans hg,?_⟩⟩;show R (if kc=i then true else L kc) [(g,if (if is=i then true else L is)=true then o1 else o0)] w'
      rw[if_neg (Ne.symm c3),if_neg (Ne.symm c2)];exact he.2
     ·refine z3t (fun v w' he => ?_) (hst vs _ _ w hE h3);refine⟨hval v (fun _=>he.1),.inr ⟨by show(if ia=i then true else L ia)=false;rw[if_neg (Ne.symm c1)];exact h1,by show(if is=i then true else L is)=false;rw[if_neg (Ne.symm c2)];exact h2,?_⟩⟩;show R (if kc=i then true else L kc) [] w'
      rw[if_neg (Ne.symm c3)];exact he.2
 ·intro L vs w hI hall;obtain⟨hv,hR⟩:=hI;rw[show z14 l.toArray.toList a vs=z14 l a vs from rfl,hfr vs]
  rcases hR with⟨_,g,hg,h3⟩ | ⟨h1,_⟩
  ·rw[hall is (by rw[hsz];exact i3),if_pos rfl,hall kc (by rw[hsz];exact i1)]at h3;exact hend vs g w (zji fun j hj hja=>hv j (hall j (by rw[hsz];exact List.mem_range.1 hj)) hja) hg h3
  ·rw[hall ia (by rw[hsz];exact i2)]at h1;cases h1
 ·refine⟨rfl,rfl,fun t ht => ?_,by simp,fun j oj _ hl => ?_⟩
  ·refine(z5t _ _ _ _ _ fun j o hj hd => ?_).symm;have:=ht j o (by simpa using hj) hd;rw[getD_replicate_false]at this;cases this
  ·rw[getD_replicate_false]at hl;cases hl
 ·refine Nat.le_trans (List.length_filter_le _ _) (by simp)
 ·refine⟨fun j hj => ?_,.inr ⟨getD_replicate_false ..,getD_replicate_false ..,?_⟩⟩
  ·have:(Array.replicate l.toArray.size false).getD j false=true:=hj;rw[getD_replicate_false]at this;cases this
  ·show R ((Array.replicate l.toArray.size false).getD kc false) [] w.drew
   rw[getD_replicate_false];exact h0
end Go.Proofs.YtnkilceibkkjlaaGreat
