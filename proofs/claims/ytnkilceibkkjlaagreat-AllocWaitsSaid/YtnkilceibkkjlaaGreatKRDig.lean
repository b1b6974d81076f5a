/- What is proved here: numbers as digits of 2^32 in the ref -/
import Derived.Test.YtnkilceibkkjlaaGreatKLenP
set_option maxRecDepth 100000
set_option maxHeartbeats 16000000
namespace Go.Proofs.YtnkilceibkkjlaaGreat
open Go.RowKit
theorem digT:z1j Tryz.prog 115 181 (.int .u32 0) 1 4:=⟨by kernel_rfl,by kernel_rfl,rfl,by decide⟩
def DgIn(w:World)(ad:Option Addr)(ds:List Nat)(c:Nat):Prop:=ds.length<=c/\((ad=none/\ds = [])\/∃ g,ad=some ⟨g,0,none⟩/\∀ (j d:Nat),ds[j]?=some d->w.cell? ⟨g,j,none⟩=some (.int .u32 d))
def DgAt(w:World)(v:Value)(ds:List Nat):Prop:=∃ ad c,v= .slice ad ds.length c/\DgIn w ad ds c
theorem DgIn.below{w w':World}{ad:Option Addr}{ds:List Nat}{c:Nat}(h:DgIn w ad ds c)(hb:Below w.heap.size w w'):DgIn w' ad ds c:=by
 obtain⟨h1,h2⟩:=h;refine⟨h1,?_⟩;rcases h2 with h2 | ⟨g,h2,h3⟩
 ·exact .inl h2
 ·exact .inr ⟨g,h2,fun j d hj=>z5q hb (h3 j d hj)⟩
theorem DgAt.below{w w':World}{v:Value}{ds:List Nat}(h:DgAt w v ds)(hb:Below w.heap.size w w'):DgAt w' v ds:=by
 obtain⟨ad,c,h1,h2⟩:=h;exact⟨ad,c,h1,h2.below hb⟩
theorem DgAt.nil(w:World):DgAt w (.slice none 0 0) []:=⟨none,0,rfl,Nat.le_refl _,.inl ⟨rfl,rfl⟩⟩
theorem DgIn.take{w:World}{ad:Option Addr}{ds:List Nat}{c:Nat}(h:DgIn w ad ds c)(k:Nat):DgIn w ad (ds.take k) c:=by
 obtain⟨h1,h2⟩:=h;refine⟨by rw[List.length_take];omega,?_⟩;rcases h2 with⟨h2,rfl⟩ | ⟨g,h2,h3⟩
 ·exact .inl ⟨h2,by simp⟩
 ·refine .inr ⟨g,h2,fun j d hj=>h3 j d ?_⟩;rw[List.getElem?_take]at hj;split at hj
  ·exact hj
  ·cases hj
theorem DgIn.at{w:World}{ad:Option Addr}{ds:List Nat}{c k d:Nat}(h:DgIn w ad ds c)(hk:ds[k]?=some d):∃ g,ad=some ⟨g,0,none⟩/\w.cell? ⟨g,k,none⟩=some (.int .u32 d):=by
 rcases h.2 with⟨_,rfl⟩ | ⟨g,h2,h3⟩
 ·simp at hk
 ·exact⟨g,h2,h3 k d hk⟩
theorem z1s{ad:Option Addr}{g n c k:Nat}(h:ad=some ⟨g,0,none⟩)(hk:k<n)(w:World):(Instr.indexAt 115 (.slice ad n c) (.int .i64 k)).run Tryz.prog w= .ok (.pointer (some ⟨g,k,none⟩)) w:=by
 subst h;obtain⟨inf,hinf,_,hz1,_⟩:=info_parts digT.info;have hu:Tryz.prog.underlying 115=some (.slice (Tryz.prog.elem 115)):=by rw[z7v digT.und];exact digT.und
 have hs:∀ w,(sizeOf (Tryz.prog.elem 115)).run Tryz.prog w= .ok 1 w:=fun w=>by rw[z7v digT.und];simp[sizeOf,typeInfo,hinf,hz1]
 rw[run_indexAt_slice (P:=Tryz.prog) (w:=w) 115 ⟨g,0,none⟩ n c .i64 k hu,if_pos ⟨by omega,by omega⟩,hs];simp only[Result.andThen,Int.toNat_natCast,Nat.mul_one];simp[Addr.add];omega
theorem zor{t e:TypeId}{z:Value}{size bytes:Nat}{P:Program}(T:z1j P t e z size bytes)(ad:Option Addr)(n c:Nat)(hnc:n<=c)(i:Nat)(hi:i<=n):∀ w1,(Instr.sliceAt t (.slice ad n c) none (some (.int .i64 i)) none).run P w1= .ok (.slice ad i c) w1:=by
 have hu:P.underlying t=some (.slice (P.elem t)):=by rw[z7v T.und];exact T.und
 obtain⟨inf,hinf,_,hz1,_⟩:=info_parts T.info;have hs:∀ w,(sizeOf (P.elem t)).run P w= .ok size w:=fun w=>by rw[z7v T.und];simp[sizeOf,typeInfo,hinf,hz1]
 intro w;rw[run_sliceAt_slice w t _ _ _ _ hu,run_slice_h w t ad n c hu .i64 i (by omega) (by omega),hs];simp only[Result.andThen,sliced,Int.toNat_natCast,Nat.sub_zero,Nat.zero_mul];have:(if c=0 then ad else ad.map (·.add 0))=ad:=by
  cases ad with
  | none=>simp
  | some x=>simp[Addr.add]
 rw[this]
theorem zdg{ds:List Nat}{m:Nat}(h:ds[m]?=some 0):z04 (ds.take (m+1))=z04 (ds.take m):=by
 rw[z2w h];simp
theorem zpz{ds:List Nat}(hd:DOk ds){n:Nat}(hn:n<=ds.length)(h:z04 (ds.take n)=z04 ds)(h0:n=0\/∃ m d,n=m+1/\ds[m]?=some d/\d≠0):ds.take n=digs (z04 ds):=by
 rw[<- h];refine(zct _ (hd.take n) fun hne => ?_).symm;rcases h0 with rfl | ⟨m,d,rfl,hm,hd0⟩
 ·simp at hne
 ·rw[List.getLast_eq_getElem];have hl:(ds.take (m+1)).length-1=m:=by rw[List.length_take,Nat.min_eq_left hn];rfl
  have he:(ds.take (m+1))[m]?=some d:=by rw[List.getElem?_take,if_pos (by omega)];exact hm
  have:=List.getElem?_eq_some_iff.1 he;obtain⟨h1,h2⟩:=this;simp only[hl];rw[h2];exact hd0
theorem z8y(w:World)(ad:Option Addr)(c:Nat)(ds:List Nat)(hd:DOk ds)(hs:ds.length<1000000)(hD:DgIn w ad ds c):Calls Tryz.prog 127 #[.slice ad ds.length c] w fun e w'=>(e= .returned (.slice ad (digs (z04 ds)).length c)/\DgIn w ad (digs (z04 ds)) c)/\w=w':=by
 have HS:=zh (zor digT ad ds.length c hD.1);have HT:Hid (∀ n,n<=ds.length->z04 (ds.take n)=z04 ds->(n=0\/∃ m d,n=m+1/\ds[m]?=some d/\d≠0)->Ending.returned (.slice ad n c)= .returned (.slice ad (digs (z04 ds)).length c)/\DgIn w ad (digs (z04 ds)) c):=fun n hn h1 h2=>by
  have e:=zpz hd hn h1 h2;rw[<- e];exact⟨by rw[List.length_take,Nat.min_eq_left hn],hD.take n⟩
 have HX:Hid (∀ (m d:Nat),ds[m]?=some d->m<ds.length/\∃ g,(∀ W,(Instr.indexAt 115 (.slice ad ds.length c) (.int .i64 m)).run Tryz.prog W= .ok (.pointer (some ⟨g,m,none⟩)) W)/\w.cell? ⟨g,m,none⟩=some (.int .u32 d)):=fun m d hm=>by
  have hlt:=(List.getElem?_eq_some_iff.1 hm).1;obtain⟨g,h1,h2⟩:=hD.at hm;exact⟨hlt,g,z1s h1 hlt,h2⟩
 have HG:Hid (∀ m,m<ds.length->∃ d,ds[m]?=some d):=fun m hm=>⟨_,List.getElem?_eq_getElem hm⟩
 clear hD hd;go_enter Tryz.func127,Tryz.ntmps127;go_wp2_with fail
 go_loopw [3] (fun nv wr=>∃ n:Nat,nv= .int .i64 n/\n<=ds.length/\z04 (ds.take n)=z04 ds/\wr=w) (fun nv _=>(intOf nv).toNat)
 case atStart=>exact⟨ds.length,rfl,Nat.le_refl _,by rw[List.take_length],rfl⟩
 case round =>
  obtain⟨n,rfl,hn,hN,rfl⟩:=hrel;have HN:=zh hN;clear hN;cases n with
  | zero =>
   have hs0:=HS.out 0 (by omega);have hR:=zh (HT.out 0 (by omega) HN.out (.inl rfl));clear HS HT HX HG;go_wp2_with fail;go_ret;exact⟨hR.out,rfl⟩
  | succ m =>
   obtain⟨d,hm⟩:=HG.out m (by omega);obtain⟨hlt,g,hidx,hcell⟩:=HX.out m d hm;have hz:IntKind.i64.wrap (((m+1:Nat):Int)-1)=(m:Int):=by rw[IntKind.wrap_i64];omega
   have hgt:decide ((0:Int)<((m+1:Nat):Int))=true:=decide_eq_true (by omega);have hgt2:decide (0<m+1)=true:=decide_eq_true (by omega)
   by_cases hd0:d=0
   ·subst hd0;have HN2:=zh ((zdg hm).symm.trans HN.out);clear hm HS HT HX HG HN;go_wp2_with fail;go_roundw
    case rel=>exact⟨m,by go_num,by omega,HN2.out,trivial⟩
    case measure=>simp[intOf]
   ·have hs0:=HS.out (m+1) hn;rw[show((m+1:Nat):Int)=(m:Int)+1 from rfl]at hs0
    have hR:=zh (HT.out (m+1) hn HN.out (.inr ⟨m,d,rfl,hm,hd0⟩));have hne:(((d:Nat):Int)==0)=false:=beq_eq_false_iff_ne.2 (by omega);clear hm HS HT HX HG HN;go_wp2_with fail;go_ret;exact⟨hR.out,rfl⟩
theorem zkf(w:World)(v:Value)(ds:List Nat)(hd:DOk ds)(hs:ds.length<1000000)(h:DgAt w v ds):Calls Tryz.prog 127 #[v] w fun e w'=>(∃ u,e= .returned u/\DgAt w u (digs (z04 ds)))/\w=w':=by
 obtain⟨ad,c,rfl,hD⟩:=h;exact(z8y w ad c ds hd hs hD).mono fun e w' ⟨⟨he,h1⟩,hw⟩=>⟨⟨_,he,ad,c,rfl,h1⟩,hw⟩
def ofD(x:W4):Nat->List Nat
 | 0 => []
 | k+1=>ofD x k ++ [x.at k%4294967296,x.at k/4294967296]
theorem zj1(x:W4):∀ k,(ofD x k).length=2*k
 | 0=>rfl
 | k+1=>by rw[ofD,List.length_append,zj1 x k];rfl
theorem zyd{x:W4}(hx:x.Ok):z04 (ofD x 4)=uN x/\DOk (ofD x 4):=by
 obtain⟨x0,x1,x2,x3⟩:=x;obtain⟨h0,h1,h2,h3⟩:=hx;refine⟨?_,?_⟩
 ·simp only[ofD,W4.at,z04,dgN,List.nil_append,List.cons_append,uN];omega
 ·intro d hd;simp only[ofD,W4.at,List.nil_append,List.cons_append,List.mem_cons,List.not_mem_nil,or_false]at hd;simp only at h0 h1 h2 h3;omega
abbrev dV(ds:List Nat):List Value:=ds.map fun (d:Nat)=>Value.int .u32 (d:Int)
theorem Own.dg{w:World}{v:Value}{ds:List Nat}(h:Own w 181 1 v ds.length (dV ds)):DgAt w v ds:=by
 have hs:=h.src;rcases h.2 with⟨h1,h2⟩ | ⟨g,cap,cur,rfl,hg,hc,_⟩
 ·have:ds = []:=by simpa using h2
  subst this;rw[h1];exact DgAt.nil w
 ·refine⟨_,cap,rfl,hc,.inr ⟨g,rfl,fun j d hj => ?_⟩⟩;have:=h.cells (g:=g) rfl j (.int .u32 d) (by rw[List.getElem?_map,hj];rfl);rw[Addr.add_lit,Nat.zero_add]at this;exact this
def DgF(w w':World)(v:Value)(ds:List Nat):Prop:=∃ ad c,v= .slice ad ds.length c/\DgIn w' ad ds c/\∀ g,ad=some ⟨g,0,none⟩->w.heap.size<=g
theorem DgF.dg{w w':World}{v:Value}{ds:List Nat}(h:DgF w w' v ds):DgAt w' v ds:=by
 obtain⟨ad,c,h1,h2,_⟩:=h;exact⟨ad,c,h1,h2⟩
abbrev ziw(w:World)(n:Nat)(e:Ending)(w':World):Prop:=(∃ u,e= .returned u/\DgF w w' u (digs n))/\Below w.heap.size w w'
theorem zkc{w wr:World}{v:Value}{n:Nat}{ds:List Nat}(hb:Below w.heap.size w wr)(ho:Own wr 181 1 v n (dV ds))(hn:n=ds.length)(hd:DOk ds)(hs:ds.length<1000000)(hf:∀ g,v.ownBlock=some g->w.heap.size<=g):Calls Tryz.prog 127 #[v] wr (ziw w (z04 ds)):=by
 subst hn;obtain⟨ad,c,rfl,hD⟩:=ho.dg;exact(z8y wr ad c ds hd hs hD).mono fun e w' ⟨⟨he,h1⟩,hw⟩=>by
  subst hw;exact⟨⟨_,he,ad,c,rfl,h1,fun g hg=>hf g (by rw[hg];rfl)⟩,hb⟩
structure OAt (w:World) (x:W4) (k:Nat) (v:Value) (wr:World):Prop where
 b:Below w.heap.size w wr
 hx:wr.heap[w.heap.size]?=some (.cells (uL x) 24 (0,0))
 o:Own wr 181 1 v (2*k) (dV (ofD x k))
 f:∀ g,v.ownBlock=some g->w.heap.size<g
theorem zmp(w:World)(a b:Value)(t:TypeId):∀ j u,[a,b][j]?=some u->((w.alloc (.cells #[a,b] t)).drew).cell? ((⟨w.heap.size,0,none⟩:Addr).add j)=some u:=fun j u hj=>by
 rw[Addr.add_lit,Nat.zero_add]
 show(w.alloc (.cells #[a,b] t)).cell? ⟨w.heap.size,j,none⟩=some u
 rw[cell_of_row _ _ _ _ _ _ (heap_alloc_new w _)]
 match j,hj with
 | 0,hj=>cases hj;rfl
 | 1,hj=>cases hj;rfl
theorem zwp(x y:Int):∀ u∈[Value.int .u32 x,Value.int .u32 y],u.oneCell'=true:=by
 intro u hu;rcases List.mem_cons.1 hu with rfl | hu
 ·rfl
 ·rw[List.mem_singleton.1 hu];rfl
theorem OAt.next{w wr:World}{x:W4}{k:Nat}{v:Value}(h:OAt w x k v wr):(∀ o,Own (wr.alloc o).drew 181 1 v (2*k) (dV (ofD x k)))/\∀ v' w' o,z0s (wr.alloc o).drew 181 1 v (2*k) 2 (dV (ofD x k)) [.int .u32 ((x.at k%4294967296:Nat):Int),.int .u32 ((x.at k/4294967296:Nat):Int)] v' w'->OAt w x (k+1) v' w':=by
 have hsz:=h.b.size;refine⟨fun o=>h.o.frame fun g hg=>heap_alloc_old wr o (h.o.lt g hg),fun v' w' o hA => ?_⟩;obtain⟨h1,h2,_,h4⟩:=hA;have hf:∀ g,v'.ownBlock=some g->w.heap.size<g:=fun g hg=>by
  rcases h4 g hg with h5 | h5
  ·exact h.f g h5
  ·have h6:(wr.alloc o).heap.size<=g:=h5;rw[World.size_alloc]at h6;omega
 have hb:Below w.heap.size w w':=Below.grown (z0h (z00 h.b o)) h2 (by show w.heap.size<=(wr.alloc o).heap.size;rw[World.size_alloc];omega) (fun g hg=>Nat.le_of_lt (h.f g hg));refine⟨hb,?_,?_,hf⟩
 ·have h5:=h2.block w.heap.size (by show w.heap.size<(wr.alloc o).heap.size;rw[World.size_alloc];omega) (fun e=>by have:=h.f _ e.symm;omega);rw[h5];show(wr.alloc o).heap[w.heap.size]?=_
  rw[heap_alloc_old wr o (z02 h.hx)];exact h.hx
 ·have e:dV (ofD x (k+1))=dV (ofD x k) ++ [.int .u32 ((x.at k%4294967296:Nat):Int),.int .u32 ((x.at k/4294967296:Nat):Int)]:=by
   rw[ofD];simp[dV]
  rw[e];exact h1
theorem zib(x:W4)(hx:x.Ok)(w:World):Calls Tryz.prog 57 #[uV x] w fun e w'=>(∃ u,e= .returned u/\DgF w w' u (digs (uN x)))/\Below w.heap.size w w':=by
 have H0:Hid (OAt w x 0 (.slice none 0 0) (w.alloc (.cells (uL x) 24))):=⟨z00 zb _,heap_alloc_new w _,Own.nil _ _ _,fun g hg=>by simp[Value.ownBlock]at hg⟩;go_enter Tryz.func57,Tryz.ntmps57;go_wp2_with fail
 go_loopw [4,3] (fun iv v wr=>∃ k:Nat,iv= .int .i64 k/\k<=4/\OAt w x k v wr) (fun iv _ _=>4-(intOf iv).toNat)
 case atStart=>exact⟨0,rfl,by omega,H0.out⟩
 case round =>
  obtain⟨k,rfl,hk,hA⟩:=hrel;have HA:=zh hA;clear hA H0
  by_cases hlt:k<4
  ·have cA:wr.cell? ⟨w.heap.size,k,none⟩=some (.int .u64 (x.at k)):=by rw[cell_of_row _ _ _ _ _ _ HA.out.hx];exact z4v x k hlt
   have hw:=hx.at k;have e1:IntKind.u32.wrap ((x.at k:Nat):Int)=((x.at k%4294967296:Nat):Int):=by rw[IntKind.wrap_u32];omega
   have e2:IntKind.u32.wrap (((x.at k:Nat):Int)/4294967296)=((x.at k/4294967296:Nat):Int):=by rw[IntKind.wrap_u32];omega
   obtain⟨ho,hn⟩:=HA.out.next;have HO:=zh ho;have HN:=zh hn;clear ho hn hw;generalize x.at k%4294967296=lo at *
   generalize x.at k/4294967296=hi at *
   go_wp2_with fail
   go_region_law (refine z7l (o:=⟨some 20,_,_,_,_,_⟩) rfl _ _ 115 115 rfl digT digT _ (2*k) _ rfl (HO.out _) _ 2 _ [.int .u32 ((lo:Nat):Int),.int .u32 ((hi:Nat):Int)] rfl rfl (zmp wr _ _ _) (zwp _ _) (by unfold maxLen;omega) (by omega) ?_;intro v' w' hA)
   all_goals
    have HR:=zh (HN.out _ _ _ hA);clear hA HO HN;go_wp2_with fail;go_roundw
    case rel=>exact⟨k+1,by go_num,by omega,HR.out⟩
    case measure=>simp[intOf];omega
  ·obtain rfl:k=4:=by omega
   have hT:=zkc HA.out.b HA.out.o (zj1 x 4).symm (zyd hx).2 (by rw[zj1];decide) (fun g hg=>Nat.le_of_lt (HA.out.f g hg));rw[(zyd hx).1]at hT;have HT:=zh hT;clear hT HA;go_wp2_with fail;refine zm HT.out ?_;rintro e w2 ⟨⟨u,rfl,hD⟩,hb⟩;have HD:=zh hD;have HB:=zh hb;clear hD hb HT;go_wp2_with fail;go_ret;exact⟨⟨_,rfl,HD.out⟩,HB.out⟩
def W256:Nat:=115792089237316195423570985008687907853269984665640564039457584007913129639936
def toW(n:Nat):W4:=if n<W256 then uOf n else(0,0,0,0)
def toB(n:Nat):Bool:=decide (n<W256)
theorem zh7(i:Nat):BP i=2 ^ (32*i):=by
 show 4294967296 ^ i=_
 rw[show(4294967296:Nat)=2 ^ 32 by decide,<- Nat.pow_mul]
theorem zss{N d i:Nat}(hi:i<8)(hN:N<BP i)(hd:d<4294967296):(uOf N).at (i/2)+d*2 ^ (32*(i%2))<18446744073709551616/\(uOf N).at (i/2) ||| d*2 ^ (32*(i%2))=(uOf N).at (i/2)+d*2 ^ (32*(i%2))/\(uOf N).set (i/2) ((uOf N).at (i/2)+d*2 ^ (32*(i%2)))=uOf (N+BP i*d):=by
 have hk:i/2<4:=by omega
 have hp:BP i=2 ^ (64*(i/2))*2 ^ (32*(i%2)):=by rw[zh7,<- Nat.pow_add];congr 1;omega
 have hlt:(uOf N).at (i/2)<2 ^ (32*(i%2)):=by
  rw[zkb _ _ hk,zjs];rw[hp]at hN;exact Nat.lt_of_le_of_lt (Nat.mod_le _ _) (Nat.div_lt_of_lt_mul hN)
 have h32:2 ^ (32*(i%2))<=4294967296:=by
  rcases(by omega:i%2=0\/i%2=1)with h | h<;>rw[h]<;>decide
 have hfit:(uOf N).at (i/2)+d*2 ^ (32*(i%2))<18446744073709551616:=by
  have h1:(d+1)*2 ^ (32*(i%2))<=4294967296*4294967296:=Nat.mul_le_mul hd h32;rw[Nat.add_mul,Nat.one_mul]at h1;omega
 refine⟨hfit,?_,?_⟩
 ·rw[Nat.or_comm,Nat.mul_comm d,<- Nat.two_pow_add_eq_or_of_lt hlt,Nat.add_comm]
 ·have hs:=zu0 (uOf N) (i/2) ((uOf N).at (i/2)+d*2 ^ (32*(i%2))) hk;have hN2:N+BP i*d<115792089237316195423570985008687907853269984665640564039457584007913129639936:=by
   have h1:BP i*(d+1)<=BP i*4294967296:=Nat.mul_le_mul_left _ hd;have h2:BP i*4294967296<=BP 7*4294967296:=Nat.mul_le_mul_right _ (Nat.pow_le_pow_right (by decide) (by omega));have h3:BP 7*4294967296=115792089237316195423570985008687907853269984665640564039457584007913129639936:=by decide
   rw[Nat.mul_add]at h1;omega
  refine z6c ((z1y N).set _ _ hfit) (z1y _) ?_;rw[z5f hN2];rw[Nat.mul_add,z5f (by omega),zjs]at hs;rw[hp,Nat.mul_assoc,Nat.mul_comm (2 ^ (32*(i%2))) d];omega
structure TAt (w:World) (o:W4) (ad:Option Addr) (es:List Nat) (c:Nat) (wr:World):Prop where
 b:Below w.heap.size w wr
 r:wr.heap[w.heap.size]?=some (.cells (uL (0,0,0,0)) 24 (0,0))
 o:wr.heap[w.heap.size+1]?=some (.cells (uL o) 24 (0,0))
 d:DgIn wr ad es c
 n:∀ g,ad=some ⟨g,0,none⟩->g<w.heap.size\/es = []
theorem TAt.put{w wr:World}{o:W4}{ad:Option Addr}{es:List Nat}{c:Nat}(h:TAt w o ad es c wr)(k v:Nat)(hk:k<4):TAt w (o.set k v) ad es c (wr.setCell ⟨w.heap.size+1,k,none⟩ (.int .u64 v)):=by
 refine⟨h.b.setCell (p:=⟨w.heap.size+1,k,none⟩) (by simp) _,by rw[Below.heap_setCell _ _ _ _ (by simp)];exact h.r,?_,?_,h.n⟩
 ·rw[<- z9j o k v hk];exact heap_setCell_same _ _ _ _ _ _ h.o
 ·obtain⟨h1,h2⟩:=h.d;refine⟨h1,?_⟩;rcases h2 with h2 | ⟨g,h2,h3⟩
  ·exact .inl h2
  ·refine .inr ⟨g,h2,fun j d hj => ?_⟩;rcases h.n g h2 with h4 | h4
   ·rw[World.cell?_of_block (w:=wr) (by exact Below.heap_setCell _ _ _ _ (by simp;omega))];exact h3 j d hj
   ·rw[h4]at hj;simp at hj
theorem zja(w:World)(v:Value)(ds:List Nat)(hd:DOk ds)(hs:ds.length<1000000)(h:DgAt w v ds):Calls Tryz.prog 110 #[v] w fun e w'=>e= .returned (.tuple #[uV (toW (z04 ds)),.bool (toB (z04 ds))])/\Below w.heap.size w w':=by
 have HTr:Hid (Calls Tryz.prog 127 #[v] (w.alloc (.cells (uL (0,0,0,0)) 24)) fun e w'=>(∃ ad c,e= .returned (.slice ad (digs (z04 ds)).length c)/\TAt w (0,0,0,0) ad (digs (z04 ds)) c (w'.alloc (.cells (uL (0,0,0,0)) 24)))/\(w.alloc (.cells (uL (0,0,0,0)) 24))=w'):=by
  obtain⟨ad0,c0,rfl,h0⟩:=h;refine(z8y _ ad0 c0 ds hd hs (h0.below (z00 zb _))).mono fun e w' ⟨⟨he,hD⟩,hw⟩ => ?_
  subst hw;refine⟨⟨ad0,c0,he,?_⟩,rfl⟩;have hb:=z00 (z00 (Below.refl _ w) (.cells (uL (0,0,0,0)) 24)) (.cells (uL (0,0,0,0)) 24);refine⟨hb,?_,?_,hD.below (z00 zb _),fun g hg => ?_⟩
  ·rw[heap_alloc_old _ _ (by simp)];exact heap_alloc_new w _
  ·have:=heap_alloc_new (w.alloc (.cells (uL (0,0,0,0)) 24)) (.cells (uL (0,0,0,0)) 24)
   rwa [World.size_alloc]at this
  ·rcases h0.2 with⟨h1,h2⟩ | ⟨g',h1,h2⟩
   ·rw[h1]at hg;cases hg
   ·rw[h1]at hg;cases hg;cases ds with
    | nil=>exact .inr z3w
    | cons d ds=>exact .inl (World.block_lt_of_cell? w _ (h2 0 d rfl))
 have hN:=z0j (z04 ds);have hO:=z1h (z04 ds);have hL8:(digs (z04 ds)).length<=8↔z04 ds<W256:=by
  have e:BP 8=W256:=by decide
  rw[<- e];exact⟨z6p,z3a⟩
 have hLm:(digs (z04 ds)).length<1000000:=by
  have:(digs (z04 ds)).length<=ds.length:=z3a (z2j hd);omega
 generalize z04 ds=n at *
 generalize digs n=es at *
 subst hN;clear h hd hs
 by_cases h8:es.length<=8
 ·have hlt:=hL8.1 h8;have HE:Hid (Ending.returned (.tuple #[uV (uOf (z04 es)),.bool true])=Ending.returned (.tuple #[uV (toW (z04 es)),.bool (toB (z04 es))])):=by
   unfold toW toB;rw[if_pos hlt,decide_eq_true hlt];exact zh rfl
  have hd8:decide ((8:Int)<((es.length:Nat):Int))=false:=decide_eq_false (by omega);have hd82:decide (8<es.length)=false:=decide_eq_false (by omega);clear hL8 hlt hLm;go_enter Tryz.func110,Tryz.ntmps110;go_wp2_with fail;refine zm HTr.out ?_;rintro e w1 ⟨⟨ad,c,rfl,hT⟩,rfl⟩;have HT:=zh hT;clear hT HTr;go_wp2_with fail
  go_loopw [15] (fun iv wr=>∃ i:Nat,iv= .int .i64 i/\i<=es.length/\TAt w (uOf (z04 (es.take i))) ad es c wr) (fun iv _=>es.length-(intOf iv).toNat)
  case atStart=>exact⟨0,rfl,by omega,by rw[List.take_zero];exact HT.out⟩
  case round =>
   obtain⟨i,rfl,hi,hA⟩:=hrel;have HA:=zh hA;clear hA HT
   by_cases hil:i<es.length
   ·obtain⟨d,hdi⟩:∃ d,es[i]?=some d:=⟨_,List.getElem?_eq_getElem hil⟩;obtain⟨g,had,hcell⟩:=HA.out.d.at hdi;have hidx:=z1s (c:=c) had hil;have hdl:=hO.at hdi;have hNl:z04 (es.take i)<BP i:=by
     have:=z2j (hO.take i)
     rwa [List.length_take,Nat.min_eq_left hi]at this
    obtain⟨t1,t2,t3⟩:=zss (i:=i) (by omega) hNl hdl;rw[<- z2w hdi]at t3;have h4:i/2<4:=by omega
    have cO:wr.cell? ⟨w.heap.size+1,i/2,none⟩=some (.int .u64 ((uOf (z04 (es.take i))).at (i/2))):=by rw[cell_of_row _ _ _ _ _ _ HA.out.o];exact z4v _ _ h4
    have fO:wr.frozen? ⟨w.heap.size+1,i/2,none⟩=false:=frozen_of_row _ _ _ _ _ HA.out.o;have hP:=HA.out.put (i/2) ((uOf (z04 (es.take i))).at (i/2)+d*2 ^ (32*(i%2))) h4;rw[t3]at hP;have HP:=zh hP;clear hP had hdi hNl t3;have hor:bits .or .u64 (((uOf (z04 (es.take i))).at (i/2):Nat):Int) (IntKind.u64.wrap ((d:Int)*2 ^ (32*(i%2))))=(((uOf (z04 (es.take i))).at (i/2)+d*2 ^ (32*(i%2)):Nat):Int):=by
     have hc:(d:Int)*2 ^ (32*(i%2))=((d*2 ^ (32*(i%2)):Nat):Int):=by simp
     rw[hc,zj4 (by omega),bits_or_u64_nat _ _ (by omega) (by omega),t2]
    have HOr:=zh hor;clear hor t1 t2;go_wp2_with fail;go_roundw
    case rel=>exact⟨i+1,by go_num,by omega,by rw[HOr.out];exact HP.out⟩
    case measure=>simp[intOf];omega
   ·obtain rfl:i=es.length:=by omega
    obtain⟨o0,o1,o2,o3,_⟩:=row4 HA.out.o;obtain⟨_,_,_,_,r0,r1,r2,r3⟩:=row4 HA.out.r;have hfl:es.take es.length=es:=List.take_length;rw[hfl]at o0 o1 o2 o3;have hdn:decide (((es.length:Nat):Int)<((es.length:Nat):Int))=false:=decide_eq_false (by omega);have hdn2:decide (es.length<es.length)=false:=decide_eq_false (by omega);clear hfl;go_wp2_with fail;refine bodyPost_ret (z03 rfl _ _ w.heap.size 24 (uL (uOf (z04 es))) (0,0) _ rfl (put4 HA.out.r _) Tryz.underlying24 rfl (by kernel_rfl)) rfl ?_;exact⟨HE.out,z0f HA.out.b (by omega) _ _ _ _⟩
 ·have hnlt:¬ z04 es<W256:=fun h=>h8 (hL8.2 h)
  have HE:Hid (Ending.returned (.tuple #[uV (0,0,0,0),.bool false])=Ending.returned (.tuple #[uV (toW (z04 es)),.bool (toB (z04 es))])):=by
   unfold toW toB;rw[if_neg hnlt,decide_eq_false hnlt];exact zh rfl
  have hd8:decide ((8:Int)<((es.length:Nat):Int))=true:=decide_eq_true (by omega);have hd82:decide (8<es.length)=true:=decide_eq_true (by omega);have hrow:=heap_alloc_new w (.cells (uL (0,0,0,0)) 24);have HRo:=zh hrow;have HBo:=zh (z00 (Below.refl _ w) (.cells (uL (0,0,0,0)) 24));clear hL8 hnlt hLm hrow;go_enter Tryz.func110,Tryz.ntmps110;go_wp2_with fail;refine zm HTr.out ?_;rintro e w1 ⟨⟨ad,c,rfl,hT⟩,rfl⟩;clear hT HTr;go_wp2_with fail;refine bodyPost_ret (z03 rfl _ _ w.heap.size 24 (uL (0,0,0,0)) (0,0) _ rfl HRo.out Tryz.underlying24 rfl (by kernel_rfl)) rfl ?_;exact⟨HE.out,HBo.out⟩
def cmpN(a b:Nat):Int:=if a<b then -1 else if b<a then 1 else 0
theorem zew{a b:List Nat}(hl:a.length=b.length){k:Nat}(h:∀ j,k<=j->j<a.length->a[j]?=b[j]?):a.drop k=b.drop k:=by
 apply List.ext_getElem?;intro j;rw[List.getElem?_drop,List.getElem?_drop]
 by_cases hj:k+j<a.length
 ·exact h _ (by omega) hj
 ·rw[List.getElem?_eq_none (by omega),List.getElem?_eq_none (by omega)]
theorem zbh(w:World)(va vb:Value)(da db:List Nat)(ha:DOk da)(hb:DOk db)(hla:da.length<1000000)(hlb:db.length<1000000)(hA:DgAt w va da)(hB:DgAt w vb db):Calls Tryz.prog 56 #[va,vb] w fun e w'=>e= .returned (.int .i64 (cmpN (z04 da) (z04 db)))/\Below w.heap.size w w':=by
 obtain⟨aa,ca,rfl,hA⟩:=hA;obtain⟨ab,cb,rfl,hB⟩:=hB;have HT1:=zh (z8y w aa ca da ha hla hA);have HT2:=zh (z8y w ab cb db hb hlb hB);have hoa:=z1h (z04 da);have hob:=z1h (z04 db);have HL:Hid ((digs (z04 da)).length<(digs (z04 db)).length->cmpN (z04 da) (z04 db) = -1):=fun h=>by
  have:=zd8 h;unfold cmpN;rw[if_pos this]
 have HG:Hid ((digs (z04 db)).length<(digs (z04 da)).length->cmpN (z04 da) (z04 db)=1):=fun h=>by
  have:=zd8 h;unfold cmpN;rw[if_neg (by omega),if_pos this]
 have HTop:Hid ((digs (z04 da)).length=(digs (z04 db)).length->∀ (k x y:Nat),(digs (z04 da))[k]?=some x->(digs (z04 db))[k]?=some y->(∀ j,k+1<=j->j<(digs (z04 da)).length->(digs (z04 da))[j]? = (digs (z04 db))[j]?)->(x<y->cmpN (z04 da) (z04 db) = -1)/\(y<x->cmpN (z04 da) (z04 db)=1)):=fun hl k x y hx hy h=>by
  have hdr:=zew hl h;refine⟨fun hlt => ?_,fun hlt => ?_⟩
  ·have:=zoj hoa hl hx hy hdr hlt;rw[z0j,z0j]at this;unfold cmpN;rw[if_pos this]
  ·have:=zoj hob hl.symm hy hx hdr.symm hlt;rw[z0j,z0j]at this;unfold cmpN;rw[if_neg (by omega),if_pos this]
 have HEq:Hid ((digs (z04 da)).length=(digs (z04 db)).length->(∀ j,0<=j->j<(digs (z04 da)).length->(digs (z04 da))[j]? = (digs (z04 db))[j]?)->cmpN (z04 da) (z04 db)=0):=fun hl h=>by
  have:=zew hl h;simp only[List.drop_zero]at this;have:=zs6 this;unfold cmpN;rw[if_neg (by omega),if_neg (by omega)]
 have hsa:(digs (z04 da)).length<1000000:=Nat.lt_of_le_of_lt (z3a (z2j ha)) hla;have hsb:(digs (z04 db)).length<1000000:=Nat.lt_of_le_of_lt (z3a (z2j hb)) hlb;clear ha hb hA hB hoa hob;generalize cmpN (z04 da) (z04 db)=r at *
 generalize digs (z04 da)=ea at *
 generalize digs (z04 db)=eb at *
 go_enter Tryz.func56,Tryz.ntmps56;go_wp2_with fail;refine zm HT1.out ?_;rintro e w1 ⟨⟨rfl,hA⟩,rfl⟩;go_wp2_with fail;refine zm HT2.out ?_;rintro e w1 ⟨⟨rfl,hB⟩,rfl⟩;have HA:=zh hA;have HB:=zh hB;clear hA hB HT1 HT2
 by_cases hl:ea.length=eb.length
 ·have hne:(((ea.length:Nat):Int)==((eb.length:Nat):Int))=true:=beq_iff_eq.2 (by omega);have hne2:(((ea.length:Nat):Int) != ((eb.length:Nat):Int))=false:=by rw[bne,hne];rfl
  have hne3:(ea.length==eb.length)=true:=beq_iff_eq.2 hl;have hne4:(ea.length != eb.length)=false:=by rw[bne,hne3];rfl
  have HTop2:=zh (HTop.out hl);have HEq2:=zh (HEq.out hl);have HLn:=zh hl;clear HL HG HTop HEq hl;go_wp2_with fail
  go_loopw [5] (fun iv wr=>∃ k:Nat,iv= .int .i64 ((k:Int)-1)/\k<=ea.length/\(∀ j,k<=j->j<ea.length->ea[j]?=eb[j]?)/\DgIn wr aa ea ca/\DgIn wr ab eb cb/\Below w.heap.size w wr) (fun iv _=>(intOf iv+1).toNat)
  case atStart=>exact⟨ea.length,rfl,Nat.le_refl _,fun j h1 h2=>by omega,HA.out,HB.out,Below.refl _ _⟩
  case round =>
   obtain⟨k,rfl,hk,hj,hA,hB,hb⟩:=hrel;have HJ:=zh hj;have HA2:=zh hA;have HB2:=zh hB;have HBl:=zh hb;clear hj hA hB hb HA HB;cases k with
   | zero =>
    have HR:=zh (HEq2.out HJ.out);clear HEq2 HTop2 HJ;go_wp2_with fail;go_ret;exact⟨by rw[HR.out];rfl,HBl.out⟩
   | succ k =>
    have hz:((k+1:Nat):Int)-1=(k:Int):=by omega
    have hkl:k<ea.length:=by omega
    obtain⟨x,hx⟩:∃ x,ea[k]?=some x:=⟨_,List.getElem?_eq_getElem hkl⟩;obtain⟨y,hy⟩:∃ y,eb[k]?=some y:=⟨_,List.getElem?_eq_getElem (by rw[<- HLn.out];exact hkl)⟩;obtain⟨g,hga,hcx⟩:=HA2.out.at hx;obtain⟨f,hfb,hcy⟩:=HB2.out.at hy;have hix:=z1s (c:=ca) hga hkl;have hiy:=z1s (c:=cb) hfb (show k<eb.length by rw[<- HLn.out];exact hkl);have HT3:=zh (HTop2.out k x y hx hy HJ.out);have HXY:Hid (ea[k]?=some x/\eb[k]?=some y):=⟨hx,hy⟩;rw[hz];clear hx hy hga hfb HTop2 HEq2 hz
    by_cases hxy:x=y
    ·have b1:(((x:Nat):Int)==((y:Nat):Int))=true:=beq_iff_eq.2 (by omega);have b2:(((x:Nat):Int) != ((y:Nat):Int))=false:=by rw[bne,b1];rfl
     have b3:(x==y)=true:=beq_iff_eq.2 hxy;have b4:(x != y)=false:=by rw[bne,b3];rfl
     have HE:=zh hxy;clear hxy HT3;go_wp2_with fail
     go_region
     all_goals
      go_wp2_with fail;go_roundw
      case rel=>exact⟨k,by go_num,by omega,fun j h1 h2=>(by
       by_cases e:j=k
       ·subst e;rw[HXY.out.1,HXY.out.2,HE.out]
       ·exact HJ.out j (by omega) h2),HA2.out.below (z0h zb),HB2.out.below (z0h zb),z0h HBl.out⟩
      case measure=>simp[intOf]
    ·have b1:(((x:Nat):Int)==((y:Nat):Int))=false:=beq_eq_false_iff_ne.2 (by omega);have b2:(((x:Nat):Int) != ((y:Nat):Int))=true:=by rw[bne,b1];rfl
     have b3:(x==y)=false:=beq_eq_false_iff_ne.2 hxy;have b4:(x != y)=true:=by rw[bne,b3];rfl
     by_cases hlt:x<y
     ·have HR:=zh (HT3.out.1 hlt);have c1:decide (((x:Nat):Int)<((y:Nat):Int))=true:=decide_eq_true (by omega);have c2:decide (x<y)=true:=decide_eq_true hlt;clear hxy HT3 hlt;go_wp2_with fail
      go_region
      all_goals
       go_wp2_with fail
       go_region
       all_goals
        go_wp2_with fail;go_ret;exact⟨by rw[HR.out];rfl,z0h (z0h HBl.out)⟩
     ·have HR:=zh (HT3.out.2 (by omega));have c1:decide (((x:Nat):Int)<((y:Nat):Int))=false:=decide_eq_false (by omega);have c2:decide (x<y)=false:=decide_eq_false hlt;clear hxy HT3 hlt;go_wp2_with fail
      go_region
      all_goals
       go_wp2_with fail
       go_region
       all_goals
        go_wp2_with fail;go_ret;exact⟨by rw[HR.out];rfl,z0h (z0h HBl.out)⟩
 ·have hne:(((ea.length:Nat):Int)==((eb.length:Nat):Int))=false:=beq_eq_false_iff_ne.2 (by omega);have hne2:(((ea.length:Nat):Int) != ((eb.length:Nat):Int))=true:=by rw[bne,hne];rfl
  have hne3:(ea.length==eb.length)=false:=beq_eq_false_iff_ne.2 hl;have hne4:(ea.length != eb.length)=true:=by rw[bne,hne3];rfl
  by_cases hlt:ea.length<eb.length
  ·have HR:=zh (HL.out hlt);have c1:decide (((ea.length:Nat):Int)<((eb.length:Nat):Int))=true:=decide_eq_true (by omega);have c2:decide (ea.length<eb.length)=true:=decide_eq_true hlt;clear HL HG HTop HEq hl hlt HA HB;go_wp2_with fail;go_ret;exact⟨by rw[HR.out];rfl,Below.refl _ _⟩
  ·have HR:=zh (HG.out (by omega));have c1:decide (((ea.length:Nat):Int)<((eb.length:Nat):Int))=false:=decide_eq_false (by omega);have c2:decide (ea.length<eb.length)=false:=decide_eq_false hlt;clear HL HG HTop HEq hl hlt HA HB;go_wp2_with fail;go_ret;exact⟨by rw[HR.out];rfl,Below.refl _ _⟩
end Go.Proofs.YtnkilceibkkjlaaGreat
