/- What is proved here: the reference's Num: the eight bytes -/
import Derived.Test.YtnkilceibkkjlaaGreatKNum
set_option maxRecDepth 100000
set_option maxHeartbeats 16000000
namespace Go.Proofs.YtnkilceibkkjlaaGreat
open Go.RowKit
theorem z4g:z1j Tryz.prog 209 5 (.int .u8 0) 1 1:=⟨by kernel_rfl,by kernel_rfl,rfl,by decide⟩
def bytesV(l:List UInt8):List Value:=l.map fun (b:UInt8)=>Value.int .u8 (b.toNat:Int)
theorem zaf(l:List UInt8):(bytesV l).length=l.length:=List.length_map _
theorem zao:∀ (l:List UInt8) (s:ByteArray),(l.map (fun (b:UInt8)=>(b.toNat:Int))).foldl (fun r n=>r.push (UInt8.ofNat n.toNat)) s=⟨(s.data.toList++l).toArray⟩
 | [],s=>by cases s;simp
 | x::l,s=>by
  simp only[List.map_cons,List.foldl_cons]
  rw[zao l]
  cases s
  simp[ByteArray.push]
theorem z7t{w:World}{g n c:Nat}{l:List UInt8}(h:Own w 5 1 (.slice (some ⟨g,0,none⟩) n c) n (bytesV l)) :
  (convert 209 9 (.slice (some ⟨g,0,none⟩) n c)).run Tryz.prog w= .ok (.string ⟨l.toArray⟩) w:=by
 have hl:l.length=n:=by have:=h.1;rw[zaf]at this;omega
 rw[run_convert_bytes_string _ _ _ 5 _ _ _ (by kernel_rfl) (by kernel_rfl) (by kernel_rfl)];rw[run_bytesToString _ _ n c (l.map (fun (b:UInt8)=>(b.toNat:Int)))]
 ·rw[zao];simp
 ·have:=run_loadCells_list (P:=Tryz.prog) w ⟨g,0,none⟩ (bytesV l) (fun j v hj=>h.cells (g:=g) rfl j v hj);rw[zaf,hl]at this
  simpa [bytesV,Function.comp_def]using this
theorem z1r(w:World)(x:Value)(t:TypeId):∀ j u,[x][j]?=some u->(w.alloc (.cells #[x] t)).cell? ((⟨w.heap.size,0,none⟩:Addr).add j)=some u:=fun j u hj=>by
 rw[Addr.add_lit,cell_of_row _ _ _ _ _ _ (heap_alloc_new w _)]
 simpa using hj
theorem z9q(x:Int):∀ u∈[Value.int .u8 x],u.oneCell'=true:=by intro u hu;rw[List.mem_singleton.1 hu];rfl
def zji(w:World)(n k:Nat)(v:Value)(wr:World):Prop:=Own wr 5 1 v k (bytesV ((be8 n).take k))/\(∀ g,v.ownBlock=some g->w.heap.size<=g)/\Below w.heap.size w wr
theorem zji.next{w:World}{n k:Nat}{v:Value}{wr:World}(h:zji w n k v wr)(b:Int)(hb:(be8 n)[k]?.map (fun (b:UInt8)=>(b.toNat:Int))=some b) :
  ∃ xs,Own (wr.alloc (.cells #[.int .u8 b] 5)) 5 1 v k xs/\∀ v' w',z0s (wr.alloc (.cells #[.int .u8 b] 5)) 5 1 v k 1 xs [.int .u8 b] v' w'->zji w n (k+1) v' w':=by
 obtain⟨h1,h2,h3⟩:=h;refine⟨_,h1.fr ((Fr.refl (fun _=>False) wr).alloc _) (fun _ _=>id),fun v' w' hA=>⟨?_,?_,?_⟩⟩
 ·have:=hA.own;obtain⟨x,hx,rfl⟩:=Option.map_eq_some_iff.1 hb;rw[List.take_add_one,hx]
  simpa [bytesV]using this
 ·intro g hg;rcases hA.block g hg with h | h
  ·exact h2 g h
  ·have:=h3.size;simp at h;omega
 ·exact(h3.alloc h3.size _).grown hA.grown (Nat.le_trans h3.size (by simp)) h2
theorem zji.done{w:World}{n:Nat}{v:Value}{wr:World}(h:zji w n 8 v wr):∃ g c,v= .slice (some ⟨g,0,none⟩) 8 c/\(convert 209 9 (.slice (some ⟨g,0,none⟩) 8 c)).run Tryz.prog wr= .ok (.string (numB n)) wr/\Below w.heap.size w wr:=by
 obtain⟨h1,h2,h3⟩:=h;have h4:=h1;rcases h1.2 with⟨_,h0⟩ | ⟨g,c,cur,rfl,_⟩
 ·omega
 ·exact⟨g,c,rfl,by rw[z7t h4];rfl,h3⟩
theorem zff(n:Nat)(w:World)(hn:n<9223372036854775808) :
  Calls Tryz.prog 166 #[.int .i64 n] w fun e w'=>e= .returned (.string (numB n))/\Below w.heap.size w w':=by
 have H0:Hid (zji w n 0 (.slice none 0 0) w):=⟨Own.nil _ _ _,fun g hg=>by simp[Value.ownBlock]at hg,Below.refl _ _⟩;have hn0:decide ((n:Int)<0)=false:=by simp
 go_enter Tryz.func166,Tryz.ntmps166;go_wp2_with fail
 go_loopw [3,4] (fun v i wr=>∃ k:Nat,k<=8/\i= .int .i64 (7-(k:Int))/\zji w n k v wr) (fun _ i _=>(intOf i+1).toNat)
 case atStart=>exact⟨0,by omega,rfl,H0.out⟩
 case round =>
  obtain⟨k,hk,rfl,hN⟩:=hrel;have HN:=zh hN;clear hN H0;rcases(by omega:k=0\/k=1\/k=2\/k=3\/k=4\/k=5\/k=6\/k=7\/k=8)with rfl | rfl | rfl | rfl | rfl | rfl | rfl | rfl | rfl
  ·obtain⟨xs,ho,hst⟩:=HN.out.next ((n:Int)/72057594037927936) (by simp[be8,oct8]<;>omega);have HO:=zh ho;have HST:=zh hst;clear ho hst;go_wp2_with (at_builtin;refine z08 rfl _ _ 209 209 rfl z4g z4g _ 0 xs rfl HO.out _ 1 _ [.int .u8 ((n:Int)/72057594037927936)] rfl rfl (z1r _ _ _) (z9q _) (by decide) (by decide) ?_);intro v' w' hA;have HR:=zh (HST.out v' w' hA);clear hA;go_wp2;go_roundw
   case rel=>exact⟨1,by omega,by first | rfl | go_num,HR.out⟩
   case measure=>simp[intOf]
  ·obtain⟨xs,ho,hst⟩:=HN.out.next ((n:Int)/281474976710656%256) (by simp[be8,oct8]<;>omega);have HO:=zh ho;have HST:=zh hst;clear ho hst;go_wp2_with (at_builtin;refine z08 rfl _ _ 209 209 rfl z4g z4g _ 1 xs rfl HO.out _ 1 _ [.int .u8 ((n:Int)/281474976710656%256)] rfl rfl (z1r _ _ _) (z9q _) (by decide) (by decide) ?_);intro v' w' hA;have HR:=zh (HST.out v' w' hA);clear hA;go_wp2;go_roundw
   case rel=>exact⟨2,by omega,by first | rfl | go_num,HR.out⟩
   case measure=>simp[intOf]
  ·obtain⟨xs,ho,hst⟩:=HN.out.next ((n:Int)/1099511627776%256) (by simp[be8,oct8]<;>omega);have HO:=zh ho;have HST:=zh hst;clear ho hst;go_wp2_with (at_builtin;refine z08 rfl _ _ 209 209 rfl z4g z4g _ 2 xs rfl HO.out _ 1 _ [.int .u8 ((n:Int)/1099511627776%256)] rfl rfl (z1r _ _ _) (z9q _) (by decide) (by decide) ?_);intro v' w' hA;have HR:=zh (HST.out v' w' hA);clear hA;go_wp2;go_roundw
   case rel=>exact⟨3,by omega,by first | rfl | go_num,HR.out⟩
   case measure=>simp[intOf]
  ·obtain⟨xs,ho,hst⟩:=HN.out.next ((n:Int)/4294967296%256) (by simp[be8,oct8]<;>omega);have HO:=zh ho;have HST:=zh hst;clear ho hst;go_wp2_with (at_builtin;refine z08 rfl _ _ 209 209 rfl z4g z4g _ 3 xs rfl HO.out _ 1 _ [.int .u8 ((n:Int)/4294967296%256)] rfl rfl (z1r _ _ _) (z9q _) (by decide) (by decide) ?_);intro v' w' hA;have HR:=zh (HST.out v' w' hA);clear hA;go_wp2;go_roundw
   case rel=>exact⟨4,by omega,by first | rfl | go_num,HR.out⟩
   case measure=>simp[intOf]
  ·obtain⟨xs,ho,hst⟩:=HN.out.next ((n:Int)/16777216%256) (by simp[be8,oct8]<;>omega);have HO:=zh ho;have HST:=zh hst;clear ho hst;go_wp2_with (at_builtin;refine z08 rfl _ _ 209 209 rfl z4g z4g _ 4 xs rfl HO.out _ 1 _ [.int .u8 ((n:Int)/16777216%256)] rfl rfl (z1r _ _ _) (z9q _) (by decide) (by decide) ?_);intro v' w' hA;have HR:=zh (HST.out v' w' hA);clear hA;go_wp2;go_roundw
   case rel=>exact⟨5,by omega,by first | rfl | go_num,HR.out⟩
   case measure=>simp[intOf]
  ·obtain⟨xs,ho,hst⟩:=HN.out.next ((n:Int)/65536%256) (by simp[be8,oct8]<;>omega);have HO:=zh ho;have HST:=zh hst;clear ho hst;go_wp2_with (at_builtin;refine z08 rfl _ _ 209 209 rfl z4g z4g _ 5 xs rfl HO.out _ 1 _ [.int .u8 ((n:Int)/65536%256)] rfl rfl (z1r _ _ _) (z9q _) (by decide) (by decide) ?_);intro v' w' hA;have HR:=zh (HST.out v' w' hA);clear hA;go_wp2;go_roundw
   case rel=>exact⟨6,by omega,by first | rfl | go_num,HR.out⟩
   case measure=>simp[intOf]
  ·obtain⟨xs,ho,hst⟩:=HN.out.next ((n:Int)/256%256) (by simp[be8,oct8]<;>omega);have HO:=zh ho;have HST:=zh hst;clear ho hst;go_wp2_with (at_builtin;refine z08 rfl _ _ 209 209 rfl z4g z4g _ 6 xs rfl HO.out _ 1 _ [.int .u8 ((n:Int)/256%256)] rfl rfl (z1r _ _ _) (z9q _) (by decide) (by decide) ?_);intro v' w' hA;have HR:=zh (HST.out v' w' hA);clear hA;go_wp2;go_roundw
   case rel=>exact⟨7,by omega,by first | rfl | go_num,HR.out⟩
   case measure=>simp[intOf]
  ·obtain⟨xs,ho,hst⟩:=HN.out.next ((n:Int)%256) (by simp[be8,oct8]<;>omega);have HO:=zh ho;have HST:=zh hst;clear ho hst;go_wp2_with (at_builtin;refine z08 rfl _ _ 209 209 rfl z4g z4g _ 7 xs rfl HO.out _ 1 _ [.int .u8 ((n:Int)%256)] rfl rfl (z1r _ _ _) (z9q _) (by decide) (by decide) ?_);intro v' w' hA;have HR:=zh (HST.out v' w' hA);clear hA;go_wp2;go_roundw
   case rel=>exact⟨8,by omega,by first | rfl | go_num,HR.out⟩
   case measure=>simp[intOf]
  ·obtain⟨g,c,rfl,hcv,hb⟩:=HN.out.done
   have HB:=zh hb;clear hb;go_wp2;go_ret;exact⟨rfl,HB.out⟩
theorem zcn(s:ByteArray)(hs:s.size<1000000000000)(w:World):Calls Tryz.prog 167 #[.string s] w (z1w w (numsL s.data.toList)):=by
 have h0:z7i w s.data.toList (numsL s.data.toList) 0 (.slice none 0 0) w:=⟨[],z7d.start _,Own.nil _ _ _,fun g hg=>by simp[Value.ownBlock]at hg,Below.refl _ _⟩;have hl:s.data.toList.length=s.size:=rfl;have hm:=zi7 s.data.toList
 by_cases hmod:s.size%8=0
 ·have HL:=zh hl;clear hl;have HE:Hid (∀ e w',z1w w (numsL s.data.toList) e w'->z1w w (numsL s.data.toList) e w'):=fun _ _ h=>h
  generalize numsL s.data.toList=R at *
  have H0:=zh h0;clear h0 HE;have hmd:(((s.size:Int)%8) != 0)=false:=by rw[bne_eq_false_iff_eq];omega
  go_enter Tryz.func167,Tryz.ntmps167;go_wp2_with fail
  go_loopw [4,5] (fun v a wr=>∃ k:Nat,a= .int .i64 (8*(k:Int))/\8*k<=s.size/\z7i w s.data.toList R k v wr) (fun _ a _=>s.size-(intOf a).toNat)
  case atStart=>exact⟨0,rfl,by omega,H0.out⟩
  case round =>
   obtain⟨k,rfl,hk,hN⟩:=hrel;have HN:=zh hN;clear hN H0
   by_cases hlt:8*k<s.size
   ·have hk8:8*k+8<=s.size:=by omega
    have hdk:decide (8*(k:Int)<(s.size:Int))=true:=by simp;omega
    go_wp2_with fail
    go_loop [6,7] (fun x c=>∃ i:Nat,i<=8/\c= .int .i64 i/\x= .int .u64 (be ((s.data.toList.drop (8*k)).take i):Nat)) (fun _ c=>8-(intOf c).toNat)
    case atStart=>exact⟨0,by omega,rfl,rfl⟩
    case round =>
     obtain⟨i,hi,rfl,rfl⟩:=hrel
     by_cases hi8:i<8
     ·have HS:=zh (znj s.data.toList k i (by rw[HL.out];omega));have hsm:=zk3 (s.data.toList.drop (8*k)) i hi8;generalize be ((s.data.toList.drop (8*k)).take i)=x at *
      have hlti:8*k+i<s.size:=by omega
      go_wp2
      go_round
      case rel=>exact⟨i+1,by omega,by go_num,by rw[zos x _ hsm (UInt8.toNat_lt _),HS.out];rfl⟩
      case measure=>simp[intOf];omega
     ·obtain rfl:i=8:=by omega
      have hx64:=zgr (s.data.toList.drop (8*k));obtain⟨xs,ho,hstep⟩:=HN.out.own;have hno:=HN.out.no (by rw[HL.out];omega);have hl8:8*k+8<=s.data.toList.length:=by rw[HL.out];omega
      generalize be ((s.data.toList.drop (8*k)).take 8)=x at *
      have HO:=zh ho;have HST:=zh hstep;have HNO:=zh hno;have HL8:=zh hl8;clear ho hstep hno hl8;have hone:∀ u∈[Value.int .i64 (x:Int)],u.oneCell'=true:=by intro u hu;rw[List.mem_singleton.1 hu];rfl
      have hks:k<1000000000000:=by omega
      have hmx:k+1<=maxLen:=by unfold maxLen;omega
      by_cases hx:x<9223372036854775808
      ·have hsh:decide ((9223372036854775807:Int)<(x:Int))=false:=by simp;omega
       go_wp2_with (at_builtin;refine z08 rfl _ _ 75 75 rfl intT intT _ k xs rfl HO.out _ 1 _ [.int .i64 x] rfl rfl ?hnews hone hmx (by omega) ?_);intro v' w' hA;have HR:=zh (HST.out v' w' hx HL8.out hA);clear hA;go_wp2;go_roundw
       case rel=>exact⟨k+1,by go_num,by omega,HR.out⟩
       case measure=>simp[intOf];omega
      ·have hsh:decide ((9223372036854775807:Int)<(x:Int))=true:=by simp;omega
       have hR:=HNO.out hx;have HR:=zh hR;clear hR;go_wp2
       go_ret2
       exact HR.out
   ·have hdk:decide (8*(k:Int)<(s.size:Int))=false:=by simp;omega
    have HR:=zh (HN.out.yes (by rw[HL.out];omega));go_wp2
    go_ret2
    exact HR.out
 ·have HR:=zh (z1w.no (hm (by rw[hl];exact hmod)) (Below.refl w.heap.size w));have hmd:(((s.size:Int)%8) != 0)=true:=by rw[bne_iff_ne];omega
  generalize numsL s.data.toList=R at *
  clear hm h0 hl;go_enter Tryz.func167,Tryz.ntmps167;go_wp2
  go_ret2
  exact HR.out
def z7f(t:Nat)(l:List Int)(w:World)(k:Nat)(s:ByteArray)(wr:World):Prop:=k<=l.length/\(∀ n∈l.take k,¬ n<0)/\s=⟨(keyBytes t (l.take k)).toArray⟩/\Below w.heap.size w wr
theorem z7f.next{t:Nat}{l:List Int}{w:World}{k:Nat}{s:ByteArray}{wr:World}(h:z7f t l w k s wr){n:Nat}(hn:l[k]?=some (n:Int)):z7f t l w (k+1) (s++numB n) wr:=by
 obtain⟨h1,h2,rfl,h4⟩:=h;have hkl:k<l.length:=(List.getElem?_eq_some_iff.1 hn).1;refine⟨by omega,?_,?_,h4⟩
 ·rw[z2h l k _ hn];intro m hm;rcases List.mem_append.1 hm with hm | hm
  ·exact h2 m hm
  ·rw[List.mem_singleton.1 hm];omega
 ·rw[z2h l k _ hn,z9o];apply zhl;rw[show((⟨(keyBytes t (List.take k l)).toArray⟩:ByteArray)++numB n).data=(keyBytes t (List.take k l)).toArray++(numB n).data from ByteArray.data_append]
  simp[numB]
theorem ztm(t:Nat)(ht:t<=255)(w:World):(convert 209 9 (.slice (some ⟨w.heap.size,0,none⟩) 1 1)).run Tryz.prog (w.alloc (.cells #[.int .u8 t] 5))= .ok (.string ⟨#[UInt8.ofNat t]⟩) (w.alloc (.cells #[.int .u8 t] 5)):=by
 have e:(UInt8.ofNat t).toNat=t:=by simp;omega
 have h:Own (w.alloc (.cells #[.int .u8 t] 5)) 5 1 (.slice (some ⟨w.heap.size,0,none⟩) 1 1) 1 (bytesV [UInt8.ofNat t]):=by
  have:=Own.whole (w:=w.alloc (.cells #[.int .u8 t] 5)) (e:=5) (size:=1) (g:=w.heap.size) (n:=1) (xs:=[.int .u8 t]) rfl (heap_alloc_new w _) (by decide)
  simpa [bytesV,e]using this
 exact z7t h
theorem z7a(t:Nat)(ht1:1<=t)(ht2:t<=255)(v:Value)(l:List Int)(w:World)(hv:z0w w v l)(hl:l.length<1000000000)(hr:∀ n∈l,n<9223372036854775808) :
  Calls Tryz.prog 95 #[.int .i64 t,v] w fun e w'=>e= .returned (.string (keyL t l))/\Below w.heap.size w w':=by
 obtain⟨ad,c,hve⟩:∃ ad c,v= .slice ad l.length c:=by
  rcases hv with⟨rfl,rfl⟩ | ⟨a,c,h1,_⟩
  ·exact⟨none,0,rfl⟩
  ·exact⟨some a,c,h1⟩
 have HC:Hid (∀ wr k n s,z7f t l w k s wr->l[k]?=some n->∃ a,ad=some a/\wr.cell? (a.add k)=some (.int .i64 n)):=fun wr k n s hb0 hk=>by
  have hb:=hb0.2.2.2;rcases hv with⟨_,rfl⟩ | ⟨a,c',h1,h3⟩
  ·simp at hk
  ·have:ad=some a:=by rw[hve]at h1;cases h1;rfl
   exact⟨a,this,by rw[hb.cell (p:=a.add k) (World.block_lt_of_cell? w _ (h3 k n hk))];exact h3 k n hk⟩
 subst hve;clear hv;have hcv:=ztm t ht2 w;have H0:Hid (z7f t l w 0 ⟨#[UInt8.ofNat t]⟩ (w.alloc (.cells #[.int .u8 t] 5))):=⟨by omega,by simp,by simp[keyBytes],(Below.refl _ w).alloc (Nat.le_refl _) _⟩;have HN:Hid (∀ wr k s,z7f t l w k s wr->∀ n:Nat,l[k]?=some (n:Int)->Calls Tryz.prog 166 #[.int .i64 n] wr fun e w'=>e= .returned (.string (numB n))/\z7f t l w (k+1) (s++numB n) w'):=fun wr k s hk n hn=>by
  have hmem:(n:Int)∈l:=List.mem_of_getElem? hn;have hn2:=hr _ hmem;refine(zff n wr (by omega)).mono fun e w' ⟨he,hb⟩=>⟨he,?_⟩
  have:=hk.next hn;exact⟨this.1,this.2.1,this.2.2.1,this.2.2.2.trans (hb.mono this.2.2.2.size)⟩
 have HT:Hid (∀ wr s,z7f t l w l.length s wr->s=keyL t l/\Below w.heap.size w wr):=fun wr s hk=>by
  obtain⟨_,h1,h2,h3⟩:=hk;rw[List.take_length]at h1 h2;rw[z9k h1];exact⟨h2,h3⟩
 have HNEG:Hid (∀ wr k s n,z7f t l w k s wr->l[k]?=some n->n<0->(⟨#[]⟩:ByteArray)=keyL t l/\Below w.heap.size w wr):=fun wr k s n hk hn h=>⟨(zkn (List.mem_of_getElem? hn) h).symm,hk.2.2.2⟩
 have HSZ:Hid (∀ wr k s,z7f t l w k s wr->s.size<10000000000):=fun wr k s hk=>by
  rw[hk.2.2.1];show(keyBytes t (l.take k)).toArray.size<_
  rw[List.size_toArray,z4q,List.length_take];omega
 have hget:∀ k,k<l.length->∃ n,l[k]?=some n:=fun k hk=>⟨l[k],List.getElem?_eq_getElem hk⟩
 have HGET:=zh hget;have hln:(l.length:Int)<9223372036854775807:=by omega
 have d1:decide ((t:Int)<1)=false:=by simp;omega
 have d2:decide ((255:Int)<(t:Int))=false:=by simp;omega
 have ht8:(t:Int)<256:=by omega
 clear hget hr;generalize hm:l.length=m at *
 generalize keyL t l=key at *
 generalize hKT:z7f t l w=KT at *
 clear hKT;have HM:=zh hm;clear hm;go_enter Tryz.func95,Tryz.ntmps95;go_wp2_with fail
 go_loopw [5,20] (fun s i wr=>∃ (k:Nat) (b:ByteArray),i= .int .i64 k/\s= .string b/\k<=m/\KT k b wr) (fun _ i _=>m-(intOf i).toNat)
 case atStart=>exact⟨0,_,rfl,rfl,by omega,H0.out⟩
 case round =>
  obtain⟨k,b,rfl,rfl,hk,hN⟩:=hrel;have HK:=zh hN;have hsz:=HSZ.out _ _ _ hN;clear hN H0
  by_cases hlt:k<m
  ·obtain⟨n,hn⟩:=HGET.out k hlt;obtain⟨a,rfl,hc⟩:=HC.out wr k n b HK.out hn;have HNk:=zh hn;clear hn
   by_cases hneg:n<0
   ·have hd:decide (n<0)=true:=by simpa using hneg
    have hE:=HNEG.out wr k b n HK.out HNk.out hneg;have HE:=zh hE;clear hE;go_wp2;go_ret;exact⟨zis HE.out.1,HE.out.2⟩
   ·obtain⟨n,rfl⟩:=Int.eq_ofNat_of_zero_le (Int.not_lt.1 hneg);have hd:decide ((n:Int)<0)=false:=by simp
    clear hneg;go_wp2_with fail;refine(HN.out wr k b HK.out n HNk.out).mono ?_;rintro e w2 ⟨rfl,hK2⟩;have HK2:=zh hK2;clear hK2 HSZ;have hs8:(numB n).size=8:=rfl;go_wp2_with fail;refine⟨⟨k+1,_,?_,rfl,?_,HK2.out⟩,?_⟩
    ·go_num
    ·omega
    ·simp[intOf];omega
  ·obtain rfl:k=m:=by omega
   have hE:=HT.out _ _ HK.out;have HE:=zh hE;clear hE;go_wp2;go_ret;exact⟨zis HE.out.1,HE.out.2⟩
theorem zmc(w:World)(l:List Int):z0w (w.alloc (.cells (l.map fun n=>Value.int .i64 n).toArray 3)) (.slice (some ⟨w.heap.size,0,none⟩) l.length l.length) l:=by
 refine .inr ⟨⟨w.heap.size,0,none⟩,l.length,rfl,fun j x hj => ?_⟩;rw[Addr.add_lit,cell_of_row _ _ _ _ _ _ (heap_alloc_new w _)];simp[hj]
theorem zqp(t:Nat)(ht1:1<=t)(ht2:t<=255)(l:List Int)(hl:l.length<1000000000)(hr:∀ n∈l,n<9223372036854775808)(w:World) :
  Calls Tryz.prog 95 #[.int .i64 t,.slice (some ⟨w.heap.size,0,none⟩) l.length l.length] (w.alloc (.cells (l.map fun n=>Value.int .i64 n).toArray 3)) fun e w'=>e= .returned (.string (keyL t l))/\Below w.heap.size w w':=
 (z7a t ht1 ht2 _ l _ (zmc w l) hl hr).mono fun _ _ ⟨he,hb⟩=>⟨he,((Below.refl _ w).alloc (Nat.le_refl _) _).trans (hb.mono (by simp))⟩
theorem zk8(t:Nat)(ht1:1<=t)(ht2:t<=255)(w:World):Calls Tryz.prog 90 #[.int .i64 t,.slice none 0 0] w fun e w'=>e= .returned (.string (keyL t []))/\Below w.heap.size w w':=
 z5g t ht1 ht2 _ [] w (.inl ⟨rfl,rfl⟩) (by simp) (by simp)
theorem zde(t:Nat)(ht1:1<=t)(ht2:t<=255)(w:World):Calls Tryz.prog 95 #[.int .i64 t,.slice none 0 0] w fun e w'=>e= .returned (.string (keyL t []))/\Below w.heap.size w w':=
 z7a t ht1 ht2 _ [] w (.inl ⟨rfl,rfl⟩) (by simp) (by simp)
theorem zi8(t:Nat)(ht1:1<=t)(ht2:t<=255)(a b:Int)(ha:a<9223372036854775808)(hb:b<9223372036854775808)(w:World):Calls Tryz.prog 95 #[.int .i64 t,.slice (some ⟨w.heap.size,0,none⟩) 2 2] (w.alloc (.cells #[.int .i64 a,.int .i64 b] 3)) fun e w'=>e= .returned (.string (keyL t [a,b]))/\Below w.heap.size w w':=
 zqp t ht1 ht2 [a,b] (by simp) (by simp[ha,hb]) w
end Go.Proofs.YtnkilceibkkjlaaGreat
