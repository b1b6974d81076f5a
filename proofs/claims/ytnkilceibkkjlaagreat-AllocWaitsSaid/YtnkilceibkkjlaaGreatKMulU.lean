/- What is proved here: amounts as bytes. a new row of an am -/
import Derived.Laws.BytesString
import Derived.Laws.IdiomStrings
import Derived.Test.YtnkilceibkkjlaaGreatKMulP
set_option maxRecDepth 100000
set_option maxHeartbeats 16000000
namespace Go.Proofs.YtnkilceibkkjlaaGreat
open Go.RowKit
def z99(x:W4)(i:Nat):UInt8:=UInt8.ofNat (x.at ((31-i)/8)/2 ^ (8*((31-i)%8)))
def amtL(x:W4):List UInt8:=(List.range 32).map (z99 x)
def amtB(x:W4):ByteArray:=⟨(amtL x).toArray⟩
def outA(x:W4)(i:Nat):Array Value:=((List.range 32).map fun j=>if j<i then Value.int .u8 ((z99 x j).toNat:Int)else .int .u8 0).toArray
theorem znv(x:W4):outA x 0=(List.replicate 32 (Value.int .u8 0)).toArray:=rfl
theorem zjf(x:W4)(i j:Nat)(hj:j<32):(outA x i)[j]?=some (if j<i then Value.int .u8 ((z99 x j).toNat:Int)else .int .u8 0):=by
 unfold outA;rw[List.getElem?_toArray,List.getElem?_map,List.getElem?_range hj];rfl
theorem zty(x:W4)(i:Nat)(hi:i<32):(outA x i).setIfInBounds i (.int .u8 ((z99 x i).toNat:Int))=outA x (i+1):=by
 apply Array.ext_getElem?;intro j;rw[Array.getElem?_setIfInBounds]
 by_cases hj:j<32
 ·rw[zjf x _ j hj,zjf x _ j hj];have hsz:(outA x i).size=32:=by simp[outA]
  by_cases e:i=j
  ·subst e;rw[if_pos rfl,if_pos (by omega),if_pos (by omega)]
  ·rw[if_neg e]
   by_cases h:j<i
   ·rw[if_pos h,if_pos (by omega)]
   ·rw[if_neg h,if_neg (by omega)]
 ·have h1:∀ i,(outA x i)[j]?=none:=fun i=>by
   rw[Array.getElem?_eq_none];simp[outA];omega
  rw[h1,h1,if_neg (by omega)]
theorem ztw(x:W4):outA x 32=(bytesV (amtL x)).toArray:=by
 unfold outA amtL bytesV;rw[List.map_map];congr 1
structure BAt (w:World) (x:W4) (i:Nat) (wr:World):Prop where
 hb:Below w.heap.size w wr
 hx:wr.heap[w.heap.size]?=some (.cells (uL x) 24 (0,0))
 ho:wr.heap[w.heap.size+1]?=some (.cells (outA x i) 5 (0,0))
theorem q00(w:World):(Instr.makeSlice 209 (.int .i64 32) (.int .i64 32)).run Tryz.prog w= .ok (.slice (some ⟨w.heap.size,0,none⟩) 32 32) (w.alloc (.cells (List.replicate 32 (Value.int .u8 0)).toArray 5)):=by kernel_rfl
theorem zlg(x:W4)(w:World):Calls Tryz.prog 209 #[uV x] w fun e w'=>e= .returned (.slice (some ⟨w.heap.size+1,0,none⟩) 32 32)/\BAt w x 32 w':=by
 have hmk:=q00;have H0:Hid (BAt w x 0 ((w.alloc (.cells (uL x) 24)).alloc (.cells (List.replicate 32 (Value.int .u8 0)).toArray 5))):=by
  refine⟨z00 (z00 zb _) _,?_,?_⟩
  ·rw[heap_alloc_old _ _ (by simp)];exact heap_alloc_new w (.cells (uL x) 24)
  ·have:=heap_alloc_new (w.alloc (.cells (uL x) 24)) (.cells (List.replicate 32 (Value.int .u8 0)).toArray 5);rw[World.size_alloc]at this;rw[this,znv]
 have HN:Hid (∀ wr i,i<32->BAt w x i wr->∀ v:Int,v=(((z99 x i).toNat:Nat):Int)->BAt w x (i+1) (wr.setCell ⟨w.heap.size+1,i,none⟩ (.int .u8 v))):=fun wr i hi h v hv=>by
  refine⟨h.hb.setCell (p:=⟨w.heap.size+1,i,none⟩) (by simp) _,by rw[Below.heap_setCell _ _ _ _ (by simp)];exact h.hx,?_⟩;rw[hv,<- zty x i hi];exact heap_setCell_same _ _ _ _ _ _ h.ho
 go_enter Tryz.func209,Tryz.ntmps209;go_wp2_with fail
 go_loopw [9] (fun iv wr=>∃ i:Nat,iv= .int .i64 i/\i<=32/\BAt w x i wr) (fun iv _=>32-(intOf iv).toNat)
 case atStart=>exact⟨0,rfl,by omega,H0.out⟩
 case round =>
  obtain⟨i,rfl,hi,hA⟩:=hrel;have HA:=zh hA;clear hA H0
  by_cases hlt:i<32
  ·have h4:(31-i)/8<4:=by omega
   have cA:wr.cell? ⟨w.heap.size,(31-i)/8,none⟩=some (.int .u64 (x.at ((31-i)/8))):=by rw[cell_of_row _ _ _ _ _ _ HA.out.hx];exact z4v x _ h4
   have cD:wr.cell? ⟨w.heap.size+1,i,none⟩=some (.int .u8 0):=by rw[cell_of_row _ _ _ _ _ _ HA.out.ho,zjf x i i hlt,if_neg (by omega)]
   have fD:wr.frozen? ⟨w.heap.size+1,i,none⟩=false:=frozen_of_row _ _ _ _ _ HA.out.ho;have hval:(((x.at ((31-i)/8):Nat):Int)/2 ^ (8*((31-i)%8))%256:Int)=(((z99 x i).toNat:Nat):Int):=by
    unfold z99;rw[UInt8.toNat_ofNat'];simp
   have hval:=zh hval;generalize x.at ((31-i)/8)=a at *
   go_wp2_with fail;refine⟨⟨i+1,by go_num,by omega,HN.out wr _ hlt HA.out _ (by first | rfl | exact hval.out)⟩,by simp[intOf];omega⟩
  ·obtain rfl:i=32:=by omega
   go_wp2_with fail;go_ret;exact⟨rfl,HA.out⟩
def z1v(f:Nat->Nat):Nat->W4
 | 0=>(0,0,0,0)
 | i+1=>(z1v f i).set ((31-i)/8) ((z1v f i).at ((31-i)/8)+f i*2 ^ (8*((31-i)%8)))
theorem z7m(x:W4)(k v j:Nat)(hk:k<4)(hj:j<4):(x.set k v).at j=if k=j then v else x.at j:=by
 match k,hk,j,hj with
 | 0,_,0,_=>rfl
 | 0,_,1,_=>rfl
 | 0,_,2,_=>rfl
 | 0,_,3,_=>rfl
 | 1,_,0,_=>rfl
 | 1,_,1,_=>rfl
 | 1,_,2,_=>rfl
 | 1,_,3,_=>rfl
 | 2,_,0,_=>rfl
 | 2,_,1,_=>rfl
 | 2,_,2,_=>rfl
 | 2,_,3,_=>rfl
 | 3,_,0,_=>rfl
 | 3,_,1,_=>rfl
 | 3,_,2,_=>rfl
 | 3,_,3,_=>rfl
theorem zqa(v c r:Nat)(h8:r<8)(hv:v%2 ^ (8*r+8)=0)(hlt:v<18446744073709551616)(hc:c<256) :
  (v+c*2 ^ (8*r))%2 ^ (8*r)=0/\v+c*2 ^ (8*r)<18446744073709551616/\bits .or .u64 (v:Int) (IntKind.u64.wrap ((c:Int)*2 ^ (8*r)))=((v+c*2 ^ (8*r):Nat):Int):=by
 have h:(v+c*2 ^ (8*r))%2 ^ (8*r)=0/\v+c*2 ^ (8*r)<18446744073709551616/\c*2 ^ (8*r)<2 ^ (8*r+8)/\c*2 ^ (8*r)<18446744073709551616:=by
  match r,h8 with
  | 0,_ | 1,_ | 2,_ | 3,_ | 4,_ | 5,_ | 6,_ | 7,_=>simp only[Nat.reduceMul,Nat.reduceAdd,Nat.reducePow]at hv ⊢;omega
 obtain⟨h1,h2,h3,h4⟩:=h;refine⟨h1,h2,?_⟩;have hw:IntKind.u64.wrap ((c:Int)*2 ^ (8*r))=((c*2 ^ (8*r):Nat):Int):=by
  rw[IntKind.wrap_u64,show(c:Int)*2 ^ (8*r)=((c*2 ^ (8*r):Nat):Int)by simp];omega
 rw[hw,bits_or_u64_nat _ _ hlt h4];congr 1;have hq:v=2 ^ (8*r+8)*(v/2 ^ (8*r+8)):=by
  have:=Nat.div_add_mod v (2 ^ (8*r+8));omega
 rw[hq,<- Nat.two_pow_add_eq_or_of_lt h3]
theorem z6d(f:Nat->Nat)(hf:∀ i,f i<256):∀ i,i<=32->∀ j,j<4->(z1v f i).at j%2 ^ (8*min 8 (32-i-8*j))=0/\(z1v f i).at j<18446744073709551616
 | 0,_,j,hj=>by
  have:(z1v f 0).at j=0:=by
   match j,hj with
   | 0,_=>rfl
   | 1,_=>rfl
   | 2,_=>rfl
   | 3,_=>rfl
  rw[this];simp
 | i+1,hi,j,hj=>by
  obtain⟨h1,h2⟩:=z6d f hf i (by omega) j hj;rw[z1v,z7m _ _ _ _ (by omega) hj];split
  ·rename_i e;rw[e];have e1:min 8 (32-i-8*j)=(31-i)%8+1:=by omega
   have e2:min 8 (32-(i+1)-8*j)=(31-i)%8:=by omega
   rw[e1]at h1;rw[e2];have:=zqa _ (f i) ((31-i)%8) (by omega) (by rw[show 8*((31-i)%8)+8=8*((31-i)%8+1)by omega];exact h1) h2 (hf i);exact⟨this.1,this.2.1⟩
  ·rename_i e;have e1:min 8 (32-(i+1)-8*j)=min 8 (32-i-8*j):=by omega
   rw[e1];exact⟨h1,h2⟩
theorem zsm(f:Nat->Nat)(hf:∀ i,f i<256):(z1v f 32).Ok:=
 ⟨(z6d f hf 32 (by omega) 0 (by omega)).2,(z6d f hf 32 (by omega) 1 (by omega)).2,(z6d f hf 32 (by omega) 2 (by omega)).2,(z6d f hf 32 (by omega) 3 (by omega)).2⟩
theorem zkt(f:Nat->Nat)(hf:∀ i,f i<256)(i:Nat)(hi:i<32):bits .or .u64 (((z1v f i).at ((31-i)/8):Nat):Int) (IntKind.u64.wrap (((f i:Nat):Int)*2 ^ (8*((31-i)%8))))=(((z1v f (i+1)).at ((31-i)/8):Nat):Int):=by
 obtain⟨h1,h2⟩:=z6d f hf i (by omega) ((31-i)/8) (by omega);have e1:min 8 (32-i-8*((31-i)/8))=(31-i)%8+1:=by omega
 rw[e1]at h1;rw[z1v,z7m _ _ _ _ (by omega) (by omega),if_pos rfl];exact(zqa _ (f i) ((31-i)%8) (by omega) (by rw[show 8*((31-i)%8)+8=8*((31-i)%8+1)by omega];exact h1) h2 (hf i)).2.2
structure FAt (w:World) (o:W4) (wr:World):Prop where
 hb:Below w.heap.size w wr
 hr:wr.heap[w.heap.size]?=some (.cells (uL (0,0,0,0)) 24 (0,0))
 ho:wr.heap[w.heap.size+1]?=some (.cells (uL o) 24 (0,0))
theorem FAt.drew{w wr:World}{o:W4}(h:FAt w o wr):FAt w o wr.drew:=⟨z0h h.hb,h.hr,h.ho⟩
theorem FAt.start(w:World):FAt w (0,0,0,0) ((w.alloc (.cells (uL (0,0,0,0)) 24)).alloc (.cells (uL (0,0,0,0)) 24)):=by
 refine⟨z00 (z00 zb _) _,?_,?_⟩
 ·rw[heap_alloc_old _ _ (by simp)];exact heap_alloc_new w (.cells (uL (0,0,0,0)) 24)
 ·have:=heap_alloc_new (w.alloc (.cells (uL (0,0,0,0)) 24)) (.cells (uL (0,0,0,0)) 24)
  rwa [World.size_alloc]at this
theorem zqn(f:Nat->Nat)(hf:∀ i,f i<256)(g c:Nat)(w:World)(hg:g<w.heap.size)(hc:∀ j,j<32->w.cell? ⟨g,j,none⟩=some (.int .u8 (f j:Nat))):Calls Tryz.prog 203 #[.slice (some ⟨g,0,none⟩) 32 c] w fun e w'=>e= .returned (.tuple #[uV (z1v f 32),.bool true])/\Below w.heap.size w w':=by
 have H0:=zh (FAt.start w);have HC:Hid (∀ i wr,i<32->FAt w (z1v f i) wr->wr.cell? ⟨g,i,none⟩=some (.int .u8 (f i:Nat))):=fun i wr hi h=>by rw[h.hb.cell (p:=⟨g,i,none⟩) hg];exact hc i hi
 have HN:Hid (∀ wr i,i<32->FAt w (z1v f i) wr->∀ v:Int,v=(((z1v f (i+1)).at ((31-i)/8):Nat):Int)->FAt w (z1v f (i+1)) (wr.setCell ⟨w.heap.size+1,(31-i)/8,none⟩ (.int .u64 v))):=fun wr i hi h v hv=>by
  refine⟨h.hb.setCell (p:=⟨w.heap.size+1,(31-i)/8,none⟩) (by simp) _,by rw[Below.heap_setCell _ _ _ _ (by simp)];exact h.hr,?_⟩;have e:z1v f (i+1)=(z1v f i).set ((31-i)/8) ((z1v f (i+1)).at ((31-i)/8)):=by
   rw[z1v,z7m _ _ _ _ (by omega) (by omega),if_pos rfl]
  rw[hv,e,z7m _ _ _ _ (by omega) (by omega),if_pos rfl,<- z9j _ _ _ (by omega)];exact heap_setCell_same _ _ _ _ _ _ h.ho
 have HV:Hid (∀ i,i<32->bits .or .u64 (((z1v f i).at ((31-i)/8):Nat):Int) (IntKind.u64.wrap (((f i:Nat):Int)*2 ^ (8*((31-i)%8))))=(((z1v f (i+1)).at ((31-i)/8):Nat):Int)):=zkt f hf;have hf8:=hf;clear hc;go_enter Tryz.func203,Tryz.ntmps203;go_wp2_with fail
 go_loopw [14] (fun iv wr=>∃ i:Nat,iv= .int .i64 i/\i<=32/\FAt w (z1v f i) wr) (fun iv _=>32-(intOf iv).toNat)
 case atStart=>exact⟨0,rfl,by omega,H0.out⟩
 case round =>
  obtain⟨i,rfl,hi,hA⟩:=hrel;have HA:=zh hA;clear hA H0
  by_cases hlt:i<32
  ·have h4:(31-i)/8<4:=by omega
   have cA:=HC.out i wr hlt HA.out;have cD:wr.cell? ⟨w.heap.size+1,(31-i)/8,none⟩=some (.int .u64 ((z1v f i).at ((31-i)/8))):=by rw[cell_of_row _ _ _ _ _ _ HA.out.ho];exact z4v _ _ h4
   have fD:wr.frozen? ⟨w.heap.size+1,(31-i)/8,none⟩=false:=frozen_of_row _ _ _ _ _ HA.out.ho;have HV1:=zh (HV.out i hlt);have HN1:=zh (HN.out wr i hlt HA.out);have hfi:=hf8 i;generalize (z1v f i).at ((31-i)/8)=a at *
   generalize f i=b at *
   go_wp2_with fail
   go_region
   all_goals
    go_wp2_with fail;exact⟨⟨i+1,by go_num,by omega,(HN1.out _ HV1.out).drew⟩,by simp[intOf];omega⟩
  ·obtain rfl:i=32:=by omega
   obtain⟨o0,o1,o2,o3,_⟩:=row4 HA.out.ho;obtain⟨_,_,_,_,r0,r1,r2,r3⟩:=row4 HA.out.hr;clear HN HC HV;go_wp2_with fail;refine bodyPost_ret (z03 rfl _ _ w.heap.size 24 (uL (z1v f 32)) (0,0) _ rfl (put4 HA.out.hr _) Tryz.underlying24 rfl (by kernel_rfl)) rfl ?_;exact⟨rfl,z0f HA.out.hb (by omega) _ _ _ _⟩
theorem zq5(a:Option Addr)(n c:Nat)(hn:n≠32)(w:World):Calls Tryz.prog 203 #[.slice a n c] w fun e w'=>e= .returned (.tuple #[uV (0,0,0,0),.bool false])/\Below w.heap.size w w':=by
 have HA:=zh (FAt.start w);have hne:((n:Int)==32)=false:=beq_eq_false_iff_ne.2 (by omega);have HE:Hid (((w.alloc (.cells (uL (0,0,0,0)) 24)).alloc (.cells (uL (0,0,0,0)) 24)).heap[w.heap.size]?=some (.cells (uL (0,0,0,0)) 24 (0,0))):=HA.out.hr;go_enter Tryz.func203,Tryz.ntmps203;go_wp2_with fail;refine bodyPost_ret (z03 rfl _ _ w.heap.size 24 (uL (0,0,0,0)) (0,0) _ rfl HE.out Tryz.underlying24 rfl (by kernel_rfl)) rfl ?_;exact⟨rfl,HA.out.hb⟩
theorem ztg{w:World}{g c:Nat}{l:List UInt8}(h:w.heap[g]?=some (.cells (bytesV l).toArray 5 (0,0))) :
  (convert 209 9 (.slice (some ⟨g,0,none⟩) l.length c)).run Tryz.prog w= .ok (.string ⟨l.toArray⟩) w:=by
 rw[run_convert_bytes_string _ _ _ 5 _ _ _ (by kernel_rfl) (by kernel_rfl) (by kernel_rfl)];rw[run_bytesToString _ _ l.length c (l.map (fun (b:UInt8)=>(b.toNat:Int)))]
 ·rw[zao];simp
 ·have:=run_loadCells_list (P:=Tryz.prog) w ⟨g,0,none⟩ (bytesV l) (fun j v hj=>by
   have e:(⟨g,0,none⟩:Addr).add j=⟨g,j,none⟩:=by first | (simp[Addr.add];done)|(simp[Addr.add];intro h;exact h.symm)
   rw[e,cell_of_row _ _ _ _ _ _ h,List.getElem?_toArray];exact hj)
  rw[zaf]at this
  simpa [bytesV,Function.comp_def]using this
theorem zpe(s:ByteArray)(w:World):∃ c w2,(convert 9 209 (.string s)).run Tryz.prog w= .ok (.slice (some ⟨w.heap.size,0,none⟩) s.size c) w2/\Below w.heap.size w w2/\w.heap.size<w2.heap.size/\∀ j,j<s.size->w2.cell? ⟨w.heap.size,j,none⟩=some (.int .u8 ((s.data.getD j 0).toNat:Nat)):=by
 refine⟨_,_,run_bytes_of_string w 9 209 5 s (by kernel_rfl) (by kernel_rfl) (by kernel_rfl),?_,?_,?_⟩
 ·exact⟨rfl,rfl,rfl,by simp,fun k hk=>heap_alloc_old w.drew _ (by exact hk)⟩
 ·simp
 ·intro j hj;have hrow:=heap_alloc_new w.drew (.cells (bytesRow s (grownCap w s.size 0 5)) 5 ((bytesRow s (grownCap w s.size 0 5)).size,(bytesRow s (grownCap w s.size 0 5)).size+1));have hj':j<s.data.size:=hj;rw[cell_of_row _ w.heap.size j _ _ _ hrow,bytesRow_at s _ j hj'];simp[Array.getD,hj]
def z2p(s:ByteArray):W4:=if s.size=32 then z1v (fun i=>(s.data.getD i 0).toNat) 32 else(0,0,0,0)
theorem z4z(s:ByteArray):(z2p s).Ok:=by
 unfold z2p;split
 ·exact zsm _ fun i=>UInt8.toNat_lt _
 ·exact⟨by decide,by decide,by decide,by decide⟩
theorem zcv(x:W4)(w:World):Calls Tryz.prog 150 #[uV x] w fun e w'=>e= .returned (.string (amtB x))/\Below w.heap.size w w':=by
 have hx4:=row4 (heap_alloc_new w (.cells (uL x) 24));obtain⟨q0,q1,q2,q3,_⟩:=hx4;have HB:Hid (Calls Tryz.prog 209 #[uV x] (w.alloc (.cells (uL x) 24)) fun e w'=>∃ g,e= .returned (.slice (some ⟨g,0,none⟩) 32 32)/\(convert 209 9 (.slice (some ⟨g,0,none⟩) 32 32)).run Tryz.prog w' = .ok (.string (amtB x)) w'/\Below w.heap.size w w'):=
  (zlg x _).mono fun e w' ⟨he,hA⟩=>⟨_,he,by
   have h:=hA.ho;rw[ztw]at h;have:=ztg (c:=32) h
   rwa [show(amtL x).length=32 by simp[amtL]]at this,z0b (z00 (Below.refl _ w) _) hA.hb⟩
 go_enter Tryz.func150,Tryz.ntmps150;go_wp2_with (go_at_call 209;refine HB.out.mono ?_;rintro e w' ⟨g,rfl,hcv,hb⟩);go_ret;exact⟨rfl,hb⟩
theorem zh3(s:ByteArray)(w:World):Calls Tryz.prog 141 #[.string s] w fun e w'=>e= .returned (.tuple #[uV (z2p s),.bool (s.size==32)])/\Below w.heap.size w w':=by
 obtain⟨c,w2,hcv,hb2,hlt,hcell⟩:=zpe s (w.alloc (.cells (uL (0,0,0,0)) 24));have hb1:=z0b (z00 (Below.refl _ w) _) hb2;have HF:Hid (Calls Tryz.prog 203 #[.slice (some ⟨w.heap.size+1,0,none⟩) s.size c] w2 fun e w'=>e= .returned (.tuple #[uV (z2p s),.bool (s.size==32)])/\Below w.heap.size w w'/\w'.heap[w.heap.size]?=some (.cells (uL (0,0,0,0)) 24 (0,0))):=by
  have hrow:w2.heap[w.heap.size]?=some (.cells (uL (0,0,0,0)) 24 (0,0)):=(hb2.block _ (by simp)).trans (heap_alloc_new w (.cells (uL (0,0,0,0)) 24));have fin:∀ {w'},Below w2.heap.size w2 w'->Below w.heap.size w w'/\w'.heap[w.heap.size]?=some (.cells (uL (0,0,0,0)) 24 (0,0)):=fun hb=>⟨z0b hb1 hb,(hb.block _ (Array.getElem?_eq_some_iff.1 hrow).1).trans hrow⟩
  rw[World.size_alloc]at hlt hcell
  by_cases h:s.size=32
  ·unfold z2p;rw[h,if_pos rfl];exact(zqn (fun i=>(s.data.getD i 0).toNat) (fun i=>UInt8.toNat_lt _) _ c w2 hlt (fun j hj=>hcell j (by omega))).mono fun e w' ⟨he,hb⟩=>⟨he,fin hb⟩
  ·unfold z2p;rw[if_neg h,beq_eq_false_iff_ne.2 h];exact(zq5 _ s.size c h w2).mono fun e w' ⟨he,hb⟩=>⟨he,fin hb⟩
 rw[World.size_alloc]at hcv;have hcv:(convert 9 209 (.string s)).run Tryz.prog (w.alloc (.cells #[.int .u64 0,.int .u64 0,.int .u64 0,.int .u64 0] 24))= .ok (.slice (some ⟨w.heap.size+1,0,none⟩) s.size c) w2:=hcv;clear hb2 hlt hcell hb1;generalize z2p s=x at *
 go_enter Tryz.func141,Tryz.ntmps141;go_wp2_with fail;refine HF.out.mono ?_;rintro e w3 ⟨rfl,hb3,hrow⟩;have HR:=zh hrow;obtain⟨_,_,_,_,r0,r1,r2,r3⟩:=row4 hrow;clear hrow HF;go_wp2_with fail;refine bodyPost_ret (z03 rfl _ _ w.heap.size 24 (uL x) (0,0) _ rfl (put4 HR.out x) Tryz.underlying24 rfl (by kernel_rfl)) rfl ?_;exact⟨rfl,z0f hb3 (by omega) _ _ _ _⟩
theorem zny(w:World)(q:Option Addr)(k v:ByteArray)(ok:Bool)(hG:∀ w1,Below w.heap.size w w1->zb8 w1 q k v ok):Calls Tryz.prog 64 #[.pointer q,.string k] w fun e w'=>e= .returned (uV (z2p v))/\Below w.heap.size w w':=by
 have hb0:=z00 (Below.refl _ w) (.cells (uL (0,0,0,0)) 24);have HG:Hid (zb8 (w.alloc (.cells (uL (0,0,0,0)) 24)) q k v ok):=hG _ hb0;have HT:Hid (Calls Tryz.prog 141 #[.string v] (w.alloc (.cells (uL (0,0,0,0)) 24)) fun e w'=>e= .returned (.tuple #[uV (z2p v),.bool (v.size==32)])/\Below w.heap.size w w'/\w'.heap[w.heap.size]?=some (.cells (uL (0,0,0,0)) 24 (0,0))):=
  (zh3 v _).mono fun e w' ⟨he,hb⟩=>⟨he,z0b hb0 hb,(hb.block _ (by simp)).trans (heap_alloc_new w (.cells (uL (0,0,0,0)) 24))⟩
 clear hG hb0;generalize z2p v=x at *
 unfold zb8 at HG;go_enter Tryz.func64,Tryz.ntmps64;go_wp2_with fail;refine zm HG.out ?_;rintro e w' ⟨rfl,rfl⟩;go_wp2_with fail;refine HT.out.mono ?_;rintro e w3 ⟨rfl,hb3,hrow⟩;have HR:=zh hrow;obtain⟨_,_,_,_,r0,r1,r2,r3⟩:=row4 hrow;have hn3:w.heap.size<w3.heap.size:=(Array.getElem?_eq_some_iff.1 hrow).1;have hne:w3.heap.size≠w.heap.size:=by omega
 have hne2:=Ne.symm hne;clear hrow HT HG;go_wp2_with fail;refine bodyPost_ret (results_cell_row rfl _ _ w.heap.size 24 (uL x) (0,0) _ rfl ?_ Tryz.underlying24 rfl (by kernel_rfl)) rfl ?_
 ·rw[heap_alloc_old _ _ (by simpa using hn3)];exact put4 HR.out x
 ·exact⟨rfl,z00 (z0f hb3 (by omega) _ _ _ _) _⟩
theorem z1c.amount{n:Nat}{w:World}{q:Option Addr}{s:St}(h:z1c n w q s)(k:ByteArray):Calls Tryz.prog 64 #[.pointer q,.string k] w fun e w'=>e= .returned (uV (z2p (s.val k)))/\Below w.heap.size w w':=by
 have h2:∃ ok,∀ w1,Below w.heap.size w w1->zb8 w1 q k (s.val k) ok:=by
  rcases h with⟨b,L,rfl,h,_⟩ | ⟨h,_,rfl⟩
  ·exact⟨_,fun w1 h1=>(h.below h1).get k⟩
  ·exact⟨_,fun w1 h1=>(h.below h1).get k⟩
 obtain⟨ok,h2⟩:=h2;exact zny w q k _ ok h2
theorem eqI(a b c d a' b' c' d':Int)(w:World):(Op.equalIn 10000 24 (.agg #[.int .u64 a,.int .u64 b,.int .u64 c,.int .u64 d]) (.agg #[.int .u64 a',.int .u64 b',.int .u64 c',.int .u64 d'])).run Tryz.prog w= .ok (a==a'&&(b==b'&&(c==c'&&d==d'))) w:=by
 have u3:=Tryz.underlying22;have a3:=Tryz.isAgg22;have z3:=Tryz.sizeOf22;rw[show(10000:Nat)=9999+1 from rfl,Op.equalIn]
 simp only[Sem.run_bind,run_underlying Tryz.underlying24,Result.andThen_ok];simp only[Std.Legacy.Range.forIn_eq_forIn_range',Std.Legacy.Range.size,Nat.sub_zero,Nat.add_sub_cancel,Nat.div_one,List.range'_succ,List.range'_zero,List.forIn_cons,List.forIn_nil]
 go_simp
 by_cases h1:a=a'<;>by_cases h2:b=b'<;>by_cases h3:c=c'<;>by_cases h4:d=d'<;>simp[h1,h2,h3,h4]
theorem eqU(x y:W4)(w:World):(Op.equalIn 10000 24 (uV x) (uV y)).run Tryz.prog w= .ok (decide (x=y)) w:=by
 obtain⟨x0,x1,x2,x3⟩:=x;obtain⟨y0,y1,y2,y3⟩:=y;rw[show(Op.equalIn 10000 24 (uV (x0,x1,x2,x3)) (uV (y0,y1,y2,y3))).run Tryz.prog w=_ from eqI _ _ _ _ _ _ _ _ w]
 congr 1;rw[Bool.eq_iff_iff];simp only[Bool.and_eq_true,beq_iff_eq,decide_eq_true_eq,Prod.mk.injEq];omega
def St.z09(s:St)(k:ByteArray)(x:W4):St:=s.put k (if x=(0,0,0,0)then z05 else amtB x)
theorem St.Fit.z09{s:St}{m:Nat}(h:s.Fit m)(k:ByteArray)(x:W4):(s.z09 k x).Fit (m+2):=by
 refine h.put k ?_;split
 ·decide
 ·show(amtL x).toArray.size<=_
  simp[amtL]
theorem zf2(w:World)(b:Nat)(s:St)(L:List Nat)(k:ByteArray)(x:W4)(h:SRep w b s L)(hb:s.size<1000000000000) :
  Calls Tryz.prog 81 #[.pointer (some ⟨b,0,none⟩),.string k,uV x] w (z2m w b L (.tuple #[]) (s.z09 k x)):=by
 have HP:∀ v,Hid (∀ w1,Below w.heap.size w w1->Calls Tryz.prog 149 #[.pointer (some ⟨b,0,none⟩),.string k,.string v] w1 fun e w'=>e= .returned (.tuple #[])/\z2m w b L (.tuple #[]) (s.put k v) e w'):=fun v w1 h1 =>
  (zbk w1 b s L k v (h.fr (Fr.of_below h1 (fun _=>False)) (fun _ _=>id)) hb).mono fun e w' h2=>⟨h2.1,h2.of_below h1⟩
 have hb1:=z00 (Below.refl _ w) (.cells (uL x) 24)
 by_cases h0:x=(0,0,0,0)
 ·have e:s.z09 k x=s.put k z05:=by unfold St.z09;rw[if_pos h0]
  rw[e];have HP1:=HP z05;have HB1:=zh hb1;unfold z05 at *
  subst h0;have hE:∀ w,(Op.equalIn 10000 24 (.agg #[.int .u64 0,.int .u64 0,.int .u64 0,.int .u64 0]) (.agg #[.int .u64 0,.int .u64 0,.int .u64 0,.int .u64 0])).run Tryz.prog w= .ok true w:=fun w=>eqU (0,0,0,0) (0,0,0,0) w
  generalize z2m w b L (.tuple #[]) (s.put k ⟨#[]⟩)=R at *
  clear h hb HP e hb1;go_enter Tryz.func81,Tryz.ntmps81;go_wp2_with (go_at_call 149;refine(HP1.out _ HB1.out).mono ?_;rintro e w' ⟨rfl,hR⟩);refine bodyPost_ret (results_none rfl _ _ _) rfl ?_;exact hR
 ·have e:s.z09 k x=s.put k (amtB x):=by unfold St.z09;rw[if_neg h0]
  rw[e];have HP1:=HP (amtB x);have HK:Hid (Calls Tryz.prog 150 #[uV x] (w.alloc (.cells (uL x) 24)) fun e w'=>e= .returned (.string (amtB x))/\Below w.heap.size w w'):=(zcv x _).mono fun e w' ⟨he,hb⟩=>⟨he,z0b hb1 hb⟩
  have hE:∀ w,(Op.equalIn 10000 24 (.agg #[.int .u64 x.1,.int .u64 x.2.1,.int .u64 x.2.2.1,.int .u64 x.2.2.2]) (.agg #[.int .u64 0,.int .u64 0,.int .u64 0,.int .u64 0])).run Tryz.prog w= .ok false w:=fun w=>by
   have:=eqU x (0,0,0,0) w;rw[decide_eq_false h0]at this;exact this
  have hq:=row4 (heap_alloc_new w (.cells (uL x) 24));obtain⟨q0,q1,q2,q3,_⟩:=hq;generalize z2m w b L (.tuple #[]) (s.put k (amtB x))=R at *
  generalize amtB x=nb at *
  clear h hb HP e hb1;go_enter Tryz.func81,Tryz.ntmps81;go_wp2_with (first | (go_at_call 150;refine HK.out.mono ?_;rintro e w1 ⟨rfl,hb1⟩)|(go_at_call 149;refine(HP1.out _ hb1).mono ?_;rintro e w' ⟨rfl,hR⟩))
  go_end0
  exact hR
abbrev oneW:W4:=(1000000000000000000,0,0,0)
theorem ziz(n:Nat)(w:World):Calls Tryz.prog 86 #[.int .u64 n] w fun e w'=>e= .returned (uV (n,0,0,0))/\Below w.heap.size w w':=by
 have hb:=z00 (Below.refl _ w) (.cells (uL (n,0,0,0)) 24);have hr:(w.alloc (.cells #[.int .u64 n,.int .u64 0,.int .u64 0,.int .u64 0] 24)).heap[w.heap.size]?=some (.cells (uL (n,0,0,0)) 24 (0,0)):=heap_alloc_new w (.cells (uL (n,0,0,0)) 24);have HR:=zh hr;have HB:=zh hb;clear hr hb;go_enter Tryz.func86,Tryz.ntmps86;go_wp2_with fail;refine bodyPost_ret (results_cell_row rfl _ _ w.heap.size 24 (uL (n,0,0,0)) (0,0) _ rfl HR.out Tryz.underlying24 rfl (by kernel_rfl)) rfl ?_;exact⟨rfl,HB.out⟩
abbrev Cel4(g:Nat)(x:W4)(w':World):Prop:=w'.cell? ⟨g,0,none⟩=some (.int .u64 x.1)/\w'.cell? ⟨g,1,none⟩=some (.int .u64 x.2.1)/\w'.cell? ⟨g,2,none⟩=some (.int .u64 x.2.2.1)/\w'.cell? ⟨g,3,none⟩=some (.int .u64 x.2.2.2)
theorem zec{w w':World}{g:Nat}{x:W4}(h:Cel4 g x w)(hb:Below w.heap.size w w'):Cel4 g x w':=⟨z5q hb h.1,z5q hb h.2.1,z5q hb h.2.2.1,z5q hb h.2.2.2⟩
theorem z1t{w:World}{g:Nat}{x:W4}(h:w.heap[g]?=some (.cells (uL x) 24 (0,0))):Cel4 g x w:=by
 obtain⟨a,b,c,d,_⟩:=row4 h;exact⟨a,b,c,d⟩
theorem newRow{w w':World}(x:W4) (hb:Below (w.alloc (.cells (uL x) 24)).heap.size (w.alloc (.cells (uL x) 24)) w'):Below w.heap.size w w'/\w'.heap[w.heap.size]?=some (.cells (uL x) 24 (0,0)):=
 ⟨z0b (z00 (Below.refl _ w) _) hb,(hb.block _ (by simp)).trans (heap_alloc_new w (.cells (uL x) 24))⟩
theorem one_any(w:World):Calls Tryz.prog 24 #[] w fun e w'=>e= .returned (uV oneW)/\Below w.heap.size w w':=by
 have HO:Hid (Calls Tryz.prog 86 #[.int .u64 1000000000000000000] (w.alloc (.cells (uL (0,0,0,0)) 24)) fun e w'=>e= .returned (uV oneW)/\Below w.heap.size w w'/\w'.heap[w.heap.size]?=some (.cells (uL (0,0,0,0)) 24 (0,0))):=
  (ziz 1000000000000000000 _).mono fun e w' ⟨he,hb⟩=>⟨he,newRow _ hb⟩
 go_enter Tryz.func24,Tryz.ntmps24;go_wp2_with fail;refine HO.out.mono ?_;rintro e w3 ⟨rfl,hb3,hrow⟩;have HR:=zh hrow;obtain⟨_,_,_,_,r0,r1,r2,r3⟩:=row4 hrow;clear hrow HO;go_wp2_with fail;refine bodyPost_ret (results_cell_row rfl _ _ w.heap.size 24 (uL oneW) (0,0) _ rfl (put4 HR.out oneW) Tryz.underlying24 rfl (by kernel_rfl)) rfl ?_;exact⟨rfl,z0f hb3 (by omega) _ _ _ _⟩
theorem zo0:W4.Ok oneW:=⟨by decide,by decide,by decide,by decide⟩
theorem zhw(x:W4)(hx:x.Ok)(w:World):Calls Tryz.prog 69 #[uV x] w fun e w'=>e= .returned (.bool (decide (uCmp x oneW<=0)))/\Below w.heap.size w w':=by
 have hb0:=z00 (Below.refl _ w) (.cells (uL x) 24);have hrow:=heap_alloc_new w (.cells (uL x) 24);obtain⟨q0,q1,q2,q3,_⟩:=row4 hrow;have HO:Hid (∀ W,Cel4 w.heap.size x W->Below w.heap.size w W->Calls Tryz.prog 24 #[] W fun e w'=>e= .returned (uV oneW)/\Below w.heap.size w w'/\Cel4 w.heap.size x w'):=fun W hW hb =>
  (one_any W).mono fun e w' ⟨he,h1⟩=>⟨he,z0b hb h1,zec hW h1⟩
 have HC:Hid (∀ W,Cel4 w.heap.size x W->Below w.heap.size w W->Calls Tryz.prog 58 #[uV x,uV oneW] W fun e w'=>e= .returned (.int .i64 (uCmp x oneW))/\Below w.heap.size w w'/\Cel4 w.heap.size x w'):=fun W hW hb=>(z4x x oneW hx zo0 W).mono fun e w' ⟨he,h1⟩=>⟨he,z0b hb h1,zec hW h1⟩
 have HB:=zh (z0h hb0);clear hb0 hrow;generalize uCmp x oneW=r at *
 go_enter Tryz.func69,Tryz.ntmps69;go_wp2_with fail
 go_region_held3 (fun w'=>w'.cell? ⟨w.heap.size,0,none⟩=some (.int .u64 x.1)/\w'.cell? ⟨w.heap.size,1,none⟩=some (.int .u64 x.2.1)/\w'.cell? ⟨w.heap.size,2,none⟩=some (.int .u64 x.2.2.1)/\w'.cell? ⟨w.heap.size,3,none⟩=some (.int .u64 x.2.2.2)) (first | assumption | go_keep)
  (first
   | (go_at_call 24;refine zm (HO.out _ ⟨by assumption,by assumption,by assumption,by assumption⟩ HB.out) ?_;rintro e w2 ⟨rfl,hb2,e0,e1,e2,e3⟩)
   | (go_at_call 58;refine zm (HC.out _ ⟨by assumption,by assumption,by assumption,by assumption⟩ hb2) ?_;rintro e w3 ⟨rfl,hb3,f0,f1,f2,f3⟩))
 all_goals
  go_wp2_with fail;go_ret;exact⟨rfl,hb3⟩
theorem z2u(w:World)(g:Nat)(a b:Int)(hr:w.heap[g]?=some (.cells #[.int .i64 a,.int .i64 b] 3 (0,0))):z0w w (.slice (some ⟨g,0,none⟩) 2 2) [a,b]:=
 z3p (g:=g) (l:=[a,b]) fun j z hj=>by
  rw[cell_of_row _ _ _ _ _ _ hr]
  match j,hj with
  | 0,hj=>cases hj;rfl
  | 1,hj=>cases hj;rfl
theorem zfc{w w':World}(o:Obj)(x:W4) (hb:Below ((w.alloc o).alloc (.cells (uL x) 24)).heap.size ((w.alloc o).alloc (.cells (uL x) 24)) w'):Below w.heap.size w w'/\w'.heap[w.heap.size+1]?=some (.cells (uL x) 24 (0,0)):=by
 have:=heap_alloc_new (w.alloc o) (.cells (uL x) 24);rw[World.size_alloc]at this;exact⟨z0b (z00 (z00 (Below.refl _ w) _) _) hb,(hb.block _ (by simp)).trans this⟩
theorem z2f{P:Program}{fn:Func}{u p v:Tmp}{ty:TypeId}(h:fn.results=#[.tmp u,.cell p ty,.tmp v])(tmps:Array Value)(w:World)(g:Nat)(t:TypeId)(cs:Array Value)(fr:Nat × Nat)(d:TypeDesc)
  (hp:tmps.getD p undef= .pointer (some ⟨g,0,none⟩)) (hg:w.heap[g]?=some (.cells cs t fr))
  (hu:P.underlying ty=some d) (hd:(match d with | .struct _ | .array _ _=>true | _=>false)=true) (hi:(P.info? ty).map (·.size)=some cs.size) :
  (results fn tmps).run P w= .ok (.tuple #[tmps.getD u undef,.agg cs,tmps.getD v undef]) w:=by
 have hp':tmps[p]?.getD undef= .pointer (some ⟨g,0,none⟩):=by simpa using hp
 simp[results,h,hp',asAddr,Result.andThen,run_loadVar_row w g t ty cs fr d hg hu hd hi]
structure MAt (w:World) (x y:W4) (wr:World):Prop where
 b:Below w.heap.size w wr
 x:wr.heap[w.heap.size]?=some (.cells (uL x) 24 (0,0))
 y:wr.heap[w.heap.size+1]?=some (.cells (uL y) 24 (0,0))
 r:wr.heap[w.heap.size+2]?=some (.cells (uL (0,0,0,0)) 24 (0,0))
theorem MAt.start(w:World)(x y:W4):MAt w x y (((w.alloc (.cells (uL x) 24)).alloc (.cells (uL y) 24)).alloc (.cells (uL (0,0,0,0)) 24)):=by
 refine⟨z00 (z00 (z00 zb _) _) _,?_,?_,?_⟩
 ·rw[heap_alloc_old _ _ (by first | (simp;done)|(simp;omega)),heap_alloc_old _ _ (by simp)];exact heap_alloc_new w _
 ·rw[heap_alloc_old _ _ (by simp)];have:=heap_alloc_new (w.alloc (.cells (uL x) 24)) (.cells (uL y) 24)
  rwa [World.size_alloc]at this
 ·have:=heap_alloc_new ((w.alloc (.cells (uL x) 24)).alloc (.cells (uL y) 24)) (.cells (uL (0,0,0,0)) 24)
  rwa [World.size_alloc,World.size_alloc]at this
theorem MAt.below{w wr w':World}{x y:W4}(h:MAt w x y wr)(hb:Below wr.heap.size wr w'):MAt w x y w':=
 ⟨z0b h.b hb,(hb.block _ (z02 h.x)).trans h.x,(hb.block _ (z02 h.y)).trans h.y,(hb.block _ (z02 h.r)).trans h.r⟩
end Go.Proofs.YtnkilceibkkjlaaGreat
