/- What is proved here: alloc.Sum where no store was made. I -/
import Derived.OrdersHeld
import Derived.OrdersIn
import Derived.Test.YtnkilceibkkjlaaGreatKFqD
import Derived.WalkMore
set_option maxRecDepth 100000
set_option maxHeartbeats 16000000
namespace Go.Proofs.YtnkilceibkkjlaaGreat
open Go.RowKit Go.Shelf
attribute [local go_sem] Oper.semAt_some
structure q09 (w:World) (q:Option Addr) (W:World):Prop where
 b:Below w.heap.size w W
 no:z4j W q
 box:Boxed W w.heap.size 39 (.pointer q)
 r6:W.heap[w.heap.size+1]?=some (.cells (uL (0,0,0,0)) 24 (0,0))
 r7:W.heap[w.heap.size+1+1]?=some (.cells (uL (0,0,0,0)) 24 (0,0))
open Go
section
variable {F:Fence} {n:Nat} {P:Program} {ops:Array Oper} {Q:Exit->Act->World->Prop} {md:Region.Mode} {S:World->Prop}
variable {keep:Nat->Bool}
end
attribute [local go_sem] Oper.semAt_some
instance (x:I4):Decidable x.Ok:=by unfold I4.Ok;infer_instance
attribute [local go_sem] Oper.semAt_some
theorem zk9(w:World):Calls Tryz.prog 194 #[] w fun e w'=>e= .returned (uV oneW)/\Below w.heap.size w w':=by
 have hr:(w.alloc (.cells #[.int .u64 1000000000000000000,.int .u64 0,.int .u64 0,.int .u64 0] 24)).heap[w.heap.size]?=some (.cells (uL oneW) 24 (0,0)):=heap_alloc_new w (.cells (uL oneW) 24);have HR:=zh hr;have HB:=zh (z00 (Below.refl _ w) (.cells (uL oneW) 24));clear hr;go_enter Tryz.func194,Tryz.ntmps194;go_wp2_with fail;refine bodyPost_ret (results_cell_row rfl _ _ w.heap.size 24 (uL oneW) (0,0) _ rfl HR.out Tryz.underlying24 rfl (by kernel_rfl)) rfl ?_;exact⟨rfl,HB.out⟩
theorem zn3(x:W4)(hx:x.Ok)(w:World):Calls Tryz.prog 130 #[uV x] w fun e w'=>e= .returned (.bool (decide (uN x<=1000000000000000000)))/\Below w.heap.size w w':=by
 have HV:=zh (VAt.start w [x]).drew;have HC:Hid (∀ W,Calls Tryz.prog 10 #[uV x,uV oneW] W fun e w'=>e= .returned (.int .i64 (uCmp x oneW))/\Below W.heap.size W w'):=zuo x oneW hx zo0;obtain⟨c,hc'⟩:∃ c,c=decide (uN x<=1000000000000000000):=⟨_,rfl⟩;have hc:decide (uCmp x oneW<=0)=c:=by rw[hc'];exact decide_eq_decide.2 (by rw[zlc,zwf])
 rw[<- hc'];clear hc';go_enter Tryz.func130,Tryz.ntmps130;go_wp2_with fail;go_upto_region 1 with fail;refine z1g [[],[],[0,1],[0,1,2],[0,1,2,3]]
  [rgC (VAt w [x]),rgV 0 (uV x),rgV 1 (uV oneW),rgV 2 (.int .i64 (uCmp x oneW)),rgV 3 (.bool c),rgV 4 (.bool c)] _ (by kernel_rfl) (by kernel_rfl) (by kernel_rfl)
  (fun vs=>by simp only[z14,z1a,List.setIfInBounds_toArray,List.set_cons_zero,List.set_cons_succ];exact rfl)
  ⟨fun _ _ _ hb h=>h.below hb,z0e,z0e,z0e,z0e,z0e,trivial⟩ ?_ ?_ ?_
 ·refine z3k rfl HV.out ?_;iterate 5 refine z4l rfl ?_
  exact trivial
 ·refine⟨?_,?_,?_,?_,?_,trivial⟩
  ·rintro vs w1 ⟨hC,_⟩ K hK;refine z0p rfl rfl rfl (hC.r 0 x rfl) (hK _ _ (.inl zb) ?_);exact z07 1
  ·rintro vs w1 ⟨_,_⟩ K hK;refine z4w rfl rfl rfl (by kernel_rfl) rfl (zm (zk9 _) ?_);rintro e w2 ⟨rfl,hb⟩;refine⟨_,rfl,hK _ _ (.inl hb) ?_⟩;exact z07 2
  ·rintro vs w1 ⟨_,e0,e1,_⟩ K hK;refine z4w rfl rfl rfl (by kernel_rfl) (show [vs 0,vs 1]=_ from by rw[rg1 e0,rg1 e1]) (zm (HC.out _) ?_);rintro e w2 ⟨rfl,hb⟩;refine⟨_,rfl,hK _ _ (.inl hb) ?_⟩;exact z07 3
  ·rintro vs w1 ⟨_,_,_,e2,_⟩ K hK;refine zuy rfl rfl (rg1 e2) hc (hK _ _ (.inl zb) ?_);exact z07 4
  ·rintro vs w1 ⟨_,_,_,_,e3,_⟩ K hK;refine z0a rfl (.inr rfl) (rg1 e3) (hK _ _ (.inl zb) ?_);exact z07 5
 ·intro vs w1 hA;obtain⟨hC,e0,e1,e2,e3,e4,_⟩:=hA;have e0:=rg1 e0;have e1:=rg1 e1;have e2:=rg1 e2;have e3:=rg1 e3;have e4:=rg1 e4;simp only[e0,e1,e2,e3,e4];have HB:=zh hC.b;go_wp2_with fail;go_ret;exact⟨rfl,HB.out⟩
def putC(a o t:Int)(x:W4):Prop:=x=(0,0,0,0)\/¬ uN x<M128\/a<1\/t<1\/o<0
instance (a o t:Int) (x:W4):Decidable (putC a o t x):=by unfold putC;infer_instance
def Hand.zzk(h:Hand)(s:St)(a t:Int)(m x:W4):St:=h.wr s a t (sumW (s.dep a t) x) (zzj (s.dep a t) (s.fct a t) m x)
def Hand.putE(h:Hand)(s:St)(a o t:Int)(m x:W4):Int:=if putC a o t x then 2 else if m=(0,0,0,0)then 14 else if zy3 (s.dep a t) (s.fct a t) m x then zxn ((h.zzk s a t m x).amt (keyL 12 [o,t])) x else 6
end Go.Proofs.YtnkilceibkkjlaaGreat
namespace Go.Proofs.YtnkilceibkkjlaaGreat
open Go.RowKit
theorem zmz(f:Nat->Nat)(hf:∀ i,f i<256)(g c:Nat)(w:World)(hg:g<w.heap.size)(hc:∀ j,j<32->w.cell? ⟨g,j,none⟩=some (.int .u8 (f j:Nat))):Calls Tryz.prog 213 #[.slice (some ⟨g,0,none⟩) 32 c] w fun e w'=>e= .returned (.tuple #[uV (z1v f 32),.bool true])/\Below w.heap.size w w':=by
 have H0:=zh (FAt.start w);have HC:Hid (∀ i wr,i<32->FAt w (z1v f i) wr->wr.cell? ⟨g,i,none⟩=some (.int .u8 (f i:Nat))):=fun i wr hi h=>by rw[h.hb.cell (p:=⟨g,i,none⟩) hg];exact hc i hi
 have HN:Hid (∀ wr i,i<32->FAt w (z1v f i) wr->∀ v:Int,v=(((z1v f (i+1)).at ((31-i)/8):Nat):Int)->FAt w (z1v f (i+1)) (wr.setCell ⟨w.heap.size+1,(31-i)/8,none⟩ (.int .u64 v))):=fun wr i hi h v hv=>by
  refine⟨h.hb.setCell (p:=⟨w.heap.size+1,(31-i)/8,none⟩) (by simp) _,by rw[Below.heap_setCell _ _ _ _ (by simp)];exact h.hr,?_⟩;have e:z1v f (i+1)=(z1v f i).set ((31-i)/8) ((z1v f (i+1)).at ((31-i)/8)):=by
   rw[z1v,z7m _ _ _ _ (by omega) (by omega),if_pos rfl]
  rw[hv,e,z7m _ _ _ _ (by omega) (by omega),if_pos rfl,<- z9j _ _ _ (by omega)];exact heap_setCell_same _ _ _ _ _ _ h.ho
 have HV:Hid (∀ i,i<32->bits .or .u64 (((z1v f i).at ((31-i)/8):Nat):Int) (IntKind.u64.wrap (((f i:Nat):Int)*2 ^ (8*((31-i)%8))))=(((z1v f (i+1)).at ((31-i)/8):Nat):Int)):=zkt f hf;have hf8:=hf;clear hc;go_enter Tryz.func213,Tryz.ntmps213;go_wp2_with fail
 go_loopw [14] (fun iv wr=>∃ i:Nat,iv= .int .i64 i/\i<=32/\FAt w (z1v f i) wr) (fun iv _=>32-(intOf iv).toNat)
 case atStart=>exact⟨0,rfl,by omega,H0.out⟩
 case round =>
  obtain⟨i,rfl,hi,hA⟩:=hrel;have HA:=zh hA;clear hA H0
  by_cases hlt:i<32
  ·have h4:(31-i)/8<4:=by omega
   have cA:=HC.out i wr hlt HA.out;have cD:wr.cell? ⟨w.heap.size+1,(31-i)/8,none⟩=some (.int .u64 ((z1v f i).at ((31-i)/8))):=by rw[cell_of_row _ _ _ _ _ _ HA.out.ho];exact z4v _ _ h4
   have fD:wr.frozen? ⟨w.heap.size+1,(31-i)/8,none⟩=false:=frozen_of_row _ _ _ _ _ HA.out.ho;have HV1:=zh (HV.out i hlt);have HN1:=zh (HN.out wr i hlt HA.out);have hfi:=hf8 i;generalize (z1v f i).at ((31-i)/8)=a at *
   generalize f i=b at *
   go_wp2_with fail;refine⟨⟨i+1,by go_num,by omega,HN1.out _ HV1.out⟩,by simp[intOf];omega⟩
  ·obtain rfl:i=32:=by omega
   obtain⟨o0,o1,o2,o3,_⟩:=row4 HA.out.ho;obtain⟨_,_,_,_,r0,r1,r2,r3⟩:=row4 HA.out.hr;clear HN HC HV;go_wp2_with fail;refine bodyPost_ret (z03 rfl _ _ w.heap.size 24 (uL (z1v f 32)) (0,0) _ rfl (put4 HA.out.hr _) Tryz.underlying24 rfl (by kernel_rfl)) rfl ?_;exact⟨rfl,z0f HA.out.hb (by omega) _ _ _ _⟩
theorem zn9(a:Option Addr)(n c:Nat)(hn:n≠32)(w:World):Calls Tryz.prog 213 #[.slice a n c] w fun e w'=>e= .returned (.tuple #[uV (0,0,0,0),.bool false])/\Below w.heap.size w w':=by
 have HA:=zh (FAt.start w);have hne:((n:Int)==32)=false:=beq_eq_false_iff_ne.2 (by omega);have HE:Hid (((w.alloc (.cells (uL (0,0,0,0)) 24)).alloc (.cells (uL (0,0,0,0)) 24)).heap[w.heap.size]?=some (.cells (uL (0,0,0,0)) 24 (0,0))):=HA.out.hr;go_enter Tryz.func213,Tryz.ntmps213;go_wp2_with fail;refine bodyPost_ret (z03 rfl _ _ w.heap.size 24 (uL (0,0,0,0)) (0,0) _ rfl HE.out Tryz.underlying24 rfl (by kernel_rfl)) rfl ?_;exact⟨rfl,HA.out.hb⟩
def BTo(W1:World)(x:W4)(k:Nat)(v:Value)(wr:World):Prop:=Own wr 5 1 v k (bytesV ((amtL x).take k))/\(∀ g,v.ownBlock=some g->W1.heap.size<=g)/\Below W1.heap.size W1 wr
theorem zwz(x:W4)(k:Nat)(hk:k<32):(amtL x)[k]?=some (z99 x k):=by
 unfold amtL;rw[List.getElem?_map,List.getElem?_range hk];rfl
theorem BTo.next{W1:World}{x:W4}{k:Nat}{v:Value}{wr:World}(h:BTo W1 x k v wr)(hk:k<32)(b:Int) (hb:(((z99 x k).toNat:Nat):Int)=b) :
  ∃ xs,Own (wr.alloc (.cells #[.int .u8 b] 5)) 5 1 v k xs/\∀ v' w',z0s (wr.alloc (.cells #[.int .u8 b] 5)) 5 1 v k 1 xs [.int .u8 b] v' w'->BTo W1 x (k+1) v' w':=by
 obtain⟨h1,h2,h3⟩:=h;refine⟨_,h1.fr ((Fr.refl (fun _=>False) wr).alloc _) (fun _ _=>id),fun v' w' hA=>⟨?_,?_,?_⟩⟩
 ·have:=hA.own;rw[List.take_add_one,zwz x k hk];subst hb
  simpa [bytesV]using this
 ·intro g hg;rcases hA.block g hg with h | h
  ·exact h2 g h
  ·have:=h3.size;simp at h;omega
 ·exact(h3.alloc h3.size _).grown hA.grown (Nat.le_trans h3.size (by simp)) h2
theorem BTo.done{W1:World}{x:W4}{v:Value}{wr:World}(h:BTo W1 x 32 v wr):∃ g c,v= .slice (some ⟨g,0,none⟩) 32 c/\(convert 209 9 (.slice (some ⟨g,0,none⟩) 32 c)).run Tryz.prog wr= .ok (.string (amtB x)) wr/\Below W1.heap.size W1 wr:=by
 obtain⟨h1,h2,h3⟩:=h;have h4:=h1;rcases h1.2 with⟨_,h0⟩ | ⟨g,c,cur,rfl,_⟩
 ·omega
 ·exact⟨g,c,rfl,by rw[z7t h4];rfl,h3⟩
theorem BTo.row{W1:World}{x:W4}{k:Nat}{v:Value}{wr:World}(h:BTo W1 x k v wr){g:Nat}{o:Obj}(hg:W1.heap[g]?=some o):wr.heap[g]?=some o:=(h.2.2.block g (z02 hg)).trans hg
theorem zm8(x:W4)(w:World):Calls Tryz.prog 233 #[uV x] w fun e w'=>∃ v,e= .returned v/\BTo (w.alloc (uO x)) x 32 v w':=by
 have H0:Hid (BTo (w.alloc (uO x)) x 0 (.slice none 0 0) (w.alloc (uO x))):=⟨Own.nil _ _ _,fun g hg=>by simp[Value.ownBlock]at hg,Below.refl _ _⟩;have HR:Hid (∀ k v wr,BTo (w.alloc (uO x)) x k v wr->wr.heap[w.heap.size]?=some (uO x)):=fun k v wr h=>h.row (heap_alloc_new w _)
 go_enter Tryz.func233,Tryz.ntmps233;go_wp2_with fail
 go_loopw [3,4] (fun v iv wr=>∃ k:Nat,iv= .int .i64 (31-(k:Int))/\k<=32/\BTo (w.alloc (uO x)) x k v wr) (fun _ iv _=>(intOf iv+1).toNat)
 case atStart=>exact⟨0,rfl,by omega,H0.out⟩
 case round =>
  obtain⟨k,rfl,hk,hB⟩:=hrel;have hrow:=HR.out k _ wr hB;have HB:=zh hB;clear H0
  by_cases hlt:k<32
  ·have h4:(31-k)/8<4:=by omega
   have cA:wr.cell? ⟨w.heap.size,(31-k)/8,none⟩=some (.int .u64 (x.at ((31-k)/8))):=by rw[cell_of_row _ _ _ _ _ _ hrow];exact z4v x _ h4
   have hval:(((x.at ((31-k)/8):Nat):Int)/2 ^ (8*((31-k)%8))%256:Int)=(((z99 x k).toNat:Nat):Int):=by
    unfold z99;rw[UInt8.toNat_ofNat'];simp
   obtain⟨xs,ho,hst⟩:=hB.next hlt _ rfl;have HO:=zh ho;have HST:=zh hst;have hi:(31-(k:Int))=((31-k:Nat):Int):=by omega
   rw[hi];clear ho hst hB HB hrow;generalize x.at ((31-k)/8)=a at *
   go_wp2_with (at_builtin;refine z08 rfl _ _ 209 209 rfl z4g z4g _ k xs rfl HO.out _ 1 _ [.int .u8 (((z99 x k).toNat:Nat):Int)] rfl rfl (z1r _ _ _) (z9q _) (by unfold maxLen;omega) (by omega) ?_);intro v' w' hA;have HR2:=zh (HST.out v' w' hA);clear hA;go_wp2_with fail;go_roundw
   case rel=>exact⟨k+1,by first | rfl | go_num,by omega,HR2.out⟩
   case measure=>simp[intOf]
  ·obtain rfl:k=32:=by omega
   clear hB;go_wp2_with fail;go_ret;exact⟨_,rfl,HB.out⟩
theorem zi1(x:W4)(w:World):Calls Tryz.prog 199 #[uV x] w fun e w'=>e= .returned (.string (amtB x))/\Below w.heap.size w w':=by
 have hx4:=row4 (heap_alloc_new w (.cells (uL x) 24));obtain⟨q0,q1,q2,q3,_⟩:=hx4;have HB:Hid (Calls Tryz.prog 233 #[uV x] (w.alloc (.cells (uL x) 24)) fun e w'=>∃ g c,e= .returned (.slice (some ⟨g,0,none⟩) 32 c)/\(convert 209 9 (.slice (some ⟨g,0,none⟩) 32 c)).run Tryz.prog w' = .ok (.string (amtB x)) w'/\Below w.heap.size w w'):=
  (zm8 x _).mono fun e w' ⟨v,he,hA⟩=>by
   obtain⟨g,c,rfl,h1,h2⟩:=hA.done
   exact⟨g,c,he,h1,z0b (z00 (Below.refl _ w) _) (z0b (z00 zb _) h2)⟩
 go_enter Tryz.func199,Tryz.ntmps199;go_wp2_with (go_at_call 233;refine HB.out.mono ?_;rintro e w' ⟨g,c,rfl,hcv,hb⟩);go_ret;exact⟨rfl,hb⟩
theorem zfd(s:ByteArray)(w:World):Calls Tryz.prog 165 #[.string s] w fun e w'=>e= .returned (.tuple #[uV (z2p s),.bool (s.size==32)])/\Below w.heap.size w w':=by
 obtain⟨c,w2,hcv,hb2,hlt,hcell⟩:=zpe s (w.alloc (.cells (uL (0,0,0,0)) 24));have hb1:=z0b (z00 (Below.refl _ w) _) hb2;have HF:Hid (Calls Tryz.prog 213 #[.slice (some ⟨w.heap.size+1,0,none⟩) s.size c] w2 fun e w'=>e= .returned (.tuple #[uV (z2p s),.bool (s.size==32)])/\Below w.heap.size w w'/\w'.heap[w.heap.size]?=some (.cells (uL (0,0,0,0)) 24 (0,0))):=by
  have hrow:w2.heap[w.heap.size]?=some (.cells (uL (0,0,0,0)) 24 (0,0)):=(hb2.block _ (by simp)).trans (heap_alloc_new w (.cells (uL (0,0,0,0)) 24));have fin:∀ {w'},Below w2.heap.size w2 w'->Below w.heap.size w w'/\w'.heap[w.heap.size]?=some (.cells (uL (0,0,0,0)) 24 (0,0)):=fun hb=>⟨z0b hb1 hb,(hb.block _ (Array.getElem?_eq_some_iff.1 hrow).1).trans hrow⟩
  rw[World.size_alloc]at hlt hcell
  by_cases h:s.size=32
  ·unfold z2p;rw[h,if_pos rfl];exact(zmz (fun i=>(s.data.getD i 0).toNat) (fun i=>UInt8.toNat_lt _) _ c w2 hlt (fun j hj=>hcell j (by omega))).mono fun e w' ⟨he,hb⟩=>⟨he,fin hb⟩
  ·unfold z2p;rw[if_neg h,beq_eq_false_iff_ne.2 h];exact(zn9 _ s.size c h w2).mono fun e w' ⟨he,hb⟩=>⟨he,fin hb⟩
 rw[World.size_alloc]at hcv;have hcv:(convert 9 209 (.string s)).run Tryz.prog (w.alloc (.cells #[.int .u64 0,.int .u64 0,.int .u64 0,.int .u64 0] 24))= .ok (.slice (some ⟨w.heap.size+1,0,none⟩) s.size c) w2:=hcv;clear hb2 hlt hcell hb1;generalize z2p s=x at *
 go_enter Tryz.func165,Tryz.ntmps165;go_wp2_with fail;refine HF.out.mono ?_;rintro e w3 ⟨rfl,hb3,hrow⟩;have HR:=zh hrow;obtain⟨_,_,_,_,r0,r1,r2,r3⟩:=row4 hrow;clear hrow HF;go_wp2_with fail;refine bodyPost_ret (z03 rfl _ _ w.heap.size 24 (uL x) (0,0) _ rfl (put4 HR.out x) Tryz.underlying24 rfl (by kernel_rfl)) rfl ?_;exact⟨rfl,z0f hb3 (by omega) _ _ _ _⟩
theorem zm3(w:World)(b:Nat)(k v:ByteArray)(ok:Bool)(hG:∀ w1,Below w.heap.size w w1->zgn w1 b k v ok):Calls Tryz.prog 91 #[.pointer (some ⟨b,0,none⟩),.string k] w fun e w'=>e= .returned (uV (z2p v))/\Below w.heap.size w w':=by
 have hb0:=z00 (Below.refl _ w) (.cells (uL (0,0,0,0)) 24);have HG:Hid (zgn (w.alloc (.cells (uL (0,0,0,0)) 24)) b k v ok):=hG _ hb0;have HT:Hid (Calls Tryz.prog 165 #[.string v] (w.alloc (.cells (uL (0,0,0,0)) 24)) fun e w'=>e= .returned (.tuple #[uV (z2p v),.bool (v.size==32)])/\Below w.heap.size w w'/\w'.heap[w.heap.size]?=some (.cells (uL (0,0,0,0)) 24 (0,0))):=
  (zfd v _).mono fun e w' ⟨he,hb⟩=>⟨he,z0b hb0 hb,(hb.block _ (by simp)).trans (heap_alloc_new w (.cells (uL (0,0,0,0)) 24))⟩
 clear hG hb0;generalize z2p v=x at *
 unfold zgn at HG;go_enter Tryz.func91,Tryz.ntmps91;go_wp2_with fail;refine zm HG.out ?_;rintro e w' ⟨rfl,rfl⟩;go_wp2_with fail;refine HT.out.mono ?_;rintro e w3 ⟨rfl,hb3,hrow⟩;have HR:=zh hrow;obtain⟨_,_,_,_,r0,r1,r2,r3⟩:=row4 hrow;have hn3:w.heap.size<w3.heap.size:=(Array.getElem?_eq_some_iff.1 hrow).1;have hne:w3.heap.size≠w.heap.size:=by omega
 have hne2:=Ne.symm hne;clear hrow HT HG;go_wp2_with fail;refine bodyPost_ret (results_cell_row rfl _ _ w.heap.size 24 (uL x) (0,0) _ rfl ?_ Tryz.underlying24 rfl (by kernel_rfl)) rfl ?_
 ·rw[heap_alloc_old _ _ (by simpa using hn3)];exact put4 HR.out x
 ·exact⟨rfl,z00 (z0f hb3 (by omega) _ _ _ _) _⟩
theorem zfy(w:World)(b:Nat)(s:St)(L:List Nat)(k:ByteArray)(h:RRep w b s L)(hn:s.ents.length<1000000000000):Calls Tryz.prog 91 #[.pointer (some ⟨b,0,none⟩),.string k] w fun e w'=>e= .returned (uV (s.amt k))/\Below w.heap.size w w':=
 zm3 w b k (s.val k) (getE s.ents k).isSome fun w1 h1=>z9f w1 b s L k (h.below h1) hn
theorem zij(w:World)(b:Nat)(s:St)(L:List Nat)(k:ByteArray)(x:W4)(h:RRep w b s L)(hb:s.size<1000000000000) :
  Calls Tryz.prog 134 #[.pointer (some ⟨b,0,none⟩),.string k,uV x] w fun e w'=>e= .returned (.tuple #[])/\RetR w b L (.tuple #[]) (s.z09 k x) (.returned (.tuple #[])) w':=by
 have hb1:=z00 (Below.refl _ w) (.cells (uL x) 24)
 by_cases h0:x=(0,0,0,0)
 ·have e:s.z09 k x=s.del k:=by unfold St.z09 St.put;rw[if_pos h0,if_pos rfl]
  rw[e];have HD:Hid (∀ w1,Below w.heap.size w w1->Calls Tryz.prog 136 #[.pointer (some ⟨b,0,none⟩),.string k] w1 fun e w'=>e= .returned (.bool (getE s.ents k).isSome)/\RetR w b L (.tuple #[]) (s.del k) (.returned (.tuple #[])) w'):=fun w1 h1=>(z8z w1 b s L k (h.below h1) hb).mono fun e w' h2=>⟨h2.1,RetR.of_below h1 ⟨rfl,h2.2⟩⟩
  have HB1:=zh hb1;subst h0;have hE:∀ w,(Op.equalIn 10000 24 (.agg #[.int .u64 0,.int .u64 0,.int .u64 0,.int .u64 0]) (.agg #[.int .u64 0,.int .u64 0,.int .u64 0,.int .u64 0])).run Tryz.prog w= .ok true w:=fun w=>eqU (0,0,0,0) (0,0,0,0) w
  generalize RetR w b L (.tuple #[]) (s.del k)=R at *
  clear h hb e hb1;go_enter Tryz.func134,Tryz.ntmps134;go_wp2_with (go_at_call 136;refine(HD.out _ HB1.out).mono ?_;rintro e w' ⟨rfl,hR⟩);refine bodyPost_ret (results_none rfl _ _ _) rfl ?_;exact⟨rfl,hR⟩
 ·have HS:Hid (∀ w1,Below w.heap.size w w1->Calls Tryz.prog 198 #[.pointer (some ⟨b,0,none⟩),.string k,.string (amtB x)] w1 fun e w'=>∃ n,e= .returned (.int .i64 n)/\RetR w b L (.tuple #[]) (s.z09 k x) (.returned (.tuple #[])) w'):=fun w1 h1=>by
   have hne:¬ amtB x=z05:=fun e=>by have:=congrArg (fun z:ByteArray=>z.data.size) e;simp[amtB,amtL,z05]at this
   unfold St.z09 St.put;rw[if_neg h0,if_neg hne]
   by_cases hk:k=z05
   ·rw[if_pos hk,hk];exact(zes w1 b (amtB x)).mono fun e w' ⟨he,hw⟩=>⟨2,he,RetR.of_below h1 ⟨rfl,L,hw▸h.below h1,hw▸Step.refl _ _⟩⟩
   ·rw[if_neg hk];exact(zg3 w1 b s L k (amtB x) (h.below h1) hk hb).mono fun e w' h2=>⟨0,h2.1,RetR.of_below h1 ⟨rfl,h2.2⟩⟩
  have HK:Hid (Calls Tryz.prog 199 #[uV x] (w.alloc (.cells (uL x) 24)) fun e w'=>e= .returned (.string (amtB x))/\Below w.heap.size w w'):=(zi1 x _).mono fun e w' ⟨he,hb⟩=>⟨he,z0b hb1 hb⟩
  have hE:∀ w,(Op.equalIn 10000 24 (.agg #[.int .u64 x.1,.int .u64 x.2.1,.int .u64 x.2.2.1,.int .u64 x.2.2.2]) (.agg #[.int .u64 0,.int .u64 0,.int .u64 0,.int .u64 0])).run Tryz.prog w= .ok false w:=z7b h0;have hq:=row4 (heap_alloc_new w (.cells (uL x) 24));obtain⟨q0,q1,q2,q3,_⟩:=hq;generalize RetR w b L (.tuple #[]) (s.z09 k x)=R at *
  generalize amtB x=nb at *
  clear h hb hb1;go_enter Tryz.func134,Tryz.ntmps134;go_wp2_with (first | (go_at_call 199;refine HK.out.mono ?_;rintro e w1 ⟨rfl,hb1⟩)|(go_at_call 198;refine(HS.out _ hb1).mono ?_;rintro e w' ⟨n,rfl,hR⟩))
  go_end0
  exact⟨rfl,hR⟩
abbrev FV(b:Nat)(w:World)(L:List Nat)(s:St)(rs:List (Nat × Obj))(W:World):Prop:=QV (FRep b) w L s rs W
theorem FV.start{b:Nat}{w:World}{L:List Nat}{s:St}(h:RRep w b s L):FV b w L s [] w:=QV.start (zv1 b) h
def ROn(w:World)(b:Nat)(L:List Nat)(s:St)(W:World):Prop:=∃ L',RRep W b s L'/\Step w L W L'
theorem FV.done{b:Nat}{w W:World}{L:List Nat}{s:St}{rs:List (Nat × Obj)}(h:FV b w L s rs W):ROn w b L s W:=QV.done h
theorem FV.cset{b:Nat}{w W:World}{L:List Nat}{s:St}{rs:List (Nat × Obj)}(hq:FV b w L s rs W)(hz:s.size<1000000000000)(k:ByteArray)(x:W4):Calls Tryz.prog 134 #[.pointer (some ⟨b,0,none⟩),.string k,uV x] W fun e W'=>e= .returned (.tuple #[])/\FV b w L (s.z09 k x) rs W':=
 QV.call hq fun L' h1=>(zij W b s L' k x h1 hz).mono fun _ _ ⟨he,h2⟩=>⟨he,h2.2⟩
abbrev H1:Hand:=⟨none,true,[]⟩
end Go.Proofs.YtnkilceibkkjlaaGreat
namespace Go.Proofs.YtnkilceibkkjlaaGreat
open Go.RowKit
theorem z9n{s:St}(hs:Sorted s.ents)(k v j:ByteArray):getE (s.put k v).ents j=if k=j then(if v=z05 then none else if k=z05 then getE s.ents j else some v)else getE s.ents j:=by
 unfold St.put
 by_cases hv:v=z05
 ·rw[if_pos hv,if_pos hv];unfold St.del;split
  ·exact z9m _ hs _ _
  ·rename_i h
   by_cases hj:k=j
   ·subst hj;rw[if_pos rfl];cases hg:getE s.ents k with
    | none=>rfl
    | some u=>rw[hg]at h;exact absurd rfl h
   ·rw[if_neg hj]
 ·rw[if_neg hv,if_neg hv]
  by_cases hk:k=z05
  ·rw[if_pos hk,if_pos hk];split<;>rfl
  ·rw[if_neg hk,if_neg hk];unfold St.set;split
   ·rename_i h
    by_cases hj:k=j
    ·subst hj;rw[if_pos rfl];exact h
    ·rw[if_neg hj]
   ·exact z9r _ hs _ _ _
theorem put_comm{s:St}(hs:Sorted s.ents){k1 k2:ByteArray}(hk:k1≠k2)(u v:ByteArray):((s.put k1 u).put k2 v).ents=((s.put k2 v).put k1 u).ents:=by
 refine z8f (z6u (z6u hs _ _) _ _) (z6u (z6u hs _ _) _ _) fun j => ?_
 rw[z9n (z6u hs _ _),z9n (z6u hs _ _),z9n hs,z9n hs]
 by_cases h1:k1=j
 ·subst h1;rw[if_neg (Ne.symm hk),if_neg (Ne.symm hk)]
 ·rw[if_neg h1,if_neg h1]
theorem z4c{s m:St}(h:s.ents=m.ents)(k v:ByteArray):(s.put k v).ents=(m.put k v).ents:=by
 unfold St.put St.del St.set;rw[h];split
 ·split
  ·rfl
  ·exact h
 ·split
  ·exact h
  ·split
   ·exact h
   ·rfl
theorem z5m{s m:St}(h:s.ents=m.ents)(k:ByteArray):s.amt k=m.amt k:=by
 unfold St.amt St.val;rw[h]
theorem z2e{s m:St}(h:s.ents=m.ents)(k:ByteArray)(x:W4):(s.z09 k x).ents=(m.z09 k x).ents:=z4c h _ _
theorem z7z{t:Nat}{l:List Int}(h:∀ n∈l,¬ n<0):(keyL t l).data[0]?=some (UInt8.ofNat t):=by
 rw[z9k h];show(keyBytes t l).toArray[0]?=_
 unfold keyBytes;simp
theorem zqh(x:W4)(i:Nat):(z99 x i).toNat=x.at ((31-i)/8)/2 ^ (8*((31-i)%8))%256:=rfl
theorem zr8(v p:Nat)(hp:p<8):v/2 ^ (8*(p+1))*2 ^ (8*(p+1))+v/2 ^ (8*p)%256*2 ^ (8*p)=v/2 ^ (8*p)*2 ^ (8*p):=by
 match p,hp with
 | 0,_ | 1,_ | 2,_ | 3,_ | 4,_ | 5,_ | 6,_ | 7,_=>simp only[Nat.reduceMul,Nat.reduceAdd,Nat.reducePow];omega
theorem zka(f:Nat->Nat)(x:W4)(hx:x.Ok) (hf:∀ i,i<32->f i=x.at ((31-i)/8)/2 ^ (8*((31-i)%8))%256):∀ i,i<=32->∀ j,j<4->(z1v f i).at j=x.at j/2 ^ (8*min 8 (32-i-8*j))*2 ^ (8*min 8 (32-i-8*j))
 | 0,_,j,hj=>by
  have h8:min 8 (32-0-8*j)=8:=by omega
  rw[h8]
  have h0:x.at j/2 ^ (8*8)=0:=Nat.div_eq_of_lt (hx.at j)
  rw[h0,Nat.zero_mul]
  match j,hj with
  | 0,_ | 1,_ | 2,_ | 3,_=>rfl
 | i+1,hi,j,hj=>by
  have ih:=zka f x hx hf i (by omega)
  have hk:(31-i)/8<4:=by omega
  show((z1v f i).set ((31-i)/8) ((z1v f i).at ((31-i)/8)+f i*2 ^ (8*((31-i)%8)))).at j=_
  rw[z7m _ _ _ _ hk hj]
  by_cases e:(31-i)/8=j
  ·rw[if_pos e,ih _ hk,hf i (by omega),e]
   have e1:min 8 (32-i-8*j)=(31-i)%8+1:=by omega
   have e2:min 8 (32-(i+1)-8*j)=(31-i)%8:=by omega
   rw[e1,e2]
   exact zr8 _ _ (Nat.mod_lt _ (by decide))
  ·rw[if_neg e,ih j hj]
   have e1:min 8 (32-i-8*j)=min 8 (32-(i+1)-8*j):=by omega
   rw[e1]
theorem zpa(x:W4):(amtB x).size=32:=by
 show(amtL x).toArray.size=32
 simp[amtL]
theorem zxc(x:W4)(i:Nat)(hi:i<32):(amtB x).data.getD i 0=z99 x i:=by
 show(amtL x).toArray.getD i 0=_
 have:(amtL x).toArray[i]?=some (z99 x i):=by
  unfold amtL;rw[List.getElem?_toArray,List.getElem?_map,List.getElem?_range hi];rfl
 rw[Array.getD_eq_getD_getElem?,this];rfl
theorem zmt{x:W4}(hx:x.Ok):z2p (amtB x)=x:=by
 unfold z2p;rw[if_pos (zpa x)];refine zpn fun j hj => ?_
 rw[zka _ x hx (fun i hi=>by rw[zxc x i hi,zqh]) 32 (Nat.le_refl _) j hj];have:min 8 (32-32-8*j)=0:=by omega
 rw[this,Nat.mul_zero,Nat.pow_zero,Nat.div_one,Nat.mul_one]
end Go.Proofs.YtnkilceibkkjlaaGreat
namespace Go.Proofs.YtnkilceibkkjlaaGreat
open Go.RowKit
def bsr(p:Nat->Bool):Nat->Nat->Nat->Nat
 | 0,lo,_=>lo
 | k+1,lo,hi=>if hi<=lo then lo else if p (lo+(hi-lo)/2)then bsr p k (lo+(hi-lo)/2+1) hi else bsr p k lo (lo+(hi-lo)/2)
def St.hpI(s:St)(t:Nat)(l:List Int)(i:Int):Nat × W4:=hpt (s.val (keyL t (l ++ [i])))
def St.hpos(s:St)(t:Nat)(l:List Int)(b:Int):Nat:=bsr (fun i=>decide (((s.hpI t l (i:Nat)).1:Int)<=b)) (s.hlen t l) 0 (s.hlen t l)
def St.hat(s:St)(t:Nat)(l:List Int)(b:Int):W4:=if s.hpos t l b=0 then(0,0,0,0)else(s.hpI t l ((s.hpos t l b:Nat)-1)).2
structure q0a (h:Hand) (w:World) (s:St) (wr:World):Prop where
 v:HV h w s [(w.heap.size,zO)] wr
 b:Below w.heap.size w wr
theorem zcy(w:World)(y:Value)(l:List Int)(n:Int)(h:z0w w y l)(hl:IdOk l):Calls Tryz.prog 201 #[y,.int .i64 n] w fun e w'=>∃ v,e= .returned v/\z0w w' v (l ++ [n])/\Below w.heap.size w w':=by
 have hS:=zk5 h;have hown:Own (w.alloc (.cells #[] 3)) 3 1 (.slice (some ⟨w.heap.size,0,none⟩) 0 0) 0 []:=
  ⟨rfl,.inr ⟨w.heap.size,0,#[],rfl,heap_alloc_new w _,Nat.le_refl _,Nat.zero_le _,Nat.zero_le _,rfl⟩⟩
 have hS2:=hS.below (w':=w.alloc (.cells #[] 3)) ((Below.refl _ w).alloc (Nat.le_refl _) _);have hll:=hl.len;have hys:∃ ya yk,y= .slice ya l.length yk:=by
  rcases h with⟨rfl,rfl⟩ | ⟨a,c,rfl,_⟩
  ·exact⟨_,_,rfl⟩
  ·exact⟨_,_,rfl⟩
 have HF:Hid (∀ v' w',z0s (w.alloc (.cells #[] 3)) 3 1 (.slice (some ⟨w.heap.size,0,none⟩) 0 0) 0 l.length [] (l.map fun n=>Value.int .i64 n) v' w'->∃ a c,v' = .slice a l.length c/\Own (w'.alloc (.cells #[.int .i64 n] 3)) 3 1 (.slice a l.length c) l.length (l.map fun n=>Value.int .i64 n)/\∀ v2 w2,z0s (w'.alloc (.cells #[.int .i64 n] 3)) 3 1 (.slice a l.length c) l.length 1 (l.map fun n=>Value.int .i64 n) [.int .i64 n] v2 w2->z0w w2 v2 (l ++ [n])/\Below w.heap.size w w2):=fun v' w' hA=>by
  have ho:Own w' 3 1 v' l.length (l.map fun n=>Value.int .i64 n):=by have:=hA.own;simpa using this
  have hg:∀ g,v'.ownBlock=some g->w.heap.size<=g:=fun g hg=>by
   rcases hA.block g hg with h | h
   ·simp[Value.ownBlock]at h;omega
   ·simp at h;omega
  have hb:Below w.heap.size w w':=((Below.refl _ w).alloc (Nat.le_refl _) _).grown hA.grown (by simp) (fun k hk=>by simp[Value.ownBlock]at hk;omega);obtain⟨_,a,c,rfl,_⟩:=ho.src;refine⟨a,c,rfl,ho.frame fun k hk=>(z00 (Below.refl _ w') _).block k (ho.lt k hk),fun v2 w2 hA2=>⟨zku (by have:=hA2.own;simpa using this),?_⟩⟩;exact(z00 hb (.cells #[.int .i64 n] 3)).grown hA2.grown (Nat.le_trans hb.size (by simp)) fun k hk=>hg k hk
 have hmx:0+l.length<=maxLen:=by unfold maxLen;omega
 have hone:∀ u∈l.map (fun n=>Value.int .i64 n),u.oneCell'=true:=fun u hu=>by
  obtain⟨x,_,rfl⟩:=List.mem_map.1 hu;rfl
 obtain⟨ya,yk,rfl⟩:=hys;clear h hl hS;generalize hxs:(l.map fun n=>Value.int .i64 n)=xs at *
 generalize hln:l.length=m at *
 clear hxs hln;go_enter Tryz.func201,Tryz.ntmps201;go_wp2_with (at_builtin;refine z2a rfl _ _ 75 75 rfl intT intT _ 0 [] rfl hown _ m xs rfl hS2 hone hmx (by omega) ?_);intro v' w' hA;obtain⟨a,c,rfl,hO,hA2⟩:=HF.out v' w' hA;have HOO:=zh hO;have HAP:=zh hA2;clear hA hO hA2 HF hS2 hown hone;go_wp2_with (at_builtin;refine z08 rfl _ _ 75 75 rfl intT intT _ m xs rfl HOO.out _ 1 _ [.int .i64 n] rfl rfl (z1r _ _ _) (by intro u hu;rw[List.mem_singleton.1 hu];rfl) (by unfold maxLen;omega) (by omega) ?_);intro v2 w2 hA2;obtain⟨hI,hb⟩:=HAP.out _ _ hA2;have HE:=zh (And.intro hI hb);clear hA2 HAP HOO hI hb;go_wp2_with fail;go_ret;exact⟨_,rfl,HE.out.1,HE.out.2⟩
theorem zc2(W:World)(t:Nat)(ht1:1<=t)(ht2:t<=255)(v:Value)(l:List Int)(n:Int)(hv:z0w W v (l ++ [n]))(hl:IdOk l)(hn:I63 n):Calls Tryz.prog 95 #[.int .i64 t,v] W fun e w'=>e= .returned (.string (keyL t (l ++ [n])))/\Below W.heap.size W w':=
 z7a t ht1 ht2 v (l ++ [n]) W hv (by have:=hl.len;simp;omega) fun x hx=>by
  rcases List.mem_append.1 hx with h1 | h1
  ·exact hl.lt x h1
  ·rw[List.mem_singleton]at h1;subst h1;exact hn
theorem FV.z2r{b:Nat}{w W:World}{L:List Nat}{s:St}{rs:List (Nat × Obj)}(hq:FV b w L s rs W)(hz:s.size<1000000000000)(k:ByteArray)(n:Int)(hn:n<9223372036854775808):Calls Tryz.prog 189 #[.pointer (some ⟨b,0,none⟩),.string k,.int .i64 n] W fun e W'=>e= .returned (.tuple #[])/\FV b w L (s.z2r k n) rs W':=
 QV.call hq fun L' h1=>(zjc W b s L' k n hn h1 hz).mono fun _ _ ⟨he,h2⟩=>⟨he,h2⟩
end Go.Proofs.YtnkilceibkkjlaaGreat
namespace Go.Proofs.YtnkilceibkkjlaaGreat
open Go.RowKit
theorem ze8(m:W4)(hm:m.Ok)(w:World):Calls Tryz.prog 130 #[uV m] w fun e w'=>e= .returned (.bool (decide (uCmp m oneW<=0)))/\Below w.heap.size w w':=by
 have h:=zn3 m hm w;have h1:uN oneW=1000000000000000000:=by decide
 rwa [show decide (uN m<=1000000000000000000)=decide (uCmp m oneW<=0)from decide_eq_decide.2 (by rw[zlc,h1])]at h
theorem zov{w:World}{b:Nat}{s:St}{L:List Nat}{f:Nat}(h:RRep w b s L)(hf:s.Fit f)(hm:f<100000000000)(k:ByteArray):Calls Tryz.prog 98 #[.pointer (some ⟨b,0,none⟩),.string k] w (z5i w (rowOf (s.val k))):=
 zgt w b k _ _ (z9f w b s L k h (by have:=hf.size;unfold St.size at this;omega)) (Nat.lt_of_le_of_lt (hf.val _) (by decide))
end Go.Proofs.YtnkilceibkkjlaaGreat
namespace Go.Proofs.YtnkilceibkkjlaaGreat
open Go.RowKit
end Go.Proofs.YtnkilceibkkjlaaGreat
namespace Go.Proofs.YtnkilceibkkjlaaGreat
open Go.RowKit
end Go.Proofs.YtnkilceibkkjlaaGreat
namespace Go.Proofs.YtnkilceibkkjlaaGreat
open Go.RowKit
end Go.Proofs.YtnkilceibkkjlaaGreat
