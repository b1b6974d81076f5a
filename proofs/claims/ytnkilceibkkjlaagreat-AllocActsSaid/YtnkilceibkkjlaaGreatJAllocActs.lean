/- What is proved here: AllocActs' walk: true at every input -/
import Derived.Test.YtnkilceibkkjlaaGreatJAlTw
set_option maxRecDepth 100000
set_option maxHeartbeats 16000000
namespace Go.Proofs.YtnkilceibkkjlaaGreat
open Go.RowKit
section
variable {ops:Array Oper} {o:Oper} {a:Go.Act} {w:World} {K:Value->World->Prop} {x y:Operand} {g:Nat}
theorem zjn(hg:Region.wanted o (yielded ops a.tmps)=true)(ho:o.op= .fieldAddr 34 x 0)(hx:a.eval x= .pointer (some ⟨g,1,none⟩))(hk:K (.pointer (some ⟨g,1,none⟩)) w):rgDo Tryz.prog ops o a w K:=by
 refine z0o hg ?_ hk;clear hg hk;generalize a.eval=ev at hx ⊢;unfold execOp;simp only[ho,hx]
 go_simp
theorem zjb(hg:Region.wanted o (yielded ops a.tmps)=true)(ho:o.op= .fieldAddr 34 x 1)(hx:a.eval x= .pointer (some ⟨g,1,none⟩))(hk:K (.pointer (some ⟨g,2,none⟩)) w):rgDo Tryz.prog ops o a w K:=by
 refine z0o hg ?_ hk;clear hg hk;generalize a.eval=ev at hx ⊢;unfold execOp;simp only[ho,hx]
 go_simp
theorem z2r{k:Nat}{n:Int}(hg:Region.wanted o (yielded ops a.tmps)=true)(ho:o.op= .load 3 x)(hx:a.eval x= .pointer (some ⟨g,k,none⟩))(hc:w.cell? ⟨g,k,none⟩=some (.int .i64 n))(hk:K (.int .i64 n) w):rgDo Tryz.prog ops o a w K:=by
 refine z0o hg ?_ hk;clear hg hk;generalize a.eval=ev at hx ⊢;unfold execOp;simp only[ho,hx]
 go_simp
theorem zrh{A:LAct}(hg:Region.wanted o (yielded ops a.tmps)=true)(ho:o.op= .load 38 x)(hx:a.eval x= .pointer (some ⟨g,0,none⟩))(hr:w.heap[g]?=some (actO A))(hk:K (.agg A.L) w):rgDo Tryz.prog ops o a w K:=
 zc3 _ hg ho hx hr Tryz.underlying38 rfl (by show _=some 21;kernel_rfl) hk
end
theorem zka(w:World)(a:Option Addr)(c:Nat)(l:List LAct)(h:zlt w a l):Calls Tryz.prog 6 #[.slice a l.length c] w fun e w'=>e= .returned (.bool true)/\Below w.heap.size w w':=by
 have HL:=zh (zll w);have HN:=zh (at_new w)
 by_cases h80:80<l.length
 ·have hd:decide ((80:Int)<(l.length:Int))=true:=decide_eq_true (by omega);clear h;generalize l.length=n at *
  go_enter Tryz.func6,Tryz.ntmps6;go_wp2_with (go_at_call 14;refine HL.out.mono ?_;rintro e wb ⟨rfl,h1⟩);go_ret;exact⟨rfl,h1⟩
 ·have hd:decide ((80:Int)<(l.length:Int))=false:=decide_eq_false (by omega);have HC:Hid (∀ wr k x,Below w.heap.size w wr->l[k]?=some x->∃ ad,a=some ad/\∀ j v,x.L[j]?=some v->wr.cell? ((ad.add (k*21)).add j)=some v):=fun wr k x hb hk=>by
   obtain⟨ad,e,h0⟩:=h.at0 k x hk;exact⟨ad,e,fun j v hj=>by rw[hb.cell (World.block_lt_of_cell? w _ (h0 j v hj))];exact h0 j v hj⟩
  have HOK:Hid (∀ (k:Nat) (x:LAct),l[k]?=some x->x.Ok):=fun k x hk=>h.ok x (List.mem_of_getElem? hk)
  have HG:Hid (∀ k,k<l.length->∃ x,l[k]?=some x):=fun k hk=>⟨_,List.getElem?_eq_getElem hk⟩
  have HEQ:Hid (∀ u:W4,∀ w,(Op.equalIn 10000 24 (uV u) (uV u)).run Tryz.prog w= .ok true w):=fun u w=>by
   have:=eqU u u w
   rwa [decide_eq_true rfl]at this
  clear h HL;generalize l.length=n at *
  go_enter Tryz.func6,Tryz.ntmps6;go_wp2_with fail;refine zm HN.out ?_;rintro e w2 ⟨q,rfl,hS0⟩;have H0:=zh (hS0 _ rfl);clear hS0 HN;go_upto_region 4 with fail;generalize w2.alloc (.cells #[.slice none 0 0,.slice none 0 0] 45)=w3 at *
  generalize w2.heap.size=m at *
  go_wp2_with fail
  go_loopw [23] (fun i wr=>∃ (k:Nat) (s t:St),i= .int .i64 k/\k<=n/\AT w w3 q m k s t [] wr) (fun i _=>n-(intOf i).toNat)
  case atStart=>exact⟨0,_,_,rfl,by omega,H0.out⟩
  case round =>
   obtain⟨k,s,t,rfl,hk,hA⟩:=hrel;have HA:=zh hA;clear hA H0
   by_cases hlt:k<n
   ·obtain⟨x,hx⟩:=HG.out k hlt;obtain⟨ad,rfl,qs⟩:=HC.out wr k _ HA.out.zuv hx;have hxo:=HOK.out k x hx;have HQS:=zh qs;clear qs;have HN:=zh (heap_alloc_new wr (.cells #[.int .i64 0,.int .i64 0,.int .i64 0,.int .i64 0,.int .i64 0,.int .u64 0,.int .u64 0,.int .u64 0,.int .u64 0,.int .u64 0,.int .u64 0,.int .u64 0,.int .u64 0,.int .i64 0,.int .i64 0,.int .i64 0,.bool false,.int .u64 0,.int .u64 0,.int .u64 0,.int .u64 0] 38));have HX5:=zh (zto x);go_upto_region 6 with fail;go_upto_region 7 with(first | (with_reducible refine zg1 (op:=⟨some 26,.load _ _,_,_,_,_⟩) rfl 38 (.tmp 25) rfl (ad.add (k*21)) ?y1 x.L HQS.out _ Tryz.underlying38 ?y2 ?y3 ?y4)|(with_reducible refine wpList_store_row (o:=⟨none,.store _ _ _,_,_,_,_⟩) rfl 38 (.tmp 6) (.tmp 26) rfl wr.heap.size x.L ?x1 ?x2 38 #[.int .i64 0,.int .i64 0,.int .i64 0,.int .i64 0,.int .i64 0,.int .u64 0,.int .u64 0,.int .u64 0,.int .u64 0,.int .u64 0,.int .u64 0,.int .u64 0,.int .u64 0,.int .i64 0,.int .i64 0,.int .i64 0,.bool false,.int .u64 0,.int .u64 0,.int .u64 0,.int .u64 0] HN.out ?x3 ?x4 HX5.out ?x5))
    case y1=>rfl
    case y2=>rfl
    case y3=>show _=some 21;kernel_rfl
    case x1=>rfl
    case x2=>rfl
    case x3=>show _=some 21;kernel_rfl
    case x4=>rfl
    rw[World.setRow_alloc_new];simp only[Act.put];have hA1:=HA.out.alloc (actO x);clear HX5 HN HQS HA;generalize wr.alloc (.cells x.L 38)=w4 at *
    generalize wr.heap.size=gs at *
    obtain⟨_,⟨cx0,cx1,cx2,cx3⟩,_⟩:=z7o (hA1.row (g:=gs) (o:=actO x) (by simp));have HA2:=zh (hA1.alloc (riO x.x));clear hA1;go_upto_region 8 with fail;clear cx0 cx1 cx2 cx3;generalize w4.alloc (riO x.x)=w5 at *
    generalize w4.heap.size=gi at *
    have HA3:=zh HA2.out.drew;have HACT:Hid (∀ rs W,AT w w3 q m k s t rs W->_):=fun rs W h=>AT.act h (by omega) x hxo
    have hk1:k+1<=1000:=by omega
    have hx0:x.x.1<9223372036854775808:=hxo.x _ (by simp);have hx1:x.x.2.1<9223372036854775808:=hxo.x _ (by simp);obtain⟨s1,hs1⟩:∃ s1,s1=z7m s x:=⟨_,rfl⟩;obtain⟨t1,ht1⟩:∃ t1,t1=z6t t x:=⟨_,rfl⟩;rw[<- hs1,<- ht1]at HACT;clear hs1 ht1;have HCU:Hid (∀ rs W,AT w w3 q m (k+1) s1 t1 rs W->_):=fun rs W h=>AT.now h hk1 x.x hxo.x
    have HCF:Hid (∀ rs W,AT w w3 q m (k+1) s1 t1 rs W->_):=fun rs W h=>AT.nowF h hk1 x.x hxo.x
    have HEN:Hid (∀ rs W,AT w w3 q m (k+1) s1 t1 rs W->_):=fun rs W h=>AT.enc h hk1 x.x.1 x.x.2.1 hx0 hx1
    have HEF:Hid (∀ rs W,AT w w3 q m (k+1) s1 t1 rs W->_):=fun rs W h=>AT.encF h hk1 x.x.1 x.x.2.1 hx0 hx1
    have HSU:Hid (∀ rs W,AT w w3 q m (k+1) s1 t1 rs W->_):=fun rs W h=>AT.sum h hk1 x.x.1 x.x.2.1 hx0 hx1
    have HSF:Hid (∀ rs W,AT w w3 q m (k+1) s1 t1 rs W->_):=fun rs W h=>AT.sumF h hk1 x.x.1 x.x.2.1 hx0 hx1
    have HWA:Hid (∀ rs W,AT w w3 q m (k+1) s1 t1 rs W->_):=fun rs W h=>AT.waits h hk1 x.x.1 x.x.2.1 hx0 hx1
    have HWF:Hid (∀ rs W,AT w w3 q m (k+1) s1 t1 rs W->_):=fun rs W h=>AT.zyx h hk1 x.x.1 x.x.2.1 hx0 hx1
    have HPE:Hid (∀ rs W,AT w w3 q m (k+1) s1 t1 rs W->_):=fun rs W h=>AT.pend h hk1 x.x hxo.x
    have HPF:Hid (∀ rs W,AT w w3 q m (k+1) s1 t1 rs W->_):=fun rs W h=>AT.zzv h hk1 x.x hxo.x
    have HLN:Hid (∀ rs W,AT w w3 q m (k+1) s1 t1 rs W->_):=fun rs W h=>AT.len h hk1
    have HLF:Hid (∀ rs W,AT w w3 q m (k+1) s1 t1 rs W->_):=fun rs W h=>AT.lenF h hk1
    generalize cur s1 x.x=u1 at *
    generalize s1.amt (keyL 32 [x.x.1,x.x.2.1])=u2 at *
    generalize sumA s1 x.x.1 x.x.2.1=u3 at *
    generalize (ends s1 33 [x.x.1,x.x.2.1]).2-(ends s1 33 [x.x.1,x.x.2.1]).1=n4 at *
    generalize s1.int K27=n5 at *
    obtain⟨pp,hpp⟩:∃ pp,pp=pend s1 x.x:=⟨_,rfl⟩;rw[<- hpp]at HPE HPF;obtain⟨p1,p2,p3⟩:=pp;dsimp only at HPE HPF;clear hpp HA2 HOK hx hxo hx0 hx1;simp only[List.append];refine z05 [[],[],[],[0,1,2],[3],[3,4],[5],[5],[5,7],[3,5,6,8],[5],[5],[3,5,9,10,11],[5,9,12],[5,13],[3,9,12,14],[9,15],[15],[15,17],[15,18],[15],[15,20],[15,21],[3,9,12,15,16,19,22],[15],[15],[15,25],[15],[15,27],[3,9,12,15,23,24,26,28],[15,23,29],[15,30],[3,9,12,23,29,31],[9,23,32],[32],[32,34],[32,35],[32],[32,37],[32,38],[3,9,12,23,29,32,33,36,39],[32],[32],[32,42],[32],[32,44],[3,9,12,23,29,32,40,41,43,45],[32,40,46],[32,47],[3,9,12,23,29,40,46,48],[9,23,49],[29,49],[29,49,51],[29,49,52],[40,49],[40,49,54],[40,49,55],[3,9,12,23,29,40,46,49,50,53,56],[49],[49],[49,59],[49],[49,61],[3,9,12,23,29,40,46,49,57,58,60,62],[49,57,63],[49,64]]
     [.pointer q,.pointer (some ⟨m,0,none⟩),.agg x.L,.bool true,.bool false,.bool false,.pointer q,.pointer (some ⟨gs,1,none⟩),idV x.x,uV u1,.pointer (some ⟨m,0,none⟩),idV x.x,uV u1,.bool false,.bool false,.bool false,.pointer q,.pointer (some ⟨gs,1,none⟩),.pointer (some ⟨gs,1,none⟩),.int .i64 x.x.1,.pointer (some ⟨gs,1,none⟩),.pointer (some ⟨gs,2,none⟩),.int .i64 x.x.2.1,uV u2,.pointer (some ⟨m,0,none⟩),.pointer (some ⟨gi,0,none⟩),.int .i64 x.x.1,.pointer (some ⟨gi,1,none⟩),.int .i64 x.x.2.1,uV u2,.bool false,.bool false,.bool false,.pointer q,.pointer (some ⟨gs,1,none⟩),.pointer (some ⟨gs,1,none⟩),.int .i64 x.x.1,.pointer (some ⟨gs,1,none⟩),.pointer (some ⟨gs,2,none⟩),.int .i64 x.x.2.1,uV u3,.pointer (some ⟨m,0,none⟩),.pointer (some ⟨gi,0,none⟩),.int .i64 x.x.1,.pointer (some ⟨gi,1,none⟩),.int .i64 x.x.2.1,uV u3,.bool false,.bool false,.bool false,.pointer q,.pointer (some ⟨gs,1,none⟩),.pointer (some ⟨gs,1,none⟩),.int .i64 x.x.1,.pointer (some ⟨gs,1,none⟩),.pointer (some ⟨gs,2,none⟩),.int .i64 x.x.2.1,.int .i64 n4,.pointer (some ⟨m,0,none⟩),.pointer (some ⟨gi,0,none⟩),.int .i64 x.x.1,.pointer (some ⟨gi,1,none⟩),.int .i64 x.x.2.1,.int .i64 n4,.bool false,.bool false]
     [3,9,12,23,29,40,46,57,63] (ATPh w w3 q m k s t s1 t1 [(gi,riO x.x),(gs,actO x)]) _ (by kernel_rfl) (by kernel_rfl) (by kernel_rfl)
     (fun vs=>by simp only[z0z,z1b,List.setIfInBounds_toArray,List.set_cons_zero,List.set_cons_succ];exact rfl)
     (by simp only[List.getD_cons_zero,List.getD_cons_succ];exact rfl) HA3.out ?_ ?_
    ·exact⟨
     fun _ _ _ _ hP _=>z0c rfl (.inl rfl) rfl ⟨rfl,hP⟩,
     fun _ _ _ _ hP _=>z0c rfl (.inl rfl) rfl ⟨rfl,hP⟩,
     fun _ _ _ _ hP _=>zrh rfl rfl rfl (hP.row (by simp)) ⟨rfl,hP⟩,
     fun _ _ _ hA hP hq=>by cases hq 0 rfl;exact z0m rfl rfl rfl (by kernel_rfl) (rgL3 hA.1 hA.2.1 hA.2.2.1) (HACT.out _ _ hP) fun _ hP2=>⟨rfl,hP2⟩,
     fun _ _ _ hA hP _=>zz6 rfl rfl hA.1 ⟨rfl,hP⟩,
     fun _ _ _ hA hP _=>z0c rfl (.inl rfl) hA.2.1 ⟨rfl,hP⟩,
     fun _ _ _ hA hP _=>z0c (z0f rfl rfl rfl hA.1) (.inl rfl) rfl ⟨rfl,hP⟩,
     fun _ _ _ hA hP _=>zba (z0f rfl rfl rfl hA.1) rfl rfl ⟨rfl,hP⟩,
     fun _ _ _ hA hP _=>zei (z0f rfl rfl rfl hA.1) rfl hA.2.1 (hP.row (by simp)) ⟨rfl,hP⟩,
     fun _ _ _ hA hP hq=>by cases hq 1 rfl;exact z0m (z0f rfl rfl rfl hA.2.1) rfl rfl (by kernel_rfl) (rgL2 hA.2.2.1 hA.2.2.2.1) (HCU.out _ _ hP) fun _ hP2=>⟨rfl,hP2⟩,
     fun _ _ _ hA hP _=>z0c (z0f rfl rfl rfl hA.1) (.inl rfl) rfl ⟨rfl,hP⟩,
     fun _ _ _ hA hP _=>z3b (z0f rfl rfl rfl hA.1) rfl rfl (hP.row (by simp)) ⟨rfl,hP⟩,
     fun _ _ _ hA hP hq=>by cases hq 2 rfl;exact z0m (z0f rfl rfl rfl hA.2.1) rfl rfl (by kernel_rfl) (rgL2 hA.2.2.2.1 hA.2.2.2.2.1) (HCF.out _ _ hP) fun _ hP2=>⟨rfl,hP2⟩,
     fun _ _ _ hA hP _=>zja (z0f rfl rfl rfl hA.1) rfl hA.2.1 hA.2.2.1 ⟨rfl,hP⟩,
     fun _ _ _ hA hP _=>zg3 rfl rfl hA.1 hA.2.1 ⟨rfl,hP⟩,
     fun _ _ _ hA hP _=>z0c rfl (.inl rfl) hA.2.2.2.1 ⟨rfl,hP⟩,
     fun _ _ _ hA hP _=>z0c (z0f rfl rfl rfl hA.2.1) (.inl rfl) rfl ⟨rfl,hP⟩,
     fun _ _ _ hA hP _=>zba (z0f rfl rfl rfl hA.1) rfl rfl ⟨rfl,hP⟩,
     fun _ _ _ hA hP _=>zjn (z0f rfl rfl rfl hA.1) rfl hA.2.1 ⟨rfl,hP⟩,
     fun _ _ _ hA hP _=>z2r (z0f rfl rfl rfl hA.1) rfl hA.2.1 (z7o (hP.row (g:=gs) (o:=actO x) (by simp))).2.1.1 ⟨rfl,hP⟩,
     fun _ _ _ hA hP _=>zba (z0f rfl rfl rfl hA.1) rfl rfl ⟨rfl,hP⟩,
     fun _ _ _ hA hP _=>zjb (z0f rfl rfl rfl hA.1) rfl hA.2.1 ⟨rfl,hP⟩,
     fun _ _ _ hA hP _=>z2r (z0f rfl rfl rfl hA.1) rfl hA.2.1 (z7o (hP.row (g:=gs) (o:=actO x) (by simp))).2.1.2.1 ⟨rfl,hP⟩,
     fun _ _ _ hA hP hq=>by cases hq 3 rfl;exact z0m (z0f rfl rfl rfl hA.2.2.2.1) rfl rfl (by kernel_rfl) (rgL3 hA.2.2.2.2.1 hA.2.2.2.2.2.1 hA.2.2.2.2.2.2.1) (HEN.out _ _ hP) fun _ hP2=>⟨rfl,hP2⟩,
     fun _ _ _ hA hP _=>z0c (z0f rfl rfl rfl hA.1) (.inl rfl) rfl ⟨rfl,hP⟩,
     fun _ _ _ hA hP _=>z6g (z0f rfl rfl rfl hA.1) rfl rfl ⟨rfl,hP⟩,
     fun _ _ _ hA hP _=>z2r (z0f rfl rfl rfl hA.1) rfl hA.2.1 (z0a (hP.row (g:=gi) (o:=riO x.x) (by simp))).1 ⟨rfl,hP⟩,
     fun _ _ _ hA hP _=>z6m (z0f rfl rfl rfl hA.1) rfl rfl ⟨rfl,hP⟩,
     fun _ _ _ hA hP _=>z2r (z0f rfl rfl rfl hA.1) rfl hA.2.1 (z0a (hP.row (g:=gi) (o:=riO x.x) (by simp))).2.1 ⟨rfl,hP⟩,
     fun _ _ _ hA hP hq=>by cases hq 4 rfl;exact z0m (z0f rfl rfl rfl hA.2.2.2.1) rfl rfl (by kernel_rfl) (rgL3 hA.2.2.2.2.2.1 hA.2.2.2.2.2.2.1 hA.2.2.2.2.2.2.2.1) (HEF.out _ _ hP) fun _ hP2=>⟨rfl,hP2⟩,
     fun _ _ _ hA hP _=>zja (z0f rfl rfl rfl hA.1) rfl hA.2.1 hA.2.2.1 ⟨rfl,hP⟩,
     fun _ _ _ hA hP _=>zg3 rfl rfl hA.1 hA.2.1 ⟨rfl,hP⟩,
     fun _ _ _ hA hP _=>z0c rfl (.inl rfl) hA.2.2.2.2.2.1 ⟨rfl,hP⟩,
     fun _ _ _ hA hP _=>z0c (z0f rfl rfl rfl hA.2.2.1) (.inl rfl) rfl ⟨rfl,hP⟩,
     fun _ _ _ hA hP _=>zba (z0f rfl rfl rfl hA.1) rfl rfl ⟨rfl,hP⟩,
     fun _ _ _ hA hP _=>zjn (z0f rfl rfl rfl hA.1) rfl hA.2.1 ⟨rfl,hP⟩,
     fun _ _ _ hA hP _=>z2r (z0f rfl rfl rfl hA.1) rfl hA.2.1 (z7o (hP.row (g:=gs) (o:=actO x) (by simp))).2.1.1 ⟨rfl,hP⟩,
     fun _ _ _ hA hP _=>zba (z0f rfl rfl rfl hA.1) rfl rfl ⟨rfl,hP⟩,
     fun _ _ _ hA hP _=>zjb (z0f rfl rfl rfl hA.1) rfl hA.2.1 ⟨rfl,hP⟩,
     fun _ _ _ hA hP _=>z2r (z0f rfl rfl rfl hA.1) rfl hA.2.1 (z7o (hP.row (g:=gs) (o:=actO x) (by simp))).2.1.2.1 ⟨rfl,hP⟩,
     fun _ _ _ hA hP hq=>by cases hq 5 rfl;exact z0m (z0f rfl rfl rfl hA.2.2.2.2.2.1) rfl rfl (by kernel_rfl) (rgL3 hA.2.2.2.2.2.2.1 hA.2.2.2.2.2.2.2.1 hA.2.2.2.2.2.2.2.2.1) (HSU.out _ _ hP) fun _ hP2=>⟨rfl,hP2⟩,
     fun _ _ _ hA hP _=>z0c (z0f rfl rfl rfl hA.1) (.inl rfl) rfl ⟨rfl,hP⟩,
     fun _ _ _ hA hP _=>z6g (z0f rfl rfl rfl hA.1) rfl rfl ⟨rfl,hP⟩,
     fun _ _ _ hA hP _=>z2r (z0f rfl rfl rfl hA.1) rfl hA.2.1 (z0a (hP.row (g:=gi) (o:=riO x.x) (by simp))).1 ⟨rfl,hP⟩,
     fun _ _ _ hA hP _=>z6m (z0f rfl rfl rfl hA.1) rfl rfl ⟨rfl,hP⟩,
     fun _ _ _ hA hP _=>z2r (z0f rfl rfl rfl hA.1) rfl hA.2.1 (z0a (hP.row (g:=gi) (o:=riO x.x) (by simp))).2.1 ⟨rfl,hP⟩,
     fun _ _ _ hA hP hq=>by cases hq 6 rfl;exact z0m (z0f rfl rfl rfl hA.2.2.2.2.2.1) rfl rfl (by kernel_rfl) (rgL3 hA.2.2.2.2.2.2.2.1 hA.2.2.2.2.2.2.2.2.1 hA.2.2.2.2.2.2.2.2.2.1) (HSF.out _ _ hP) fun _ hP2=>⟨rfl,hP2⟩,
     fun _ _ _ hA hP _=>zja (z0f rfl rfl rfl hA.1) rfl hA.2.1 hA.2.2.1 ⟨rfl,hP⟩,
     fun _ _ _ hA hP _=>zg3 rfl rfl hA.1 hA.2.1 ⟨rfl,hP⟩,
     fun _ _ _ hA hP _=>z0c rfl (.inl rfl) hA.2.2.2.2.2.2.2.1 ⟨rfl,hP⟩,
     fun _ _ _ hA hP _=>z0c (z0f rfl rfl rfl hA.2.2.1) (.inl rfl) rfl ⟨rfl,hP⟩,
     fun _ _ _ hA hP _=>zba (z0f rfl rfl rfl hA.2.1) rfl rfl ⟨rfl,hP⟩,
     fun _ _ _ hA hP _=>zjn (z0f rfl rfl rfl hA.2.1) rfl hA.2.2.1 ⟨rfl,hP⟩,
     fun _ _ _ hA hP _=>z2r (z0f rfl rfl rfl hA.2.1) rfl hA.2.2.1 (z7o (hP.row (g:=gs) (o:=actO x) (by simp))).2.1.1 ⟨rfl,hP⟩,
     fun _ _ _ hA hP _=>zba (z0f rfl rfl rfl hA.2.1) rfl rfl ⟨rfl,hP⟩,
     fun _ _ _ hA hP _=>zjb (z0f rfl rfl rfl hA.2.1) rfl hA.2.2.1 ⟨rfl,hP⟩,
     fun _ _ _ hA hP _=>z2r (z0f rfl rfl rfl hA.2.1) rfl hA.2.2.1 (z7o (hP.row (g:=gs) (o:=actO x) (by simp))).2.1.2.1 ⟨rfl,hP⟩,
     fun _ _ _ hA hP hq=>by cases hq 7 rfl;exact z0m (z0f rfl rfl rfl hA.2.2.2.2.2.2.2.1) rfl rfl (by kernel_rfl) (rgL3 hA.2.2.2.2.2.2.2.2.1 hA.2.2.2.2.2.2.2.2.2.1 hA.2.2.2.2.2.2.2.2.2.2.1) (HWA.out _ _ hP) fun _ hP2=>⟨rfl,hP2⟩,
     fun _ _ _ hA hP _=>z0c (z0f rfl rfl rfl hA.1) (.inl rfl) rfl ⟨rfl,hP⟩,
     fun _ _ _ hA hP _=>z6g (z0f rfl rfl rfl hA.1) rfl rfl ⟨rfl,hP⟩,
     fun _ _ _ hA hP _=>z2r (z0f rfl rfl rfl hA.1) rfl hA.2.1 (z0a (hP.row (g:=gi) (o:=riO x.x) (by simp))).1 ⟨rfl,hP⟩,
     fun _ _ _ hA hP _=>z6m (z0f rfl rfl rfl hA.1) rfl rfl ⟨rfl,hP⟩,
     fun _ _ _ hA hP _=>z2r (z0f rfl rfl rfl hA.1) rfl hA.2.1 (z0a (hP.row (g:=gi) (o:=riO x.x) (by simp))).2.1 ⟨rfl,hP⟩,
     fun _ _ _ hA hP hq=>by cases hq 8 rfl;exact z0m (z0f rfl rfl rfl hA.2.2.2.2.2.2.2.1) rfl rfl (by kernel_rfl) (rgL3 hA.2.2.2.2.2.2.2.2.2.1 hA.2.2.2.2.2.2.2.2.2.2.1 hA.2.2.2.2.2.2.2.2.2.2.2.1) (HWF.out _ _ hP) fun _ hP2=>⟨rfl,hP2⟩,
     fun _ _ _ hA hP _=>zvi (z0f rfl rfl rfl hA.1) rfl hA.2.1 hA.2.2.1 (bne_self_eq_false _) ⟨rfl,hP⟩,
     fun _ _ _ hA hP _=>zg3 rfl rfl hA.1 hA.2.1 ⟨rfl,hP⟩,
     trivial⟩
    intro w8 hA8;have HA8:Hid (AT w w3 q m (k+1) s1 t1 [(gi,riO x.x),(gs,actO x)] w8):=zh hA8;clear hA8 HA3 HACT HCU HCF HEN HEF HSU HSF HWA HWF;obtain⟨_,⟨cx0,cx1,cx2,cx3⟩,_⟩:=z7o (HA8.out.row (g:=gs) (o:=actO x) (by simp));have HP1:=zh (HPE.out _ _ HA8.out);clear HA8;go_wp2_with fail;refine zm HP1.out ?_;rintro e w9 ⟨rfl,hA9⟩;have HA10:=zh (hA9.alloc (uO p2));clear hA9 HP1 cx0 cx1 cx2 cx3;go_upto_region 11 with fail;generalize w9.alloc (uO p2)=w10 at *
    generalize w9.heap.size=g9 at *
    obtain⟨i0,i1,i2,i3⟩:=z0a (HA10.out.row (g:=gi) (o:=riO x.x) (by simp));have HP2:=zh (HPF.out _ _ HA10.out);clear HA10;go_wp2_with fail;refine zm HP2.out ?_;rintro e w11 ⟨rfl,hA11⟩;have HA12:=zh (hA11.alloc (uO p2));clear hA11 HP2 i0 i1 i2 i3;go_upto_region 12 with fail;generalize w11.alloc (uO p2)=w12 at *
    generalize w11.heap.size=g11 at *
    obtain⟨a0,a1,a2,a3,_⟩:=row4 (HA12.out.row (g:=g9) (o:=uO p2) (by simp));obtain⟨b0,b1,b2,b3,_⟩:=row4 (HA12.out.row (g:=g11) (o:=uO p2) (by simp));have hqp:=HEQ.out p2;have HL1:=zh (HLN.out _ _ HA12.out);clear HA12 HLN HPE HPF;go_wp2_with fail;refine zm HL1.out ?_;rintro e w13 ⟨rfl,hA13⟩;have HL2:=zh (HLF.out _ _ hA13);clear hA13 HL1 a0 a1 a2 a3 b0 b1 b2 b3;go_wp2_with fail;refine zm HL2.out ?_;rintro e w14 ⟨rfl,hA14⟩;have HR:=zh (hA14.less (rs':=[]) (by simp));clear hA14 HL2;go_wp2_with fail;go_roundw
    case rel=>exact⟨k+1,s1,t1,by go_num,by omega,HR.out⟩
    case measure=>simp[intOf];omega
   ·obtain rfl:k=n:=by omega
    as_aux_lemma =>
     obtain⟨a2,n2,c2,hm,hD⟩:=lend HA.out (by omega);have HDO:=zh hD;clear hD;unfold LEnd at HDO;go_wp2_with fail
     go_region_held3 (fun w'=>w'.cell? ⟨m,0,none⟩=some (.slice a2 n2 c2)) (go_keep)
      (first
       | (go_at_call 36;refine zm HDO.out ?_;rintro e v4 ⟨a4,c4,rfl,hm4,hS⟩;have HS4:=zh hS;clear hS)
       | (go_at_call 35;refine zm HS4.out ?_;rintro e v5 ⟨rfl,hm5,hS⟩;have HS5:=zh hS;clear hS)
       | (go_at_call 14;refine zm HS5.out ?_;rintro e v6 ⟨rfl,hm6,hB6⟩))
     go_wp2;go_ret;exact⟨rfl,hB6⟩
end Go.Proofs.YtnkilceibkkjlaaGreat
namespace Go.Proofs.YtnkilceibkkjlaaGreat.allocActs
open Go.ChangeShapes Go.WideShapes Go.ChangeAt Go.RowKit
set_option linter.unusedVariables false
theorem params:Tryz.f6.params=#[32]:=rfl
theorem lifted(os:Os)(started:os.Started)(H:Type)(enc:TypeId × Value->H) :
  ReturnsInHanded {} Tryz.checked os 6 .any (Rows.allocActsSpec.pre6 enc Tryz.prog Tryz.f6 Rows.allocActsRow.domain false) (Rows.allocActsSpec.post enc Tryz.prog Tryz.f6 false true false false):=by
 refine returnsInHanded_of_change (C:=Tryz.checked) own started (by kernel_rfl) Tryz.func6
  (ChangeSpec.witness6 (enc:=enc) (C:=Tryz.checked) false ⟨#[],#[.slice none 0 0],[]⟩ 8 (by kernel_rfl) (by kernel_rfl) (by kernel_rfl) (by kernel_rfl)) ?_
 intro W base args ds gs before hval0 hW hcnd _;have hval:∀ (j:Nat) t v,Tryz.f6.params[j]?=some t->args[j]?=some v->Value.okWide Tryz.prog W .any base t v:=hval0;have hW':=hW;obtain⟨p,q,hA0,hV,rfl,hfz,hnd⟩:=hW;have hA:DataW.TrodAll enc Tryz.prog W 0 (fun _=>true) true Tryz.f6.params.toList args.toList ds p:=hA0;rw[params]at hA hval;obtain⟨v0,vs0,d0,ds0,p0,q0,hargs,rfl,rfl,h0,r0⟩:=trodAll_cons hA;obtain⟨rfl,rfl,rfl⟩:=trodAll_nil r0;obtain rfl:args=#[v0]:=by cases args;simp_all
 obtain⟨rfl,rfl⟩:=trodVars_none hV;obtain⟨l0,a0,c0,rfl,hl0⟩:=zk9 (hval 0 32 v0 rfl rfl) h0;clear hA0 hval0;refine(zka W a0 c0 l0 hl0).mono fun e W' ⟨he,hg⟩ => ?_
 subst he;exact⟨_,rfl,zno laid (tb:=4) (by kernel_rfl) rfl (zry (by kernel_rfl)) rfl hW' rfl hg⟩
theorem over:Rows.allocActsRow.holds Tryz.pinned (OpenSpec.ofChange Rows.allocActsSpec):=
 OpenClaim.holds_of_wide 6 Tryz.f6 rfl rfl rfl rfl rfl rfl rfl ⟨rfl,rfl,rfl,rfl,rfl⟩ rfl rfl rfl rfl rfl (by kernel_rfl) Tryz.func6 (by kernel_rfl)
  (of_decide_eq_true (by kernel_rfl)) (by unfold Func.isWrapper;first | (rw[if_pos (by decide +kernel)];kernel_rfl)|(rw[if_neg (by decide +kernel)];exact⟨rfl,rfl⟩))
  (fun os started H enc _=>lifted os started H enc)
theorem proved:Rows.AllocActsSaid:=
 over
#print axioms proved
end Go.Proofs.YtnkilceibkkjlaaGreat.allocActs
