/- What is proved here: HoldingCovers' walk. Its condition: ints below 2^63, words below 2^64. -/
import Derived.Test.YtpojljieakdgiaaGreatEHoldCov
import Derived.Test.YtpojljieakdgiaaGreatERDivU
set_option maxRecDepth 100000
set_option maxHeartbeats 16000000
namespace Go.Proofs.YtpojljieakdgiaaGreat
open Go.RowKit
def CS (w1:World) (q:Option Addr) (L:List Nat) (k:Nat) (s:St) (m:W4) (rs:List (Nat × Obj)) (W:World):Prop:=HV ⟨q,true,L⟩ w1 s rs W∧CInv s m∧s.Fit (8*k)
section
variable {w1 W W':World} {q:Option Addr} {L:List Nat} {k:Nat} {s:St} {m:W4} {rs qs:List (Nat × Obj)}
theorem CS.below (h:CS w1 q L k s m rs W) (hb:Below W.heap.size W W'):CS w1 q L k s m rs W':=⟨QV.below h.1 hb,h.2⟩
theorem CS.drew (h:CS w1 q L k s m rs W):CS w1 q L k s m rs W.drew:=h.below (bl_drew (Below.refl _ _))
theorem CS.alloc (h:CS w1 q L k s m rs W) (o:Obj):CS w1 q L k s m ((W.heap.size,o) :: rs) (W.alloc o):=⟨QV.alloc h.1 o,h.2⟩
theorem CS.less (h:CS w1 q L k s m rs W) (hs:∀ x,x∈qs→x∈rs):CS w1 q L k s m qs W:=⟨QV.less h.1 hs,h.2⟩
theorem CS.u4 (h:CS w1 q L k s m rs W) {g:Nat} {x:W4} (hm:(g,uO x)∈rs):W.heap[g]? = some (.cells (uL x) 28 (0,0)):=QV.u4 h.1 hm
theorem CS.put4 (h:CS w1 q L k s m rs W) {g:Nat} {y:W4} (x:W4) (hm:(g,uO y)∈rs) (hqs:∀ x,x∈qs→x∈rs∧x.1≠g):CS w1 q L k s m ((g,uO x) :: qs) ((((W.setCell ⟨g,0,none⟩ (.int .u64 x.1)).setCell ⟨g,1,none⟩ (.int .u64 x.2.1)).setCell ⟨g,2,none⟩ (.int .u64 x.2.2.1)).setCell ⟨g,3,none⟩ (.int .u64 x.2.2.2)):=⟨QV.put4 h.1 x hm qs hqs,h.2⟩
theorem CS.reads (h:CS w1 q L k s m rs W) {f:FuncId} {args:Array Value} {v:Value} (hC:∀ L',QSt W ⟨q,true,L'⟩ s→Calls Tryz.prog f args W fun e W'=>e = .returned v∧Below W.heap.size W W'):Calls Tryz.prog f args W fun e W'=>e = .returned v∧CS w1 q L k s m rs W' :=
 (HV.reads h.1 hC).mono fun _ _ ⟨he,h1⟩=>⟨he,h1,h.2⟩
theorem CS.put (h:CS w1 q L k s m rs W) (hk:k < 100) {a:Int} (ha:Who3 a) {x:W4} (hx:x.Ok):Calls Tryz.prog 14 #[.pointer q,.int .i64 a,.int .i64 9,.int .i64 1,uV m,uV x] W fun e w'=>(∃ n,e = .returned (.int .i64 n))∧∃ s',CS w1 q L (k+1) s' m rs w':=by
 have hai:I63 a:=by unfold Who3 at ha; unfold I63; omega
 have hc:∀ L',QSt W ⟨q,true,L'⟩ s→Calls Tryz.prog 14 #[.pointer q,.int .i64 a,.int .i64 9,.int .i64 1,uV m,uV x] W fun e w'=>e = .returned (.int .i64 ((⟨q,true,[]⟩:Hand).putE s a 9 1 m x))∧QOn W ⟨q,true,L'⟩ ((⟨q,true,[]⟩:Hand).putSt s a 9 1 m x) w':=fun L' hq=>by
  have:=hPut_q W ⟨q,true,L'⟩ s (8*k) a 9 1 m x hai (by decide) (by decide) h.2.1.mo hx hq h.2.2 (by omega)
  rwa [putE_hand q L' [],putSt_hand q L' []] at this
 exact (QV.call h.1 hc).mono fun e w' ⟨he,h1⟩=>⟨⟨_,he⟩,_,h1,cov_put rfl h.2.1 ha,(Hand.putSt_fit h.2.2 _ _ _ _ _).mono (by omega)⟩
theorem CS.dep (h:CS w1 q L k s m rs W) (hk:k < 100) {a:Int} (ha:Who3 a):Calls Tryz.prog 16 #[.pointer q,.int .i64 a,.int .i64 1] W fun e w'=>e = .returned (uV (s.dep a 1))∧CS w1 q L k s m rs w':=by
 have hai:I63 a:=by unfold Who3 at ha; unfold I63; omega
 exact h.reads fun L' h1=>hDeposit_q W ⟨q,true,L'⟩ s (8*k) a 1 hai (by decide) h1 h.2.2 (by omega)
theorem CS.worth (h:CS w1 q L k s m rs W) (hk:k < 100) {a:Int} (ha:Who3 a):Calls Tryz.prog 22 #[.pointer q,.int .i64 a,.int .i64 1,uV m] W fun e w'=>e = .returned (uV (worthW (s.dep a 1) (s.fct a 1) m))∧CS w1 q L k s m rs w':=by
 have hai:I63 a:=by unfold Who3 at ha; unfold I63; omega
 exact h.reads fun L' h1=>hWorth_q W ⟨q,true,L'⟩ s (8*k) a 1 m hai (by decide) h.2.1.mo h1 h.2.2 (by omega)
theorem CS.part (h:CS w1 q L k s m rs W) (hk:k < 100):Calls Tryz.prog 24 #[.pointer q,.int .i64 9,.int .i64 1] W fun e w'=>e = .returned (uV (s.prt 9 1))∧CS w1 q L k s m rs w' :=
 h.reads fun L' h1=>hPart_q W ⟨q,true,L'⟩ s (8*k) 9 1 (by decide) (by decide) h1 h.2.2 (by omega)
theorem CS.take0 (h:CS w1 q L k s m rs W) (hk:k < 100) {a:Int} (ha:Who3 a):Calls Tryz.prog 18 #[.pointer q,.int .i64 a,.int .i64 9,.int .i64 1,uV m,uV (0,0,0,0)] W fun e w'=>e = .returned (.tuple #[uV (0,0,0,0),.int .i64 2])∧CS w1 q L k s m rs w':=by
 have hai:I63 a:=by unfold Who3 at ha; unfold I63; omega
 have hc:∀ L',QSt W ⟨q,true,L'⟩ s→Calls Tryz.prog 18 #[.pointer q,.int .i64 a,.int .i64 9,.int .i64 1,uV m,uV (0,0,0,0)] W fun e w'=>e = .returned (.tuple #[uV (0,0,0,0),.int .i64 2])∧QOn W ⟨q,true,L'⟩ s w':=fun L' hq=>by
  have:=hTake_q W ⟨q,true,L'⟩ s (8*k) a 9 1 m (0,0,0,0) hai (by decide) (by decide) h.2.1.mo ⟨by decide,by decide,by decide,by decide⟩ hq h.2.2 (by omega)
  obtain ⟨h1,h2,h3⟩:=(take_law ⟨q,true,L'⟩ s a 9 1 m (0,0,0,0)).1 rfl
  rwa [h1,h2,h3] at this
 exact (QV.call h.1 hc).mono fun e w' ⟨he,h1⟩=>⟨he,h1,h.2⟩
theorem CS.take (h:CS w1 q L k s m rs W) (hk:k < 100) {a:Int} (ha:Who3 a) {x:W4} (hx:x.Ok) (hx0:x≠(0,0,0,0)) (hle:uN x≤uN (s.dep a 1)):Calls Tryz.prog 18 #[.pointer q,.int .i64 a,.int .i64 9,.int .i64 1,uV m,uV x] W fun e w'=>(∃ u:W4,e = .returned (.tuple #[uV u,.int .i64 0]))∧∃ s',CS w1 q L (k+1) s' m rs w':=by
 have hai:I63 a:=by unfold Who3 at ha; unfold I63; omega
 obtain ⟨he0,hinv⟩:=cov_take (h:=⟨q,true,[]⟩) rfl h.2.1 ha hx0 hle
 have hc:∀ L',QSt W ⟨q,true,L'⟩ s→Calls Tryz.prog 18 #[.pointer q,.int .i64 a,.int .i64 9,.int .i64 1,uV m,uV x] W fun e w'=>e = .returned (.tuple #[uV (takeW s a 9 1 m x),.int .i64 0])∧QOn W ⟨q,true,L'⟩ ((⟨q,true,[]⟩:Hand).takeSt s a 9 1 m x) w':=fun L' hq=>by
  have:=hTake_q W ⟨q,true,L'⟩ s (8*k) a 9 1 m x hai (by decide) (by decide) h.2.1.mo hx hq h.2.2 (by omega)
  rwa [he0,takeSt_hand q L' []] at this
 exact (QV.call h.1 hc).mono fun e w' ⟨he,h1⟩=>⟨⟨takeW s a 9 1 m x,he⟩,_,h1,hinv,(Hand.takeSt_fit h.2.2 _ _ _ _ _).mono (by omega)⟩
theorem CS.cut (h:CS w1 q L k s m rs W) (hk:k < 100) {t:W4} (ht:t.Ok) (ht0:0 < uN t) (hle:uN t≤uN m):Calls Tryz.prog 20 #[.pointer q,.int .i64 9,.int .i64 1,uV t,uV m] W fun e w'=>(∃ u:W4,e = .returned (.tuple #[uV u,.int .i64 0]))∧∃ s',CS w1 q L (k+1) s' t rs w':=by
 obtain ⟨he0,hinv⟩:=cov_cut (h:=⟨q,true,[]⟩) rfl h.2.1 ht ht0 hle
 have hc:∀ L',QSt W ⟨q,true,L'⟩ s→Calls Tryz.prog 20 #[.pointer q,.int .i64 9,.int .i64 1,uV t,uV m] W fun e w'=>e = .returned (.tuple #[uV (cutW s 9 1 t m),.int .i64 0])∧QOn W ⟨q,true,L'⟩ ((⟨q,true,[]⟩:Hand).cutSt s 9 1 t m) w':=fun L' hq=>by
  have:=hCut_q W ⟨q,true,L'⟩ s (8*k) 9 1 t m (by decide) (by decide) ht h.2.1.mo hq h.2.2 (by omega)
  rwa [he0,cutSt_hand q L' []] at this
 exact (QV.call h.1 hc).mono fun e w' ⟨he,h1⟩=>⟨⟨cutW s 9 1 t m,he⟩,_,h1,hinv,(Hand.cutSt_fit h.2.2 _ _ _ _).mono (by omega)⟩
theorem CS.depB (h:CS w1 q L k s m rs W) (hk:k < 100) {a:Int} (ha:Who3 a):Calls Tryz.prog 16 #[.pointer q,.int .i64 a,.int .i64 1] W fun e w'=>e = .returned (uV (s.dep a 1))∧Below W.heap.size W w':=by
 have hai:I63 a:=by unfold Who3 at ha; unfold I63; omega
 obtain ⟨L',hq,_⟩:=h.1.on
 exact hDeposit_q W ⟨q,true,L'⟩ s (8*k) a 1 hai (by decide) hq h.2.2 (by omega)
theorem CS.add1 {W0:World} (h:CS w1 q L k s m rs W0) (hb:Below W0.heap.size W0 W) {g:Nat} {o:Obj} (hg:W0.heap.size≤g) (hr:W.heap[g]? = some o):CS w1 q L k s m ((g,o) :: rs) W:=⟨QV.add1 h.1 hb hg hr,h.2⟩
theorem CS.lt (h:CS w1 q L k s m rs W) {g:Nat} {o:Obj} (hm:(g,o)∈rs):g < W.heap.size:=lt_of_at (QV.row h.1 hm)
theorem CS.next (h:CS w1 q L k s m rs W):CS w1 q L (k+1) s m rs W:=⟨h.1,h.2.1,h.2.2.mono (by omega)⟩
end
theorem slash_left {m P:W4} (hm:m.Ok) (h0:0 < uN m) {x:Nat} (hx:x < 256) (hP:uN P=uN m*x / 256):(subW m P).Ok∧0 < uN (subW m P)∧uN (subW m P)≤uN m:=by
 have h1:uN m*x / 256 < uN m:=by
  refine (Nat.div_lt_iff_lt_mul (by decide)).2 ?_
  have:=Nat.mul_lt_mul_of_pos_left hx h0
  exact this
 have h2:uN (subW m P)=uN m - uN P:=by
  unfold subW
  rw [if_pos (by omega),uN_of (Nat.lt_of_le_of_lt (Nat.sub_le _ _) (uN_lt hm))]
 exact ⟨subW_ok _ _,by omega,by omega⟩
theorem part_le {d P:W4} {y:Nat} (hy:y≤256) (hP:uN P=uN d*y / 256):uN P≤uN d:=by
 rw [hP]
 refine Nat.div_le_of_le_mul ?_
 rw [Nat.mul_comm 256]
 exact Nat.mul_le_mul_left _ hy
theorem row7 {w:World} {g:Nat} {v0 v1 v2 v3 v4 v5 v6:Value} {T:TypeId} (h:w.heap[g]? = some (.cells #[v0,v1,v2,v3,v4,v5,v6] T (0,0))):w.cell? ⟨g,0,none⟩=some v0∧w.cell? ⟨g,1,none⟩=some v1∧w.cell? ⟨g,2,none⟩=some v2∧w.cell? ⟨g,3,none⟩=some v3∧w.cell? ⟨g,4,none⟩=some v4∧w.cell? ⟨g,5,none⟩=some v5∧w.cell? ⟨g,6,none⟩=some v6:=by
 have hc:∀ (o:Nat) v,(#[v0,v1,v2,v3,v4,v5,v6]:Array Value)[o]? = some v→w.cell? ⟨g,o,none⟩=some v:=fun o v hv=>by rw [cell_of_row _ _ _ _ _ _ h]; exact hv
 exact ⟨hc 0 _ rfl,hc 1 _ rfl,hc 2 _ rfl,hc 3 _ rfl,hc 4 _ rfl,hc 5 _ rfl,hc 6 _ rfl⟩
theorem who_is (x:Int):∃ a,Who3 a∧wrap64 (1+wrap64 ((IntKind.u64.wrap x).tmod 3))=a:=by
 refine ⟨_,?_,rfl⟩
 have h0:0≤IntKind.u64.wrap x:=by rw [IntKind.wrap_u64]; omega
 rw [Int.tmod_eq_emod_of_nonneg h0]
 generalize IntKind.u64.wrap x=y at *
 unfold wrap64 Who3
 omega
theorem CInv.start:CInv emptySt oneW:=by
 have h0:∀ a,uN (emptySt.dep a 1)=0:=fun a=>by
  show uN (toAmt emptyB)=0
  unfold toAmt; rw [if_neg (by decide)]; rfl
 have hf:∀ a,uN (emptySt.fct a 1)≤E36:=fun a=>by
  have:emptySt.fct a 1=oneW:=by
   unfold St.fct
   rw [if_pos (show emptySt.amt (keyL 11 [a,1])=(0,0,0,0) from by
    show toAmt emptyB=_
    unfold toAmt; rw [if_neg (by decide)])]
  rw [this]; exact oneW_le
 refine ⟨⟨List.Pairwise.nil,fun x hx=>(by cases hx)⟩,one_ok,by decide,by decide,fun a _ => ?_,fun a _=>hf a,?_,?_⟩
 ·rw [h0]; decide
 ·show uN (toAmt emptyB) < M128
  unfold toAmt; rw [if_neg (by decide)]; decide
 ·unfold wgt
  rw [h0,h0,h0,Nat.zero_mul,Nat.zero_mul,Nat.zero_mul,Nat.zero_mul]
  exact Nat.zero_le _
def sumTo (s:St) (m:W4):Nat→W4
 | 0=>(0,0,0,0)
 | j+1=>toW (uN (sumTo s m j)+uN (worthW (s.dep ((j+1:Nat):Int) 1) (s.fct ((j+1:Nat):Int) 1) m))
theorem sumTo_ok (s:St) (m:W4):∀ j,(sumTo s m j).Ok
 | 0=>(⟨by decide,by decide,by decide,by decide⟩:W4.Ok (0,0,0,0))
 | _+1=>toW_ok _
theorem sum_le {s:St} {m:W4} (h:CInv s m):uCmp (sumTo s m 3) (s.prt 9 1)≤0:=by
 rw [uCmp_le0]
 have h0:=cov_sum h
 have hp:=h.p
 have hu:∀ n,n < M128→uN (toW n)=n:=fun n hn=>by
  unfold toW; rw [if_pos (Nat.lt_trans hn M128_W),uN_of (Nat.lt_trans hn M128_lt)]
 have e0:uN (sumTo s m 0)=0:=rfl
 have e1:uN (sumTo s m 1)=uN (worthW (s.dep 1 1) (s.fct 1 1) m):=by
  show uN (toW (uN (sumTo s m 0)+uN (worthW (s.dep 1 1) (s.fct 1 1) m)))=_
  rw [e0,Nat.zero_add]
  exact hu _ (by omega)
 have e2:uN (sumTo s m 2)=uN (worthW (s.dep 1 1) (s.fct 1 1) m)+uN (worthW (s.dep 2 1) (s.fct 2 1) m):=by
  show uN (toW (uN (sumTo s m 1)+uN (worthW (s.dep 2 1) (s.fct 2 1) m)))=_
  rw [e1]
  exact hu _ (by omega)
 have e3:uN (sumTo s m 3)=uN (worthW (s.dep 1 1) (s.fct 1 1) m)+uN (worthW (s.dep 2 1) (s.fct 2 1) m)+uN (worthW (s.dep 3 1) (s.fct 3 1) m):=by
  show uN (toW (uN (sumTo s m 2)+uN (worthW (s.dep 3 1) (s.fct 3 1) m)))=_
  rw [e2]
  exact hu _ (by omega)
 rw [e3]; exact h0
theorem part256 {d:W4} (hd:uN d < M128) {y:Nat} (hy:y≤256):∃ P:W4,uOf (uN (toW (uN d*uN ((y,0,0,0):W4))) / uN ((256,0,0,0):W4))=P∧P.Ok∧uN P=uN d*y / 256:=by
 have e1:uN ((y,0,0,0):W4)=y:=by unfold uN; simp
 have e2:uN ((256,0,0,0):W4)=256:=rfl
 have hlt:uN d*y < 115792089237316195423570985008687907853269984665640564039457584007913129639936:=by
  have h1:uN d*y≤uN d*256:=Nat.mul_le_mul_left _ hy
  unfold M128 at hd; omega
 refine ⟨_,rfl,uOf_ok _,?_⟩
 have hltW:uN d*y < W256:=hlt
 rw [e1,e2]
 unfold toW
 rw [if_pos hltW,uN_of hlt,uN_of (Nat.lt_of_le_of_lt (Nat.div_le_self _ _) hlt)]
def CovPh (wb:World) (q:Option Addr) (L:List Nat) (k:Nat) (s:St) (m:W4) (g g8:Nat) (sm sn:W4):Nat→World→Prop
 | 0,W=>CS wb q L k s m [(g8,uO sm),(g,uO m)] W
 | 1,W=>CS wb q L k s m [(g8,uO sm),(g,uO m)] W
 | 2,W=>CS wb q L k s m [(g8,uO sm),(g,uO m)] W
 | _+3,W=>CS wb q L k s m [(g8,uO sn),(g,uO m)] W
section
variable {wb W:World} {q:Option Addr} {L:List Nat} {k:Nat} {s:St} {m:W4} {g g8:Nat} {sm sn:W4} {p:Nat}
theorem CovPh.mrow (h:CovPh wb q L k s m g g8 sm sn p W):W.heap[g]? = some (.cells (uL m) 28 (0,0)):=by
 match p,h with
 | 0,h | 1,h | 2,h=>exact CS.u4 (rs:=[(g8,uO sm),(g,uO m)]) h (by simp)
 | _+3,h=>exact CS.u4 (rs:=[(g8,uO sn),(g,uO m)]) h (by simp)
theorem CovPh.worth (h:CovPh wb q L k s m g g8 sm sn p W) (hk:k < 100) {a:Int} (ha:Who3 a):Calls Tryz.prog 22 #[.pointer q,.int .i64 a,.int .i64 1,uV m] W fun e w'=>e = .returned (uV (worthW (s.dep a 1) (s.fct a 1) m))∧CovPh wb q L k s m g g8 sm sn p w':=by
 match p,h with
 | 0,h | 1,h | 2,h=>exact CS.worth (rs:=[(g8,uO sm),(g,uO m)]) h hk ha
 | _+3,h=>exact CS.worth (rs:=[(g8,uO sn),(g,uO m)]) h hk ha
theorem CS.setRow {rs qs:List (Nat × Obj)} (h:CS wb q L k s m rs W) {g:Nat} {y:W4} (x:W4) (hm:(g,uO y)∈rs) (hqs:∀ x,x∈qs→x∈rs∧x.1≠g):CS wb q L k s m ((g,uO x) :: qs) (W.setRow g (uL x)):=⟨QV.setRow h.1 hm qs hqs,h.2⟩
end
theorem rg_stp2 {ops:Array Oper} {o:Oper} {a:Act} {w:World} {K:Value→World→Prop} {x:Operand} {g:Nat} (hg:Region.wanted o (yielded ops a.tmps)=true) (ho:o.op = .fieldAddr 31 x 2) (hx:a.eval x = .pointer (some ⟨g,0,none⟩)) (hk:K (.pointer (some ⟨g,2,none⟩)) w):rgDo Tryz.prog ops o a w K:=by
 refine rg_value hg ?_ hk
 unfold execOp
 simp only [ho,hx]
 go_simp
theorem rg_load8 {ops:Array Oper} {o:Oper} {a:Act} {w:World} {K:Value→World→Prop} {x:Operand} {g k:Nat} {n:Int} (hg:Region.wanted o (yielded ops a.tmps)=true) (ho:o.op = .load 5 x) (hx:a.eval x = .pointer (some ⟨g,k,none⟩)) (hc:w.cell? ⟨g,k,none⟩=some (.int .u8 n)) (hk:K (.int .u8 n) w):rgDo Tryz.prog ops o a w K:=by
 refine rg_value hg ?_ hk
 unfold execOp
 simp only [ho,hx]
 go_simp
theorem rg_conv8 {ops:Array Oper} {o:Oper} {a:Act} {w:World} {K:Value→World→Prop} {x:Operand} {n:Nat} (hg:Region.wanted o (yielded ops a.tmps)=true) (ho:o.op = .convert 5 26 x) (hx:a.eval x = .int .u8 n) (hn:n < 256) (hk:K (.int .u64 n) w):rgDo Tryz.prog ops o a w K:=by
 refine rg_value hg ?_ hk
 have hw:IntKind.u64.wrap (n:Int)=n:=by rw [IntKind.wrap_u64]; omega
 unfold execOp
 simp only [ho,hx]
 go_simp
theorem rg_add1 {ops:Array Oper} {o:Oper} {a:Act} {w:World} {K:Value→World→Prop} {x:Operand} {n:Nat} (hg:Region.wanted o (yielded ops a.tmps)=true) (ho:o.op = .binOp .add 26 x (.const (.int .u64 1)) 26) (hx:a.eval x = .int .u64 n) (hn:n < 256) (hk:K (.int .u64 ((n+1:Nat):Int)) w):rgDo Tryz.prog ops o a w K:=by
 refine rg_value hg ?_ hk
 have hw:IntKind.u64.wrap ((n:Int)+1)=((n+1:Nat):Int):=by rw [IntKind.wrap_u64]; omega
 unfold execOp
 simp only [ho,hx]
 go_simp
theorem rg_buildU {ops:Array Oper} {o:Oper} {a:Act} {w:World} {K:Value→World→Prop} {t:Tmp} {n:Nat} (hg:Region.wanted o (yielded ops a.tmps)=true) (ho:o.op = .build 28 #[(0,.tmp t)]) (hx:a.eval (.tmp t) = .int .u64 n) (hk:K (uV (n,0,0,0)) w):rgDo Tryz.prog ops o a w K:=by
 refine rg_value hg ?_ hk
 have hx':a.tmps[t]?.getD undef = .int .u64 n:=by simpa [Act.eval] using hx
 unfold execOp
 simp only [ho]
 go_simp
theorem hcov_walk (w:World) (a:Option Addr) (c:Nat) (l:List HStep) (h:Steps23In w a l):Calls Tryz.prog 3 #[.slice a l.length c] w fun e w'=>e = .returned (.bool true)∧Below w.heap.size w w':=by
 have HL:=Lib.hid (lives23 w)
 have HN:=Lib.hid (new_below w)
 by_cases h60:60 < l.length
 ·have hd:decide ((60:Int) < (l.length:Int))=true:=decide_eq_true (by omega)
  clear h
  generalize l.length=n at *
  go_enter Tryz.func3,Tryz.ntmps3
  go_wp2_with (go_at_call 11; refine HL.out.mono ?_; rintro e wb ⟨rfl,h1⟩)
  go_ret
  exact ⟨rfl,h1⟩
 ·have hd:decide ((60:Int) < (l.length:Int))=false:=decide_eq_false (by omega)
  have HC:Hid (∀ wr k x,Below w.heap.size w wr→l[k]? = some x→At7 a k x wr):=fun wr k x hb hk=>h.at7 hb hk
  have HOK:Hid (∀ (k:Nat) (x:HStep),l[k]? = some x→x.Ok):=fun k x hk=>h.ok x (List.mem_of_getElem? hk)
  have HG:Hid (∀ k,k < l.length→∃ x,l[k]? = some x):=fun k hk=>⟨_,List.getElem?_eq_getElem hk⟩
  have HLV:Hid (∀ W,Below w.heap.size w W→Calls Tryz.prog 11 #[] W fun e w'=>e = .returned (.bool true)∧Below w.heap.size w w'):=fun W hb=>(lives23 W).mono fun e w' ⟨he,h1⟩=>⟨he,bl_then hb h1⟩
  clear h HL
  generalize l.length=n at *
  go_enter Tryz.func3,Tryz.ntmps3
  go_wp2_with fail
  refine Calls.mono HN.out ?_
  rintro e wb ⟨b,L,rfl,hS,hb,hL⟩
  have HB:Hid (∀ k s m rs W,CS wb (some ⟨b,0,none⟩) L k s m rs W→Below w.heap.size w W):=fun k s m rs W hV=>HV.below_of hV.1 hb hL
  have hq0:CS wb (some ⟨b,0,none⟩) L 0 emptySt oneW [] wb:=⟨HV.start (.inl ⟨rfl,b,rfl,hS⟩),CInv.start,St.Fit.empty⟩
  have HONE:=Lib.hid (hq0.reads fun _ _=>one_any wb)
  clear hq0 hS hb hL HN
  generalize (some ⟨b,0,none⟩:Option Addr)=q at *
  go_wp2_with fail
  refine Calls.mono HONE.out ?_
  rintro e w2 ⟨rfl,hq2⟩
  have hq3:=hq2.alloc (uO oneW)
  clear hq2 HONE
  go_upto_region 5 with fail
  generalize w2.alloc (uO oneW)=w3 at *
  generalize w2.heap.size=g at *
  have H0:Hid (∃ s m,CS wb q L 0 s m [(g,uO m)] w3):=⟨_,_,hq3⟩
  clear hq3
  go_wp2_with fail
  go_loopw [28] (fun i wr=>∃ k:Nat,i = .int .i64 k∧k≤n∧∃ s m,CS wb q L k s m [(g,uO m)] wr) (fun i _=>n - (intOf i).toNat)
  case atStart=>exact ⟨0,rfl,by omega,H0.out⟩
  case round =>
   obtain ⟨k,rfl,hk,s,m,hA⟩:=hrel
   have HA:=Lib.hid hA
   clear hA H0
   by_cases hlt:k < n
   ·obtain ⟨x,hx⟩:=HG.out k hlt
    obtain ⟨ad,rfl,q0,qs⟩:=HC.out wr k _ (HB.out _ _ _ _ _ HA.out) hx
    have hxo:=HOK.out k x hx
    unfold HStep.L at qs
    clear hx
    obtain ⟨xk,xs,xx,⟨M0,M1,M2,M3⟩⟩:=x
    simp only at q0 qs
    have hA1:=HA.out.alloc (.cells #[.int .i64 xk,.int .i64 xs,.int .u8 xx,.int .u64 M0,.int .u64 M1,.int .u64 M2,.int .u64 M3] 31)
    have q1:=qs 1 _ rfl (by decide)
    have q2:=qs 2 _ rfl (by decide)
    have q3:=qs 3 _ rfl (by decide)
    have q4:=qs 4 _ rfl (by decide)
    have q5:=qs 5 _ rfl (by decide)
    have q6:=qs 6 _ rfl (by decide)
    clear qs
    go_upto_region 8 with fail
    generalize wr.alloc (.cells #[.int .i64 xk,.int .i64 xs,.int .u8 xx,.int .u64 M0,.int .u64 M1,.int .u64 M2,.int .u64 M3] 31)=w4 at *
    generalize wr.heap.size=gs at *
    clear q0 q1 q2 q3 q4 q5 q6
    obtain ⟨c0,c1,c2,c3,c4,c5,c6⟩:=row7 (QV.row hA1.1 (g:=gs) (o:=.cells #[.int .i64 xk,.int .i64 xs,.int .u8 xx,.int .u64 M0,.int .u64 M1,.int .u64 M2,.int .u64 M3] 31) (by simp))
    have HA1:=Lib.hid hA1
    clear hA1 HA
    obtain ⟨aw,haw,hwho⟩:=who_is xs
    have HAW:=Lib.hid haw
    clear haw
    have hxx:=hxo.x
    simp only at hxx
    have HXO:=Lib.hid hxo.am
    simp only at HXO
    clear hxo
    have hk100:k < 100:=by omega
    have HK:=Lib.hid hk100
    clear hk100
    go_upto_region 9 with fail
    rw [hwho]
    clear hwho
    by_cases h0:xk=0
    ·subst h0
     obtain ⟨m0,m1,m2,m3,_⟩:=row4 (HA1.out.u4 (g:=g) (x:=m) (by simp))
     have HP:=Lib.hid (HA1.out.put HK.out HAW.out HXO.out)
     go_wp2_with fail
     refine Calls.mono HP.out ?_
     rintro e w5 ⟨⟨pn,rfl⟩,s',hT0⟩
     have hT:=hT0.less (qs:=[(g,uO m)]) (by simp)
     have HT:=Lib.hid hT
     clear hT hT0 HP HA1 c0 c1 c2 c3 c4 c5 c6 m0 m1 m2 m3
     go_upto_region 27 with fail
     have hS0:=HT.out.alloc (uO (0,0,0,0))
     have HTg:=HT
     clear HT
     go_upto_region 28 with fail
     have HGN:Hid (g≠w5.heap.size):=fun e=>by
      have:=lt_of_at (HTg.out.u4 (g:=g) (x:=m) (by simp))
      omega
     generalize w5.alloc (uO (0,0,0,0))=w6 at *
     generalize w5.heap.size=g8 at *
     have HS0:=Lib.hid hS0
     clear hS0 HTg
     have hgn:g≠g8:=HGN.out
     have hgn2:=Ne.symm hgn
     go_wp2_with fail
     go_loopw [19] (fun iv wv=>∃ j:Nat,iv = .int .i64 j∧1≤j∧j≤4∧CS wb q L (k+1) s' m [(g8,uO (sumTo s' m (j - 1))),(g,uO m)] wv) (fun iv _=>4 - (intOf iv).toNat)
     case atStart=>exact ⟨1,rfl,by omega,by omega,HS0.out⟩
     case round =>
      obtain ⟨j,rfl,hj1,hj4,hBj⟩:=hrel
      by_cases hj:j≤3
      ·have haj:Who3 (j:Int):=by unfold Who3; omega
       have hsn:sumTo s' m j=toW (uN (sumTo s' m (j - 1))+uN (worthW (s'.dep (j:Int) 1) (s'.fct (j:Int) 1) m)):=by
        obtain ⟨i,rfl⟩:∃ i,j=i+1:=⟨j - 1,by omega⟩
        rfl
       have hso:=sumTo_ok s' m (j - 1)
       have HWO:Hid (∀ p W sm sn,CovPh wb q L (k+1) s' m g g8 sm sn p W→_):=fun p W sm sn h=>h.worth (by omega) haj
       have hwo:=worthW_ok (s'.dep (j:Int) 1) (s'.fct (j:Int) 1) m
       generalize sumTo s' m (j - 1)=sm at *
       generalize worthW (s'.dep (j:Int) 1) (s'.fct (j:Int) 1) m=wv at *
       have HAD:Hid (∀ W,CS wb q L (k+1) s' m [(g8,uO sm),(g,uO m)] W→Calls Tryz.prog 21 #[uV sm,uV wv] W fun e w'=>e = .returned (.tuple #[uV (toW (uN sm+uN wv)),.bool (toB (uN sm+uN wv))])∧CS wb q L (k+1) s' m [(g8,uO sm),(g,uO m)] w'):=fun W h=>h.reads fun _ _=>radd_u sm wv hso hwo W
       rw [← hsn] at HAD
       generalize toB (uN sm+uN wv)=sb at *
       have HSN:Hid (∃ x,x=sumTo s' m j∧True):=⟨_,rfl,trivial⟩
       obtain ⟨sn,hsn2,_⟩:=HSN.out
       rw [← hsn2] at HAD
       have HSQ:=Lib.hid hsn2
       have HB0:Hid (CovPh wb q L (k+1) s' m g g8 sm sn 0 wr.drew):=hBj.drew
       clear hsn hsn2 HSN hso hwo haj hBj
       go_upto_region 31 with fail
       refine wp_region_const2 [[],[],[],[],[1,2,3],[0,1,2,3,4],[0,1,2,3,4,5],[0,1,2,3,4,5,6],[0,1,2,3,4,5,6],[0,1,2,3,4,5,6,7]]
        [uV sm,.pointer q,.int .i64 j,uV m,uV wv,.tuple #[uV sn,.bool sb],.tuple #[uV sn,.bool sb],uV sn,.bool sb,undef]
        [0,5,9] (CovPh wb q L (k+1) s' m g g8 sm sn) _ (by kernel_rfl) (by kernel_rfl) (by kernel_rfl)
        (fun vs=>by simp only [rgAct,rgPut,List.setIfInBounds_toArray,List.set_cons_zero,List.set_cons_succ]; exact rfl)
        (by simp only [List.getD_cons_zero,List.getD_cons_succ]; exact rfl) HB0.out ?_ ?_
       ·refine ⟨?_,?_,?_,?_,?_,?_,?_,?_,?_,?_,trivial⟩
        ·intro vs p w1 hA hP hq
         have hp:=hq 0 rfl
         subst hp
         exact rg_loadU rfl rfl rfl (CS.u4 (rs:=[(g8,uO sm),(g,uO m)]) (x:=sm) hP (by simp)) ⟨rfl,hP⟩
        ·intro vs p w1 hA hP hq
         exact rg_move rfl (.inl rfl) rfl ⟨rfl,hP⟩
        ·intro vs p w1 hA hP hq
         exact rg_move rfl (.inl rfl) rfl ⟨rfl,hP⟩
        ·intro vs p w1 hA hP hq
         exact rg_loadU rfl rfl rfl (CovPh.mrow hP) ⟨rfl,hP⟩
        ·intro vs p w1 hA hP hq
         obtain ⟨e1,e2,e3,_⟩:=hA
         have e1:vs 1 = .pointer q:=e1
         have e2:vs 2 = .int .i64 j:=e2
         have e3:vs 3=uV m:=e3
         refine rg_fn rfl rfl rfl (by kernel_rfl) (show [vs 1,vs 2,.int .i64 1,vs 3]=_ from by rw [e1,e2,e3]) (Calls.mono (HWO.out p _ sm sn hP) ?_)
         rintro e w2 ⟨rfl,hP2⟩
         exact ⟨_,rfl,rfl,hP2⟩
        ·intro vs p w1 hA hP hq
         obtain ⟨e0,_,_,_,e4,_⟩:=hA
         have e0:vs 0=uV sm:=e0
         have e4:vs 4=uV wv:=e4
         have hp:=hq 1 rfl
         subst hp
         refine rg_fn rfl rfl rfl (by kernel_rfl) (show [vs 0,vs 4]=_ from by rw [e0,e4]) (Calls.mono (HAD.out _ hP) ?_)
         rintro e w2 ⟨rfl,hP2⟩
         exact ⟨_,rfl,rfl,hP2⟩
        ·intro vs p w1 hA hP hq
         obtain ⟨_,_,_,_,_,e5,_⟩:=hA
         have e5:vs 5 = .tuple #[uV sn,.bool sb]:=e5
         exact rg_move rfl (.inl rfl) e5 ⟨rfl,hP⟩
        ·intro vs p w1 hA hP hq
         obtain ⟨_,_,_,_,_,_,e6,_⟩:=hA
         have e6:vs 6 = .tuple #[uV sn,.bool sb]:=e6
         exact rg_extract rfl rfl e6 rfl ⟨rfl,hP⟩
        ·intro vs p w1 hA hP hq
         obtain ⟨_,_,_,_,_,_,e6,_⟩:=hA
         have e6:vs 6 = .tuple #[uV sn,.bool sb]:=e6
         exact rg_extract rfl rfl e6 rfl ⟨rfl,hP⟩
        ·intro vs p w1 hA hP hq
         obtain ⟨_,_,_,_,_,_,_,e7,_⟩:=hA
         have e7:vs 7=uV sn:=e7
         have hp:=hq 2 rfl
         subst hp
         exact rg_storeU rfl rfl rfl e7 (CS.u4 (rs:=[(g8,uO sm),(g,uO m)]) (x:=sm) hP (by simp)) ⟨rfl,CS.setRow (rs:=[(g8,uO sm),(g,uO m)]) (y:=sm) hP sn (by simp) (by simpa using hgn)⟩
       ·intro W hW
        have HW:Hid (CS wb q L (k+1) s' m [(g8,uO sn),(g,uO m)] W):=hW
        clear hW
        go_wp2_with fail
        go_roundw
        case rel=>exact ⟨j+1,by go_num,by omega,by omega,by rw [Nat.add_sub_cancel,← HSQ.out]; exact HW.out⟩
        case measure=>simp [intOf]; omega
      ·obtain rfl:j=4:=by omega
       rw [show (4 - 1:Nat)=3 from rfl] at hBj
       have hok:=sumTo_ok s' m 3
       have hcm:decide ((0:Int) < uCmp (sumTo s' m 3) (s'.prt 9 1))=false:=decide_eq_false (by have:=sum_le hBj.2.1; omega)
       have HPA:Hid (∀ W,CS wb q L (k+1) s' m [(g8,uO (sumTo s' m 3)),(g,uO m)] W→_):=fun W h=>h.part (by omega)
       have HCP:Hid (∀ W,CS wb q L (k+1) s' m [(g8,uO (sumTo s' m 3)),(g,uO m)] W→Calls Tryz.prog 23 #[uV (sumTo s' m 3),uV (s'.prt 9 1)] W fun e w'=>e = .returned (.int .i64 (uCmp (sumTo s' m 3) (s'.prt 9 1)))∧CS wb q L (k+1) s' m [(g8,uO (sumTo s' m 3)),(g,uO m)] w'):=fun W h=>h.reads fun _ _=>rcmp_u _ _ hok (amt_ok _ _) W
       have hB3:CS wb q L (k+1) s' m [(g8,uO (sumTo s' m 3)),(g,uO m)] wr:=hBj
       clear hBj hok
       generalize sumTo s' m 3=sm at *
       generalize s'.prt 9 1=pr at *
       generalize uCmp sm pr=cv at *
       have HBd:=Lib.hid hB3.drew
       obtain ⟨s0,s1,s2,s3,_⟩:=row4 (hB3.u4 (g:=g8) (x:=sm) (by simp))
       clear hB3
       go_upto_region 32 with fail
       go_region_held3 (fun w'=>w'.cell? ⟨g8,0,none⟩=some (.int .u64 sm.1)∧w'.cell? ⟨g8,1,none⟩=some (.int .u64 sm.2.1)∧w'.cell? ⟨g8,2,none⟩=some (.int .u64 sm.2.2.1)∧w'.cell? ⟨g8,3,none⟩=some (.int .u64 sm.2.2.2)) (go_keep)
        (first
         | (go_at_call 24; refine Calls.mono (HPA.out _ HBd.out) ?_; rintro e v1 ⟨rfl,hB1⟩; obtain ⟨a0,a1,a2,a3,_⟩:=row4 (hB1.u4 (g:=g8) (x:=sm) (by simp)))
         | (go_at_call 23; refine Calls.mono (HCP.out _ hB1) ?_; rintro e v2 ⟨rfl,hB2⟩; obtain ⟨b0,b1,b2,b3,_⟩:=row4 (hB2.u4 (g:=g8) (x:=sm) (by simp))))
       have HB2:=Lib.hid (hB2.less (qs:=[(g,uO m)]) (by simp))
       clear hB1 hB2 a0 a1 a2 a3 b0 b1 b2 b3 s0 s1 s2 s3
       go_wp2_with fail
       go_roundw
       case rel=>exact ⟨k+1,by go_num,by omega,s',m,HB2.out⟩
       case measure=>simp [intOf]; omega
    ·by_cases h1:xk=1
     ·subst h1
      have hgs:=HA1.out.lt (g:=gs) (o:=.cells #[.int .i64 1,.int .i64 xs,.int .u8 xx,.int .u64 M0,.int .u64 M1,.int .u64 M2,.int .u64 M3] 31) (by simp)
      have hgg:=HA1.out.lt (g:=g) (o:=uO m) (by simp)
      have HLT:Hid (gs < w4.heap.size∧g < w4.heap.size):=⟨hgs,hgg⟩
      have HDP:Hid (∀ W,Below w4.heap.size w4 W→Calls Tryz.prog 16 #[.pointer q,.int .i64 aw,.int .i64 1] W fun e w'=>e = .returned (uV (s.dep aw 1))∧Below W.heap.size W w'):=fun W h=>(HA1.out.below h).depB HK.out HAW.out
      obtain ⟨P,hP,hPo,hPn⟩:=part256 (HA1.out.2.1.d aw HAW.out) (y:=xx+1) (by omega)
      have hPle:=part_le (by omega) hPn
      have HML:Hid (∀ W,Calls Tryz.prog 15 #[uV (s.dep aw 1),uV (xx+1,0,0,0)] W fun e w'=>e = .returned (.tuple #[uV (toW (uN (s.dep aw 1)*uN ((xx+1,0,0,0):W4))),.bool (toB (uN (s.dep aw 1)*uN ((xx+1,0,0,0):W4)))])∧Below W.heap.size W w'):=rmul_u _ _ (amt_ok _ _) ⟨(by show xx+1 < 18446744073709551616; omega),(by show 0 < 18446744073709551616; decide),(by show 0 < 18446744073709551616; decide),(by show 0 < 18446744073709551616; decide)⟩
      have HDV:Hid (∀ rs W,CS wb q L k s m rs W→Calls Tryz.prog 17 #[uV (toW (uN (s.dep aw 1)*uN ((xx+1,0,0,0):W4))),.agg #[.int .u64 256,.int .u64 0,.int .u64 0,.int .u64 0]] W fun e w'=>∃ r:W4,e = .returned (.tuple #[uV P,uV r,.bool true])∧CS wb q L k s m rs w'):=fun rs W h=>by
       have:=h.reads fun _ _=>rdiv_u (toW (uN (s.dep aw 1)*uN ((xx+1,0,0,0):W4))) (256,0,0,0) (toW_ok _) ⟨by decide,by decide,by decide,by decide⟩ (by decide) W
       rw [hP] at this
       exact this.mono fun e w' ⟨he,h1⟩=>⟨_,he,h1⟩
      have HTK:Hid (P≠(0,0,0,0)→∀ rs W,CS wb q L k s m rs W→_):=fun h0 rs W h=>h.take HK.out HAW.out hPo h0 hPle
      have HTZ:Hid (P=(0,0,0,0)→∀ rs W,CS wb q L k s m rs W→Calls Tryz.prog 18 #[.pointer q,.int .i64 aw,.int .i64 9,.int .i64 1,uV m,uV P] W fun e w'=>e = .returned (.tuple #[uV (0,0,0,0),.int .i64 2])∧CS wb q L k s m rs w'):=fun h0 rs W h=>by
       rw [h0]; exact h.take0 HK.out HAW.out
      have hxx8:=hxx
      have HB0:=Lib.hid (bl_drew (Below.refl w4.heap.size w4))
      clear hP hPo hPn hPle hgs hgg
      generalize toW (uN (s.dep aw 1)*uN ((xx+1,0,0,0):W4))=p1 at *
      generalize toB (uN (s.dep aw 1)*uN ((xx+1,0,0,0):W4))=b1 at *
      generalize s.dep aw 1=d at *
      go_upto_region 13 with fail
      refine wp_region_rely [[],[],[0,1],[],[3],[3,4],[3,4,5],[3,4,5,6],[0,1,2,3,4,5,6,7],[0,1,2,3,4,5,6,7,8],[0,1,2,3,4,5,6,7,8,9],[0,1,2,3,4,5,6,7,8,9],[],[0,1,2,3,4,5,6,7,8,9,10,12],[0,1,2,3,4,5,6,7,8,9,10,11,12,13]]
       [rgC (Below w4.heap.size w4),rgV 0 (.pointer q),rgV 1 (.int .i64 aw),rgV 2 (uV d),rgV 3 (.pointer (some ⟨gs,2,none⟩)),rgV 4 (.int .u8 xx),rgV 5 (.int .u64 xx),rgV 6 (.int .u64 ((xx+1:Nat):Int)),rgV 7 (uV (xx+1,0,0,0)),rgV 8 (.tuple #[uV p1,.bool b1]),rgV 9 (.tuple #[uV p1,.bool b1]),rgV 10 (uV p1),rgV 11 (.bool b1),rgP 12 (w4.heap.size),rgV 14 (.bool b1),rgS 12 13 (p1)] _ (by kernel_rfl) (by kernel_rfl) (by kernel_rfl)
       (fun vs=>by simp only [rgAct,rgPut,List.setIfInBounds_toArray,List.set_cons_zero,List.set_cons_succ]; exact rfl)
       ⟨fun _ _ _ hb h=>bl_then h hb,rgV_st,rgV_st,rgV_st,rgV_st,rgV_st,rgV_st,rgV_st,rgV_st,rgV_st,rgV_st,rgV_st,rgV_st,rgP_st,rgV_st,rgS_st,trivial⟩ ?_ ?_ ?_
      ·refine rgAll_yes rfl HB0.out ?_
       iterate 15 refine rgAll_no rfl ?_
       exact trivial
      ·refine ⟨?_,?_,?_,?_,?_,?_,?_,?_,?_,?_,?_,?_,?_,?_,?_,trivial⟩
       ·rintro vs w1 ⟨_,_⟩ K hK
        refine rg_move rfl (.inl rfl) rfl (hK _ _ (.inl (Below.refl _ _)) ?_)
        exact rgNew_one 1 rfl fun _=>rfl
       ·rintro vs w1 ⟨_,_⟩ K hK
        refine rg_move rfl (.inl rfl) rfl (hK _ _ (.inl (Below.refl _ _)) ?_)
        exact rgNew_one 2 rfl fun _=>rfl
       ·rintro vs w1 ⟨hC,e0,e1,_⟩ K hK
        refine rg_fn rfl rfl rfl (by kernel_rfl) (show [vs 0,vs 1,.int .i64 1]=_ from by rw [rg1 e0,rg1 e1]) (Calls.mono (HDP.out _ hC) ?_)
        rintro e w2 ⟨rfl,hb⟩
        refine ⟨_,rfl,hK _ _ (.inl hb) ?_⟩
        exact rgNew_one 3 rfl fun _=>rfl
       ·rintro vs w1 ⟨_,_⟩ K hK
        refine rg_stp2 rfl rfl rfl (hK _ _ (.inl (Below.refl _ _)) ?_)
        exact rgNew_one 4 rfl fun _=>rfl
       ·rintro vs w1 ⟨hC,e3,_⟩ K hK
        refine rg_load8 rfl rfl (rg1 e3) (bl_cell hC c2) (hK _ _ (.inl (Below.refl _ _)) ?_)
        exact rgNew_one 5 rfl fun _=>rfl
       ·rintro vs w1 ⟨_,_,e4,_⟩ K hK
        refine rg_conv8 rfl rfl (rg1 e4) hxx8 (hK _ _ (.inl (Below.refl _ _)) ?_)
        exact rgNew_one 6 rfl fun _=>rfl
       ·rintro vs w1 ⟨_,_,_,e5,_⟩ K hK
        refine rg_add1 rfl rfl (rg1 e5) hxx8 (hK _ _ (.inl (Below.refl _ _)) ?_)
        exact rgNew_one 7 rfl fun _=>rfl
       ·rintro vs w1 ⟨_,_,_,_,e6,_⟩ K hK
        refine rg_buildU rfl rfl (rg1 e6) (hK _ _ (.inl (Below.refl _ _)) ?_)
        exact rgNew_one 8 rfl fun _=>rfl
       ·rintro vs w1 ⟨_,_,_,e2,_,_,_,_,e7,_⟩ K hK
        refine rg_fn rfl rfl rfl (by kernel_rfl) (show [vs 2,vs 7]=_ from by rw [rg1 e2,rg1 e7]) (Calls.mono (HML.out _) ?_)
        rintro e w2 ⟨rfl,hb⟩
        refine ⟨_,rfl,hK _ _ (.inl hb) ?_⟩
        exact rgNew_one 9 rfl fun _=>rfl
       ·rintro vs w1 ⟨_,_,_,_,_,_,_,_,_,e8,_⟩ K hK
        refine rg_move rfl (.inl rfl) (rg1 e8) (hK _ _ (.inl (Below.refl _ _)) ?_)
        exact rgNew_one 10 rfl fun _=>rfl
       ·rintro vs w1 ⟨_,_,_,_,_,_,_,_,_,_,e9,_⟩ K hK
        refine rg_extract rfl rfl (rg1 e9) rfl (hK _ _ (.inl (Below.refl _ _)) ?_)
        exact rgNew_one 11 rfl fun _=>rfl
       ·rintro vs w1 ⟨_,_,_,_,_,_,_,_,_,_,e9,_⟩ K hK
        refine rg_extract rfl rfl (rg1 e9) rfl (hK _ _ (.inl (Below.refl _ _)) ?_)
        exact rgNew_one 12 rfl fun _=>rfl
       ·rintro vs w1 ⟨hC,_⟩ K hK
        refine rg_allocU rfl rfl (hK _ _ (.inl (bl_alloc (Below.refl _ _) _)) ?_)
        iterate 13 refine rgNew_no rfl ?_
        refine rgNew_yes rfl (fun _=>⟨_,_,rfl,hC.size,heap_alloc_new _ _⟩) ?_
        iterate 2 refine rgNew_no rfl ?_
        exact trivial
       ·rintro vs w1 ⟨hC,_,_,_,_,_,_,_,_,_,_,e10,⟨_,_,e12,h12,g12⟩,_⟩ K hK
        refine rg_storeU rfl rfl (rg1 e12) (rg1 e10) g12 (hK _ _ (.inr ?_) ?_)
        ·refine rgStay_yes rfl (fun hC _=>bput hC h12) ?_
         iterate 12 refine rgStay_yes rfl (fun h _=>h) ?_
         refine rgStay_yes rfl (fun h _=>rgP_put h) ?_
         iterate 2 refine rgStay_no rfl ?_
         exact trivial
        ·iterate 15 refine rgNew_no rfl ?_
         refine rgNew_yes rfl (fun _=>⟨_,_,by show [vs 12,undef]=_; rw [rg1 e12],setRow_heap _ _ _ _ _ _ g12⟩) ?_
         exact trivial
       ·rintro vs w1 ⟨_,_,_,_,_,_,_,_,_,_,_,_,e11,_,_,_⟩ K hK
        refine rg_move rfl (.inr rfl) (rg1 e11) (hK _ _ (.inl (Below.refl _ _)) ?_)
        exact rgNew_one 14 rfl fun _=>rfl
      ·intro vs w1 hA
       obtain ⟨hC,e0,e1,e2,e3,e4,e5,e6,e7,e8,e9,e10,e11,⟨p12,_,e12,h12,g12⟩,e14,s13,_⟩:=hA
       have e0:=rg1 e0
       have e1:=rg1 e1
       have e2:=rg1 e2
       have e3:=rg1 e3
       have e4:=rg1 e4
       have e5:=rg1 e5
       have e6:=rg1 e6
       have e7:=rg1 e7
       have e8:=rg1 e8
       have e9:=rg1 e9
       have e10:=rg1 e10
       have e11:=rg1 e11
       have e12:=rg1 e12
       have e14:=rg1 e14
       have s13:=rgS_at s13 e12
       simp only [e0,e1,e2,e3,e4,e5,e6,e7,e8,e9,e10,e11,e12,e14]
       have hB5:=HA1.out.add1 hC h12 s13
       have hlt:=HLT.out
       have hne:gs≠p12∧g≠p12:=⟨by omega,by omega⟩
       have HNE:=Lib.hid hne
       clear e0 e1 e2 e3 e4 e5 e6 e7 e8 e9 e10 e11 e14 g12 s13 h12 hC HDP HML HB0 HLT hlt hne HA1 c0 c1 c2 c3 c4 c5 c6
       obtain ⟨r0,r1,r2,r3,_⟩:=row4 (hB5.u4 (g:=p12) (x:=p1) (by simp))
       have HB5:=Lib.hid hB5
       clear hB5
       go_wp2_with fail
       refine Calls.mono (HDV.out _ _ HB5.out) ?_
       rintro e w6 ⟨r,rfl,hB6⟩
       clear r0 r1 r2 r3 HB5 HDV
       obtain ⟨r0,r1,r2,r3,f0,f1,f2,f3⟩:=row4 (hB6.u4 (g:=p12) (x:=p1) (by simp))
       have hB7:=hB6.put4 (g:=p12) (y:=p1) (qs:=[(gs,.cells #[.int .i64 1,.int .i64 xs,.int .u8 xx,.int .u64 M0,.int .u64 M1,.int .u64 M2,.int .u64 M3] 31),(g,uO m)]) P (by simp) (by
        intro x hx
        simp only [List.mem_cons,List.not_mem_nil,or_false] at hx
        rcases hx with rfl | rfl
        ·exact ⟨by simp,HNE.out.1⟩
        ·exact ⟨by simp,HNE.out.2⟩)
       clear hB6
       go_upto_region 15 with fail
       clear r0 r1 r2 r3 f0 f1 f2 f3
       generalize ((((w6.setCell ⟨p12,0,none⟩ (.int .u64 P.1)).setCell ⟨p12,1,none⟩ (.int .u64 P.2.1)).setCell ⟨p12,2,none⟩ (.int .u64 P.2.2.1)).setCell ⟨p12,3,none⟩ (.int .u64 P.2.2.2))=w7 at *
       obtain ⟨m0,m1,m2,m3,_⟩:=row4 (hB7.u4 (g:=g) (x:=m) (by simp))
       obtain ⟨r0,r1,r2,r3,_⟩:=row4 (hB7.u4 (g:=p12) (x:=P) (by simp))
       by_cases hP0:P=(0,0,0,0)
       ·have hE1:∀ w,(Op.equalIn 10000 28 (uV P) (.agg #[.int .u64 0,.int .u64 0,.int .u64 0,.int .u64 0])).run Tryz.prog w = .ok true w:=fun w=>by
         have:=eqU P (0,0,0,0) w
         rwa [decide_eq_true hP0] at this
        have hE0:∀ w,(Op.equalIn 10000 28 (.agg #[.int .u64 0,.int .u64 0,.int .u64 0,.int .u64 0]) (.agg #[.int .u64 0,.int .u64 0,.int .u64 0,.int .u64 0])).run Tryz.prog w = .ok true w:=fun w=>eqU (0,0,0,0) (0,0,0,0) w
        have HT1:=Lib.hid (HTZ.out hP0 _ _ hB7)
        clear hB7 HTK HTZ hP0
        go_wp2_with fail
        refine Calls.mono HT1.out ?_
        rintro e w8 ⟨rfl,hB8⟩
        have hB9:=hB8.next.alloc (uO (0,0,0,0))
        clear hB8 HT1 m0 m1 m2 m3 r0 r1 r2 r3
        go_upto_region 16 with fail
        generalize w8.alloc (uO (0,0,0,0))=w9 at *
        generalize w8.heap.size=g10 at *
        obtain ⟨r0,r1,r2,r3,_⟩:=row4 (hB9.u4 (g:=p12) (x:=P) (by simp))
        obtain ⟨u0,u1,u2,u3,_⟩:=row4 (hB9.u4 (g:=g10) (x:=(0,0,0,0)) (by simp))
        have HT:Hid (∃ s',CS wb q L (k+1) s' m [(g,uO m)] w9):=⟨s,hB9.less (by simp)⟩
        clear hB9
        go_upto_region 27 with fail
        clear r0 r1 r2 r3 u0 u1 u2 u3 hE1 hE0
        obtain ⟨s',hT⟩:=HT.out
        have HT:=Lib.hid hT
        clear hT
        have hS0:=HT.out.alloc (uO (0,0,0,0))
        have HTg:=HT
        clear HT
        go_upto_region 28 with fail
        have HGN:Hid (g≠w9.heap.size):=fun e=>by
         have:=lt_of_at (HTg.out.u4 (g:=g) (x:=m) (by simp))
         omega
        generalize w9.alloc (uO (0,0,0,0))=w6 at *
        generalize w9.heap.size=g8 at *
        have HS0:=Lib.hid hS0
        clear hS0 HTg
        have hgn:g≠g8:=HGN.out
        have hgn2:=Ne.symm hgn
        go_wp2_with fail
        go_loopw [19] (fun iv wv=>∃ j:Nat,iv = .int .i64 j∧1≤j∧j≤4∧CS wb q L (k+1) s' m [(g8,uO (sumTo s' m (j - 1))),(g,uO m)] wv) (fun iv _=>4 - (intOf iv).toNat)
        case atStart=>exact ⟨1,rfl,by omega,by omega,HS0.out⟩
        case round =>
         obtain ⟨j,rfl,hj1,hj4,hBj⟩:=hrel
         by_cases hj:j≤3
         ·have haj:Who3 (j:Int):=by unfold Who3; omega
          have hsn:sumTo s' m j=toW (uN (sumTo s' m (j - 1))+uN (worthW (s'.dep (j:Int) 1) (s'.fct (j:Int) 1) m)):=by
           obtain ⟨i,rfl⟩:∃ i,j=i+1:=⟨j - 1,by omega⟩
           rfl
          have hso:=sumTo_ok s' m (j - 1)
          have HWO:Hid (∀ p W sm sn,CovPh wb q L (k+1) s' m g g8 sm sn p W→_):=fun p W sm sn h=>h.worth (by omega) haj
          have hwo:=worthW_ok (s'.dep (j:Int) 1) (s'.fct (j:Int) 1) m
          generalize sumTo s' m (j - 1)=sm at *
          generalize worthW (s'.dep (j:Int) 1) (s'.fct (j:Int) 1) m=wv at *
          have HAD:Hid (∀ W,CS wb q L (k+1) s' m [(g8,uO sm),(g,uO m)] W→Calls Tryz.prog 21 #[uV sm,uV wv] W fun e w'=>e = .returned (.tuple #[uV (toW (uN sm+uN wv)),.bool (toB (uN sm+uN wv))])∧CS wb q L (k+1) s' m [(g8,uO sm),(g,uO m)] w'):=fun W h=>h.reads fun _ _=>radd_u sm wv hso hwo W
          rw [← hsn] at HAD
          generalize toB (uN sm+uN wv)=sb at *
          have HSN:Hid (∃ x,x=sumTo s' m j∧True):=⟨_,rfl,trivial⟩
          obtain ⟨sn,hsn2,_⟩:=HSN.out
          rw [← hsn2] at HAD
          have HSQ:=Lib.hid hsn2
          have HB0:Hid (CovPh wb q L (k+1) s' m g g8 sm sn 0 wr.drew):=hBj.drew
          clear hsn hsn2 HSN hso hwo haj hBj
          go_upto_region 31 with fail
          refine wp_region_const2 [[],[],[],[],[1,2,3],[0,1,2,3,4],[0,1,2,3,4,5],[0,1,2,3,4,5,6],[0,1,2,3,4,5,6],[0,1,2,3,4,5,6,7]]
           [uV sm,.pointer q,.int .i64 j,uV m,uV wv,.tuple #[uV sn,.bool sb],.tuple #[uV sn,.bool sb],uV sn,.bool sb,undef]
           [0,5,9] (CovPh wb q L (k+1) s' m g g8 sm sn) _ (by kernel_rfl) (by kernel_rfl) (by kernel_rfl)
           (fun vs=>by simp only [rgAct,rgPut,List.setIfInBounds_toArray,List.set_cons_zero,List.set_cons_succ]; exact rfl)
           (by simp only [List.getD_cons_zero,List.getD_cons_succ]; exact rfl) HB0.out ?_ ?_
          ·refine ⟨?_,?_,?_,?_,?_,?_,?_,?_,?_,?_,trivial⟩
           ·intro vs p w1 hA hP hq
            have hp:=hq 0 rfl
            subst hp
            exact rg_loadU rfl rfl rfl (CS.u4 (rs:=[(g8,uO sm),(g,uO m)]) (x:=sm) hP (by simp)) ⟨rfl,hP⟩
           ·intro vs p w1 hA hP hq
            exact rg_move rfl (.inl rfl) rfl ⟨rfl,hP⟩
           ·intro vs p w1 hA hP hq
            exact rg_move rfl (.inl rfl) rfl ⟨rfl,hP⟩
           ·intro vs p w1 hA hP hq
            exact rg_loadU rfl rfl rfl (CovPh.mrow hP) ⟨rfl,hP⟩
           ·intro vs p w1 hA hP hq
            obtain ⟨e1,e2,e3,_⟩:=hA
            have e1:vs 1 = .pointer q:=e1
            have e2:vs 2 = .int .i64 j:=e2
            have e3:vs 3=uV m:=e3
            refine rg_fn rfl rfl rfl (by kernel_rfl) (show [vs 1,vs 2,.int .i64 1,vs 3]=_ from by rw [e1,e2,e3]) (Calls.mono (HWO.out p _ sm sn hP) ?_)
            rintro e w2 ⟨rfl,hP2⟩
            exact ⟨_,rfl,rfl,hP2⟩
           ·intro vs p w1 hA hP hq
            obtain ⟨e0,_,_,_,e4,_⟩:=hA
            have e0:vs 0=uV sm:=e0
            have e4:vs 4=uV wv:=e4
            have hp:=hq 1 rfl
            subst hp
            refine rg_fn rfl rfl rfl (by kernel_rfl) (show [vs 0,vs 4]=_ from by rw [e0,e4]) (Calls.mono (HAD.out _ hP) ?_)
            rintro e w2 ⟨rfl,hP2⟩
            exact ⟨_,rfl,rfl,hP2⟩
           ·intro vs p w1 hA hP hq
            obtain ⟨_,_,_,_,_,e5,_⟩:=hA
            have e5:vs 5 = .tuple #[uV sn,.bool sb]:=e5
            exact rg_move rfl (.inl rfl) e5 ⟨rfl,hP⟩
           ·intro vs p w1 hA hP hq
            obtain ⟨_,_,_,_,_,_,e6,_⟩:=hA
            have e6:vs 6 = .tuple #[uV sn,.bool sb]:=e6
            exact rg_extract rfl rfl e6 rfl ⟨rfl,hP⟩
           ·intro vs p w1 hA hP hq
            obtain ⟨_,_,_,_,_,_,e6,_⟩:=hA
            have e6:vs 6 = .tuple #[uV sn,.bool sb]:=e6
            exact rg_extract rfl rfl e6 rfl ⟨rfl,hP⟩
           ·intro vs p w1 hA hP hq
            obtain ⟨_,_,_,_,_,_,_,e7,_⟩:=hA
            have e7:vs 7=uV sn:=e7
            have hp:=hq 2 rfl
            subst hp
            exact rg_storeU rfl rfl rfl e7 (CS.u4 (rs:=[(g8,uO sm),(g,uO m)]) (x:=sm) hP (by simp)) ⟨rfl,CS.setRow (rs:=[(g8,uO sm),(g,uO m)]) (y:=sm) hP sn (by simp) (by simpa using hgn)⟩
          ·intro W hW
           have HW:Hid (CS wb q L (k+1) s' m [(g8,uO sn),(g,uO m)] W):=hW
           clear hW
           go_wp2_with fail
           go_roundw
           case rel=>exact ⟨j+1,by go_num,by omega,by omega,by rw [Nat.add_sub_cancel,← HSQ.out]; exact HW.out⟩
           case measure=>simp [intOf]; omega
         ·obtain rfl:j=4:=by omega
          rw [show (4 - 1:Nat)=3 from rfl] at hBj
          have hok:=sumTo_ok s' m 3
          have hcm:decide ((0:Int) < uCmp (sumTo s' m 3) (s'.prt 9 1))=false:=decide_eq_false (by have:=sum_le hBj.2.1; omega)
          have HPA:Hid (∀ W,CS wb q L (k+1) s' m [(g8,uO (sumTo s' m 3)),(g,uO m)] W→_):=fun W h=>h.part (by omega)
          have HCP:Hid (∀ W,CS wb q L (k+1) s' m [(g8,uO (sumTo s' m 3)),(g,uO m)] W→Calls Tryz.prog 23 #[uV (sumTo s' m 3),uV (s'.prt 9 1)] W fun e w'=>e = .returned (.int .i64 (uCmp (sumTo s' m 3) (s'.prt 9 1)))∧CS wb q L (k+1) s' m [(g8,uO (sumTo s' m 3)),(g,uO m)] w'):=fun W h=>h.reads fun _ _=>rcmp_u _ _ hok (amt_ok _ _) W
          have hB3:CS wb q L (k+1) s' m [(g8,uO (sumTo s' m 3)),(g,uO m)] wr:=hBj
          clear hBj hok
          generalize sumTo s' m 3=sm at *
          generalize s'.prt 9 1=pr at *
          generalize uCmp sm pr=cv at *
          have HBd:=Lib.hid hB3.drew
          obtain ⟨s0,s1,s2,s3,_⟩:=row4 (hB3.u4 (g:=g8) (x:=sm) (by simp))
          clear hB3
          go_upto_region 32 with fail
          go_region_held3 (fun w'=>w'.cell? ⟨g8,0,none⟩=some (.int .u64 sm.1)∧w'.cell? ⟨g8,1,none⟩=some (.int .u64 sm.2.1)∧w'.cell? ⟨g8,2,none⟩=some (.int .u64 sm.2.2.1)∧w'.cell? ⟨g8,3,none⟩=some (.int .u64 sm.2.2.2)) (go_keep)
           (first
            | (go_at_call 24; refine Calls.mono (HPA.out _ HBd.out) ?_; rintro e v1 ⟨rfl,hB1⟩; obtain ⟨a0,a1,a2,a3,_⟩:=row4 (hB1.u4 (g:=g8) (x:=sm) (by simp)))
            | (go_at_call 23; refine Calls.mono (HCP.out _ hB1) ?_; rintro e v2 ⟨rfl,hB2⟩; obtain ⟨b0,b1,b2,b3,_⟩:=row4 (hB2.u4 (g:=g8) (x:=sm) (by simp))))
          have HB2:=Lib.hid (hB2.less (qs:=[(g,uO m)]) (by simp))
          clear hB1 hB2 a0 a1 a2 a3 b0 b1 b2 b3 s0 s1 s2 s3
          go_wp2_with fail
          go_roundw
          case rel=>exact ⟨k+1,by go_num,by omega,s',m,HB2.out⟩
          case measure=>simp [intOf]; omega
       ·have hE1:∀ w,(Op.equalIn 10000 28 (uV P) (.agg #[.int .u64 0,.int .u64 0,.int .u64 0,.int .u64 0])).run Tryz.prog w = .ok false w:=fun w=>by
         have:=eqU P (0,0,0,0) w
         rwa [decide_eq_false hP0] at this
        have HT1:=Lib.hid (HTK.out hP0 _ _ hB7)
        clear hB7 HTK HTZ hP0
        go_wp2_with fail
        refine Calls.mono HT1.out ?_
        rintro e w8 ⟨⟨u,rfl⟩,s',hB8⟩
        have hB9:=hB8.alloc (uO u)
        clear hB8 HT1 m0 m1 m2 m3 r0 r1 r2 r3
        go_upto_region 16 with fail
        generalize w8.alloc (uO u)=w9 at *
        generalize w8.heap.size=g10 at *
        obtain ⟨r0,r1,r2,r3,_⟩:=row4 (hB9.u4 (g:=p12) (x:=P) (by simp))
        have hT:=hB9.less (qs:=[(g,uO m)]) (by simp)
        have HT:=Lib.hid hT
        clear hB9 hT
        go_upto_region 27 with fail
        clear r0 r1 r2 r3 hE1
        have hS0:=HT.out.alloc (uO (0,0,0,0))
        have HTg:=HT
        clear HT
        go_upto_region 28 with fail
        have HGN:Hid (g≠w9.heap.size):=fun e=>by
         have:=lt_of_at (HTg.out.u4 (g:=g) (x:=m) (by simp))
         omega
        generalize w9.alloc (uO (0,0,0,0))=w6 at *
        generalize w9.heap.size=g8 at *
        have HS0:=Lib.hid hS0
        clear hS0 HTg
        have hgn:g≠g8:=HGN.out
        have hgn2:=Ne.symm hgn
        go_wp2_with fail
        go_loopw [19] (fun iv wv=>∃ j:Nat,iv = .int .i64 j∧1≤j∧j≤4∧CS wb q L (k+1) s' m [(g8,uO (sumTo s' m (j - 1))),(g,uO m)] wv) (fun iv _=>4 - (intOf iv).toNat)
        case atStart=>exact ⟨1,rfl,by omega,by omega,HS0.out⟩
        case round =>
         obtain ⟨j,rfl,hj1,hj4,hBj⟩:=hrel
         by_cases hj:j≤3
         ·have haj:Who3 (j:Int):=by unfold Who3; omega
          have hsn:sumTo s' m j=toW (uN (sumTo s' m (j - 1))+uN (worthW (s'.dep (j:Int) 1) (s'.fct (j:Int) 1) m)):=by
           obtain ⟨i,rfl⟩:∃ i,j=i+1:=⟨j - 1,by omega⟩
           rfl
          have hso:=sumTo_ok s' m (j - 1)
          have HWO:Hid (∀ p W sm sn,CovPh wb q L (k+1) s' m g g8 sm sn p W→_):=fun p W sm sn h=>h.worth (by omega) haj
          have hwo:=worthW_ok (s'.dep (j:Int) 1) (s'.fct (j:Int) 1) m
          generalize sumTo s' m (j - 1)=sm at *
          generalize worthW (s'.dep (j:Int) 1) (s'.fct (j:Int) 1) m=wv at *
          have HAD:Hid (∀ W,CS wb q L (k+1) s' m [(g8,uO sm),(g,uO m)] W→Calls Tryz.prog 21 #[uV sm,uV wv] W fun e w'=>e = .returned (.tuple #[uV (toW (uN sm+uN wv)),.bool (toB (uN sm+uN wv))])∧CS wb q L (k+1) s' m [(g8,uO sm),(g,uO m)] w'):=fun W h=>h.reads fun _ _=>radd_u sm wv hso hwo W
          rw [← hsn] at HAD
          generalize toB (uN sm+uN wv)=sb at *
          have HSN:Hid (∃ x,x=sumTo s' m j∧True):=⟨_,rfl,trivial⟩
          obtain ⟨sn,hsn2,_⟩:=HSN.out
          rw [← hsn2] at HAD
          have HSQ:=Lib.hid hsn2
          have HB0:Hid (CovPh wb q L (k+1) s' m g g8 sm sn 0 wr.drew):=hBj.drew
          clear hsn hsn2 HSN hso hwo haj hBj
          go_upto_region 31 with fail
          refine wp_region_const2 [[],[],[],[],[1,2,3],[0,1,2,3,4],[0,1,2,3,4,5],[0,1,2,3,4,5,6],[0,1,2,3,4,5,6],[0,1,2,3,4,5,6,7]]
           [uV sm,.pointer q,.int .i64 j,uV m,uV wv,.tuple #[uV sn,.bool sb],.tuple #[uV sn,.bool sb],uV sn,.bool sb,undef]
           [0,5,9] (CovPh wb q L (k+1) s' m g g8 sm sn) _ (by kernel_rfl) (by kernel_rfl) (by kernel_rfl)
           (fun vs=>by simp only [rgAct,rgPut,List.setIfInBounds_toArray,List.set_cons_zero,List.set_cons_succ]; exact rfl)
           (by simp only [List.getD_cons_zero,List.getD_cons_succ]; exact rfl) HB0.out ?_ ?_
          ·refine ⟨?_,?_,?_,?_,?_,?_,?_,?_,?_,?_,trivial⟩
           ·intro vs p w1 hA hP hq
            have hp:=hq 0 rfl
            subst hp
            exact rg_loadU rfl rfl rfl (CS.u4 (rs:=[(g8,uO sm),(g,uO m)]) (x:=sm) hP (by simp)) ⟨rfl,hP⟩
           ·intro vs p w1 hA hP hq
            exact rg_move rfl (.inl rfl) rfl ⟨rfl,hP⟩
           ·intro vs p w1 hA hP hq
            exact rg_move rfl (.inl rfl) rfl ⟨rfl,hP⟩
           ·intro vs p w1 hA hP hq
            exact rg_loadU rfl rfl rfl (CovPh.mrow hP) ⟨rfl,hP⟩
           ·intro vs p w1 hA hP hq
            obtain ⟨e1,e2,e3,_⟩:=hA
            have e1:vs 1 = .pointer q:=e1
            have e2:vs 2 = .int .i64 j:=e2
            have e3:vs 3=uV m:=e3
            refine rg_fn rfl rfl rfl (by kernel_rfl) (show [vs 1,vs 2,.int .i64 1,vs 3]=_ from by rw [e1,e2,e3]) (Calls.mono (HWO.out p _ sm sn hP) ?_)
            rintro e w2 ⟨rfl,hP2⟩
            exact ⟨_,rfl,rfl,hP2⟩
           ·intro vs p w1 hA hP hq
            obtain ⟨e0,_,_,_,e4,_⟩:=hA
            have e0:vs 0=uV sm:=e0
            have e4:vs 4=uV wv:=e4
            have hp:=hq 1 rfl
            subst hp
            refine rg_fn rfl rfl rfl (by kernel_rfl) (show [vs 0,vs 4]=_ from by rw [e0,e4]) (Calls.mono (HAD.out _ hP) ?_)
            rintro e w2 ⟨rfl,hP2⟩
            exact ⟨_,rfl,rfl,hP2⟩
           ·intro vs p w1 hA hP hq
            obtain ⟨_,_,_,_,_,e5,_⟩:=hA
            have e5:vs 5 = .tuple #[uV sn,.bool sb]:=e5
            exact rg_move rfl (.inl rfl) e5 ⟨rfl,hP⟩
           ·intro vs p w1 hA hP hq
            obtain ⟨_,_,_,_,_,_,e6,_⟩:=hA
            have e6:vs 6 = .tuple #[uV sn,.bool sb]:=e6
            exact rg_extract rfl rfl e6 rfl ⟨rfl,hP⟩
           ·intro vs p w1 hA hP hq
            obtain ⟨_,_,_,_,_,_,e6,_⟩:=hA
            have e6:vs 6 = .tuple #[uV sn,.bool sb]:=e6
            exact rg_extract rfl rfl e6 rfl ⟨rfl,hP⟩
           ·intro vs p w1 hA hP hq
            obtain ⟨_,_,_,_,_,_,_,e7,_⟩:=hA
            have e7:vs 7=uV sn:=e7
            have hp:=hq 2 rfl
            subst hp
            exact rg_storeU rfl rfl rfl e7 (CS.u4 (rs:=[(g8,uO sm),(g,uO m)]) (x:=sm) hP (by simp)) ⟨rfl,CS.setRow (rs:=[(g8,uO sm),(g,uO m)]) (y:=sm) hP sn (by simp) (by simpa using hgn)⟩
          ·intro W hW
           have HW:Hid (CS wb q L (k+1) s' m [(g8,uO sn),(g,uO m)] W):=hW
           clear hW
           go_wp2_with fail
           go_roundw
           case rel=>exact ⟨j+1,by go_num,by omega,by omega,by rw [Nat.add_sub_cancel,← HSQ.out]; exact HW.out⟩
           case measure=>simp [intOf]; omega
         ·obtain rfl:j=4:=by omega
          rw [show (4 - 1:Nat)=3 from rfl] at hBj
          have hok:=sumTo_ok s' m 3
          have hcm:decide ((0:Int) < uCmp (sumTo s' m 3) (s'.prt 9 1))=false:=decide_eq_false (by have:=sum_le hBj.2.1; omega)
          have HPA:Hid (∀ W,CS wb q L (k+1) s' m [(g8,uO (sumTo s' m 3)),(g,uO m)] W→_):=fun W h=>h.part (by omega)
          have HCP:Hid (∀ W,CS wb q L (k+1) s' m [(g8,uO (sumTo s' m 3)),(g,uO m)] W→Calls Tryz.prog 23 #[uV (sumTo s' m 3),uV (s'.prt 9 1)] W fun e w'=>e = .returned (.int .i64 (uCmp (sumTo s' m 3) (s'.prt 9 1)))∧CS wb q L (k+1) s' m [(g8,uO (sumTo s' m 3)),(g,uO m)] w'):=fun W h=>h.reads fun _ _=>rcmp_u _ _ hok (amt_ok _ _) W
          have hB3:CS wb q L (k+1) s' m [(g8,uO (sumTo s' m 3)),(g,uO m)] wr:=hBj
          clear hBj hok
          generalize sumTo s' m 3=sm at *
          generalize s'.prt 9 1=pr at *
          generalize uCmp sm pr=cv at *
          have HBd:=Lib.hid hB3.drew
          obtain ⟨s0,s1,s2,s3,_⟩:=row4 (hB3.u4 (g:=g8) (x:=sm) (by simp))
          clear hB3
          go_upto_region 32 with fail
          go_region_held3 (fun w'=>w'.cell? ⟨g8,0,none⟩=some (.int .u64 sm.1)∧w'.cell? ⟨g8,1,none⟩=some (.int .u64 sm.2.1)∧w'.cell? ⟨g8,2,none⟩=some (.int .u64 sm.2.2.1)∧w'.cell? ⟨g8,3,none⟩=some (.int .u64 sm.2.2.2)) (go_keep)
           (first
            | (go_at_call 24; refine Calls.mono (HPA.out _ HBd.out) ?_; rintro e v1 ⟨rfl,hB1⟩; obtain ⟨a0,a1,a2,a3,_⟩:=row4 (hB1.u4 (g:=g8) (x:=sm) (by simp)))
            | (go_at_call 23; refine Calls.mono (HCP.out _ hB1) ?_; rintro e v2 ⟨rfl,hB2⟩; obtain ⟨b0,b1,b2,b3,_⟩:=row4 (hB2.u4 (g:=g8) (x:=sm) (by simp))))
          have HB2:=Lib.hid (hB2.less (qs:=[(g,uO m)]) (by simp))
          clear hB1 hB2 a0 a1 a2 a3 b0 b1 b2 b3 s0 s1 s2 s3
          go_wp2_with fail
          go_roundw
          case rel=>exact ⟨k+1,by go_num,by omega,s',m,HB2.out⟩
          case measure=>simp [intOf]; omega
     ·by_cases h2:xk=2
      ·subst h2
       have hmM:uN m < M128:=Nat.lt_of_le_of_lt HA1.out.2.1.m18 (by decide)
       have hmo:=HA1.out.2.1.mo
       obtain ⟨P,hP,hPo,hPn⟩:=part256 hmM (y:=xx) (by omega)
       obtain ⟨hto,ht0,htle⟩:=slash_left hmo HA1.out.2.1.m0 hxx hPn
       have hm0:m≠(0,0,0,0):=fun e=>by
        have h1:=HA1.out.2.1.m0
        rw [e] at h1
        exact absurd h1 (by decide)
       have hEm:∀ w,(Op.equalIn 10000 28 (uV m) (.agg #[.int .u64 0,.int .u64 0,.int .u64 0,.int .u64 0])).run Tryz.prog w = .ok false w:=fun w=>by
        have:=eqU m (0,0,0,0) w
        rwa [decide_eq_false hm0] at this
       have hw8:IntKind.u64.wrap (xx:Int)=xx:=by rw [IntKind.wrap_u64]; omega
       have HML:Hid (∀ rs W,CS wb q L k s m rs W→Calls Tryz.prog 15 #[uV m,.agg #[.int .u64 xx,.int .u64 0,.int .u64 0,.int .u64 0]] W fun e w'=>e = .returned (.tuple #[uV (toW (uN m*uN ((xx,0,0,0):W4))),.bool (toB (uN m*uN ((xx,0,0,0):W4)))])∧CS wb q L k s m rs w'):=fun rs W h=>h.reads fun _ _=>rmul_u m (xx,0,0,0) hmo ⟨(by show xx < 18446744073709551616; omega),(by show 0 < 18446744073709551616; decide),(by show 0 < 18446744073709551616; decide),(by show 0 < 18446744073709551616; decide)⟩ W
       have HDV:Hid (∀ rs W,CS wb q L k s m rs W→Calls Tryz.prog 17 #[uV (toW (uN m*uN ((xx,0,0,0):W4))),.agg #[.int .u64 256,.int .u64 0,.int .u64 0,.int .u64 0]] W fun e w'=>∃ r:W4,e = .returned (.tuple #[uV P,uV r,.bool true])∧CS wb q L k s m rs w'):=fun rs W h=>by
        have:=h.reads fun _ _=>rdiv_u (toW (uN m*uN ((xx,0,0,0):W4))) (256,0,0,0) (toW_ok _) ⟨by decide,by decide,by decide,by decide⟩ (by decide) W
        rw [hP] at this
        exact this.mono fun e w' ⟨he,h1⟩=>⟨_,he,h1⟩
       have HSB:Hid (∀ rs W,CS wb q L k s m rs W→Calls Tryz.prog 19 #[uV m,uV P] W fun e w'=>e = .returned (.tuple #[uV (subW m P),.bool (subB m P)])∧CS wb q L k s m rs w'):=fun rs W h=>h.reads fun _ _=>rsub_u m P hmo hPo W
       have HCT:Hid (∀ rs W,CS wb q L k s m rs W→_):=fun rs W h=>h.cut HK.out hto ht0 htle
       clear hP hPo hPn hto ht0 htle hm0 hmM hmo
       generalize toW (uN m*uN ((xx,0,0,0):W4))=p1 at *
       generalize toB (uN m*uN ((xx,0,0,0):W4))=b1 at *
       generalize subB m P=b2 at *
       generalize subW m P=t at *
       obtain ⟨m0,m1,m2,m3,_⟩:=row4 (HA1.out.u4 (g:=g) (x:=m) (by simp))
       go_wp2_with fail
       refine Calls.mono (HML.out _ _ HA1.out) ?_
       rintro e w5 ⟨rfl,hB5⟩
       have hgs:=hB5.lt (g:=gs) (o:=.cells #[.int .i64 2,.int .i64 xs,.int .u8 xx,.int .u64 M0,.int .u64 M1,.int .u64 M2,.int .u64 M3] 31) (by simp)
       have hgg:=hB5.lt (g:=g) (o:=uO m) (by simp)
       have HNE:Hid (gs≠w5.heap.size∧g≠w5.heap.size):=⟨by omega,by omega⟩
       have hB6:=hB5.alloc (uO p1)
       clear hB5 HA1 HML m0 m1 m2 m3 c0 c1 c2 c3 c4 c5 c6 hgs hgg
       go_upto_region 20 with fail
       generalize w5.alloc (uO p1)=w6 at *
       generalize w5.heap.size=g5 at *
       obtain ⟨r0,r1,r2,r3,_⟩:=row4 (hB6.u4 (g:=g5) (x:=p1) (by simp))
       have HB6:=Lib.hid hB6
       clear hB6
       go_wp2_with fail
       refine Calls.mono (HDV.out _ _ HB6.out) ?_
       rintro e w7 ⟨r,rfl,hB7⟩
       clear r0 r1 r2 r3 HB6 HDV
       obtain ⟨r0,r1,r2,r3,f0,f1,f2,f3⟩:=row4 (hB7.u4 (g:=g5) (x:=p1) (by simp))
       have hB8:=hB7.put4 (g:=g5) (y:=p1) (qs:=[(gs,.cells #[.int .i64 2,.int .i64 xs,.int .u8 xx,.int .u64 M0,.int .u64 M1,.int .u64 M2,.int .u64 M3] 31),(g,uO m)]) P (by simp) (by
        intro x hx
        simp only [List.mem_cons,List.not_mem_nil,or_false] at hx
        rcases hx with rfl | rfl
        ·exact ⟨by simp,HNE.out.1⟩
        ·exact ⟨by simp,HNE.out.2⟩)
       clear hB7
       go_upto_region 21 with fail
       clear r0 r1 r2 r3 f0 f1 f2 f3
       generalize ((((w7.setCell ⟨g5,0,none⟩ (.int .u64 P.1)).setCell ⟨g5,1,none⟩ (.int .u64 P.2.1)).setCell ⟨g5,2,none⟩ (.int .u64 P.2.2.1)).setCell ⟨g5,3,none⟩ (.int .u64 P.2.2.2))=w8 at *
       obtain ⟨m0,m1,m2,m3,_⟩:=row4 (hB8.u4 (g:=g) (x:=m) (by simp))
       obtain ⟨r0,r1,r2,r3,_⟩:=row4 (hB8.u4 (g:=g5) (x:=P) (by simp))
       have HB8:=Lib.hid hB8
       clear hB8
       go_wp2_with fail
       refine Calls.mono (HSB.out _ _ HB8.out) ?_
       rintro e w9 ⟨rfl,hB9⟩
       have hgg:=hB9.lt (g:=g) (o:=uO m) (by simp)
       have HNE2:Hid (g≠w9.heap.size):=(by omega:g≠w9.heap.size)
       have hB10:=hB9.alloc (uO t)
       clear m0 m1 m2 m3 r0 r1 r2 r3 hB9 HB8 HSB hgg
       go_upto_region 22 with fail
       generalize w9.alloc (uO t)=w10 at *
       generalize w9.heap.size=g6 at *
       obtain ⟨m0,m1,m2,m3,_⟩:=row4 (hB10.u4 (g:=g) (x:=m) (by simp))
       obtain ⟨r0,r1,r2,r3,_⟩:=row4 (hB10.u4 (g:=g6) (x:=t) (by simp))
       have HB10:=Lib.hid hB10
       clear hB10
       go_wp2_with fail
       refine Calls.mono (HCT.out _ _ HB10.out) ?_
       rintro e w11 ⟨⟨u,rfl⟩,s',hB11⟩
       have hB12:=hB11.alloc (uO u)
       clear m0 m1 m2 m3 r0 r1 r2 r3 hB11 HB10 HCT hEm
       go_upto_region 24 with fail
       generalize w11.alloc (uO u)=w12 at *
       generalize w11.heap.size=g7 at *
       obtain ⟨m0,m1,m2,m3,f0,f1,f2,f3⟩:=row4 (hB12.u4 (g:=g) (x:=m) (by simp))
       obtain ⟨r0,r1,r2,r3,_⟩:=row4 (hB12.u4 (g:=g6) (x:=t) (by simp))
       have hT:=hB12.put4 (g:=g) (y:=m) (qs:=[]) t (by simp) (by simp)
       clear hB12
       go_upto_region 27 with fail
       clear m0 m1 m2 m3 f0 f1 f2 f3 r0 r1 r2 r3
       generalize ((((w12.setCell ⟨g,0,none⟩ (.int .u64 t.1)).setCell ⟨g,1,none⟩ (.int .u64 t.2.1)).setCell ⟨g,2,none⟩ (.int .u64 t.2.2.1)).setCell ⟨g,3,none⟩ (.int .u64 t.2.2.2))=w13 at *
       have HT:=Lib.hid hT
       clear hT
       have hS0:=HT.out.alloc (uO (0,0,0,0))
       have HTg:=HT
       clear HT
       go_upto_region 28 with fail
       have HGN:Hid (g≠w13.heap.size):=fun e=>by
        have:=lt_of_at (HTg.out.u4 (g:=g) (x:=t) (by simp))
        omega
       generalize w13.alloc (uO (0,0,0,0))=w6 at *
       generalize w13.heap.size=g8 at *
       have HS0:=Lib.hid hS0
       clear hS0 HTg
       have hgn:g≠g8:=HGN.out
       have hgn2:=Ne.symm hgn
       go_wp2_with fail
       go_loopw [19] (fun iv wv=>∃ j:Nat,iv = .int .i64 j∧1≤j∧j≤4∧CS wb q L (k+1) s' t [(g8,uO (sumTo s' t (j - 1))),(g,uO t)] wv) (fun iv _=>4 - (intOf iv).toNat)
       case atStart=>exact ⟨1,rfl,by omega,by omega,HS0.out⟩
       case round =>
        obtain ⟨j,rfl,hj1,hj4,hBj⟩:=hrel
        by_cases hj:j≤3
        ·have haj:Who3 (j:Int):=by unfold Who3; omega
         have hsn:sumTo s' t j=toW (uN (sumTo s' t (j - 1))+uN (worthW (s'.dep (j:Int) 1) (s'.fct (j:Int) 1) t)):=by
          obtain ⟨i,rfl⟩:∃ i,j=i+1:=⟨j - 1,by omega⟩
          rfl
         have hso:=sumTo_ok s' t (j - 1)
         have HWO:Hid (∀ p W sm sn,CovPh wb q L (k+1) s' t g g8 sm sn p W→_):=fun p W sm sn h=>h.worth (by omega) haj
         have hwo:=worthW_ok (s'.dep (j:Int) 1) (s'.fct (j:Int) 1) t
         generalize sumTo s' t (j - 1)=sm at *
         generalize worthW (s'.dep (j:Int) 1) (s'.fct (j:Int) 1) t=wv at *
         have HAD:Hid (∀ W,CS wb q L (k+1) s' t [(g8,uO sm),(g,uO t)] W→Calls Tryz.prog 21 #[uV sm,uV wv] W fun e w'=>e = .returned (.tuple #[uV (toW (uN sm+uN wv)),.bool (toB (uN sm+uN wv))])∧CS wb q L (k+1) s' t [(g8,uO sm),(g,uO t)] w'):=fun W h=>h.reads fun _ _=>radd_u sm wv hso hwo W
         rw [← hsn] at HAD
         generalize toB (uN sm+uN wv)=sb at *
         have HSN:Hid (∃ x,x=sumTo s' t j∧True):=⟨_,rfl,trivial⟩
         obtain ⟨sn,hsn2,_⟩:=HSN.out
         rw [← hsn2] at HAD
         have HSQ:=Lib.hid hsn2
         have HB0:Hid (CovPh wb q L (k+1) s' t g g8 sm sn 0 wr.drew):=hBj.drew
         clear hsn hsn2 HSN hso hwo haj hBj
         go_upto_region 31 with fail
         refine wp_region_const2 [[],[],[],[],[1,2,3],[0,1,2,3,4],[0,1,2,3,4,5],[0,1,2,3,4,5,6],[0,1,2,3,4,5,6],[0,1,2,3,4,5,6,7]]
          [uV sm,.pointer q,.int .i64 j,uV t,uV wv,.tuple #[uV sn,.bool sb],.tuple #[uV sn,.bool sb],uV sn,.bool sb,undef]
          [0,5,9] (CovPh wb q L (k+1) s' t g g8 sm sn) _ (by kernel_rfl) (by kernel_rfl) (by kernel_rfl)
          (fun vs=>by simp only [rgAct,rgPut,List.setIfInBounds_toArray,List.set_cons_zero,List.set_cons_succ]; exact rfl)
          (by simp only [List.getD_cons_zero,List.getD_cons_succ]; exact rfl) HB0.out ?_ ?_
         ·refine ⟨?_,?_,?_,?_,?_,?_,?_,?_,?_,?_,trivial⟩
          ·intro vs p w1 hA hP hq
           have hp:=hq 0 rfl
           subst hp
           exact rg_loadU rfl rfl rfl (CS.u4 (rs:=[(g8,uO sm),(g,uO t)]) (x:=sm) hP (by simp)) ⟨rfl,hP⟩
          ·intro vs p w1 hA hP hq
           exact rg_move rfl (.inl rfl) rfl ⟨rfl,hP⟩
          ·intro vs p w1 hA hP hq
           exact rg_move rfl (.inl rfl) rfl ⟨rfl,hP⟩
          ·intro vs p w1 hA hP hq
           exact rg_loadU rfl rfl rfl (CovPh.mrow hP) ⟨rfl,hP⟩
          ·intro vs p w1 hA hP hq
           obtain ⟨e1,e2,e3,_⟩:=hA
           have e1:vs 1 = .pointer q:=e1
           have e2:vs 2 = .int .i64 j:=e2
           have e3:vs 3=uV t:=e3
           refine rg_fn rfl rfl rfl (by kernel_rfl) (show [vs 1,vs 2,.int .i64 1,vs 3]=_ from by rw [e1,e2,e3]) (Calls.mono (HWO.out p _ sm sn hP) ?_)
           rintro e w2 ⟨rfl,hP2⟩
           exact ⟨_,rfl,rfl,hP2⟩
          ·intro vs p w1 hA hP hq
           obtain ⟨e0,_,_,_,e4,_⟩:=hA
           have e0:vs 0=uV sm:=e0
           have e4:vs 4=uV wv:=e4
           have hp:=hq 1 rfl
           subst hp
           refine rg_fn rfl rfl rfl (by kernel_rfl) (show [vs 0,vs 4]=_ from by rw [e0,e4]) (Calls.mono (HAD.out _ hP) ?_)
           rintro e w2 ⟨rfl,hP2⟩
           exact ⟨_,rfl,rfl,hP2⟩
          ·intro vs p w1 hA hP hq
           obtain ⟨_,_,_,_,_,e5,_⟩:=hA
           have e5:vs 5 = .tuple #[uV sn,.bool sb]:=e5
           exact rg_move rfl (.inl rfl) e5 ⟨rfl,hP⟩
          ·intro vs p w1 hA hP hq
           obtain ⟨_,_,_,_,_,_,e6,_⟩:=hA
           have e6:vs 6 = .tuple #[uV sn,.bool sb]:=e6
           exact rg_extract rfl rfl e6 rfl ⟨rfl,hP⟩
          ·intro vs p w1 hA hP hq
           obtain ⟨_,_,_,_,_,_,e6,_⟩:=hA
           have e6:vs 6 = .tuple #[uV sn,.bool sb]:=e6
           exact rg_extract rfl rfl e6 rfl ⟨rfl,hP⟩
          ·intro vs p w1 hA hP hq
           obtain ⟨_,_,_,_,_,_,_,e7,_⟩:=hA
           have e7:vs 7=uV sn:=e7
           have hp:=hq 2 rfl
           subst hp
           exact rg_storeU rfl rfl rfl e7 (CS.u4 (rs:=[(g8,uO sm),(g,uO t)]) (x:=sm) hP (by simp)) ⟨rfl,CS.setRow (rs:=[(g8,uO sm),(g,uO t)]) (y:=sm) hP sn (by simp) (by simpa using hgn)⟩
         ·intro W hW
          have HW:Hid (CS wb q L (k+1) s' t [(g8,uO sn),(g,uO t)] W):=hW
          clear hW
          go_wp2_with fail
          go_roundw
          case rel=>exact ⟨j+1,by go_num,by omega,by omega,by rw [Nat.add_sub_cancel,← HSQ.out]; exact HW.out⟩
          case measure=>simp [intOf]; omega
        ·obtain rfl:j=4:=by omega
         rw [show (4 - 1:Nat)=3 from rfl] at hBj
         have hok:=sumTo_ok s' t 3
         have hcm:decide ((0:Int) < uCmp (sumTo s' t 3) (s'.prt 9 1))=false:=decide_eq_false (by have:=sum_le hBj.2.1; omega)
         have HPA:Hid (∀ W,CS wb q L (k+1) s' t [(g8,uO (sumTo s' t 3)),(g,uO t)] W→_):=fun W h=>h.part (by omega)
         have HCP:Hid (∀ W,CS wb q L (k+1) s' t [(g8,uO (sumTo s' t 3)),(g,uO t)] W→Calls Tryz.prog 23 #[uV (sumTo s' t 3),uV (s'.prt 9 1)] W fun e w'=>e = .returned (.int .i64 (uCmp (sumTo s' t 3) (s'.prt 9 1)))∧CS wb q L (k+1) s' t [(g8,uO (sumTo s' t 3)),(g,uO t)] w'):=fun W h=>h.reads fun _ _=>rcmp_u _ _ hok (amt_ok _ _) W
         have hB3:CS wb q L (k+1) s' t [(g8,uO (sumTo s' t 3)),(g,uO t)] wr:=hBj
         clear hBj hok
         generalize sumTo s' t 3=sm at *
         generalize s'.prt 9 1=pr at *
         generalize uCmp sm pr=cv at *
         have HBd:=Lib.hid hB3.drew
         obtain ⟨s0,s1,s2,s3,_⟩:=row4 (hB3.u4 (g:=g8) (x:=sm) (by simp))
         clear hB3
         go_upto_region 32 with fail
         go_region_held3 (fun w'=>w'.cell? ⟨g8,0,none⟩=some (.int .u64 sm.1)∧w'.cell? ⟨g8,1,none⟩=some (.int .u64 sm.2.1)∧w'.cell? ⟨g8,2,none⟩=some (.int .u64 sm.2.2.1)∧w'.cell? ⟨g8,3,none⟩=some (.int .u64 sm.2.2.2)) (go_keep)
          (first
           | (go_at_call 24; refine Calls.mono (HPA.out _ HBd.out) ?_; rintro e v1 ⟨rfl,hB1⟩; obtain ⟨a0,a1,a2,a3,_⟩:=row4 (hB1.u4 (g:=g8) (x:=sm) (by simp)))
           | (go_at_call 23; refine Calls.mono (HCP.out _ hB1) ?_; rintro e v2 ⟨rfl,hB2⟩; obtain ⟨b0,b1,b2,b3,_⟩:=row4 (hB2.u4 (g:=g8) (x:=sm) (by simp))))
         have HB2:=Lib.hid (hB2.less (qs:=[(g,uO t)]) (by simp))
         clear hB1 hB2 a0 a1 a2 a3 b0 b1 b2 b3 s0 s1 s2 s3
         go_wp2_with fail
         go_roundw
         case rel=>exact ⟨k+1,by go_num,by omega,s',t,HB2.out⟩
         case measure=>simp [intOf]; omega
      ·go_upto_region 27 with fail
       have hT:=(HA1.out.less (qs:=[(g,uO m)]) (by simp)).next
       have HT:Hid (∃ s',CS wb q L (k+1) s' m [(g,uO m)] w4):=⟨s,hT⟩
       clear hT HA1 c0 c1 c2 c3 c4 c5 c6
       obtain ⟨s',hT⟩:=HT.out
       have HT:=Lib.hid hT
       clear hT
       have hS0:=HT.out.alloc (uO (0,0,0,0))
       have HTg:=HT
       clear HT
       go_upto_region 28 with fail
       have HGN:Hid (g≠w4.heap.size):=fun e=>by
        have:=lt_of_at (HTg.out.u4 (g:=g) (x:=m) (by simp))
        omega
       generalize w4.alloc (uO (0,0,0,0))=w6 at *
       generalize w4.heap.size=g8 at *
       have HS0:=Lib.hid hS0
       clear hS0 HTg
       have hgn:g≠g8:=HGN.out
       have hgn2:=Ne.symm hgn
       go_wp2_with fail
       go_loopw [19] (fun iv wv=>∃ j:Nat,iv = .int .i64 j∧1≤j∧j≤4∧CS wb q L (k+1) s' m [(g8,uO (sumTo s' m (j - 1))),(g,uO m)] wv) (fun iv _=>4 - (intOf iv).toNat)
       case atStart=>exact ⟨1,rfl,by omega,by omega,HS0.out⟩
       case round =>
        obtain ⟨j,rfl,hj1,hj4,hBj⟩:=hrel
        by_cases hj:j≤3
        ·have haj:Who3 (j:Int):=by unfold Who3; omega
         have hsn:sumTo s' m j=toW (uN (sumTo s' m (j - 1))+uN (worthW (s'.dep (j:Int) 1) (s'.fct (j:Int) 1) m)):=by
          obtain ⟨i,rfl⟩:∃ i,j=i+1:=⟨j - 1,by omega⟩
          rfl
         have hso:=sumTo_ok s' m (j - 1)
         have HWO:Hid (∀ p W sm sn,CovPh wb q L (k+1) s' m g g8 sm sn p W→_):=fun p W sm sn h=>h.worth (by omega) haj
         have hwo:=worthW_ok (s'.dep (j:Int) 1) (s'.fct (j:Int) 1) m
         generalize sumTo s' m (j - 1)=sm at *
         generalize worthW (s'.dep (j:Int) 1) (s'.fct (j:Int) 1) m=wv at *
         have HAD:Hid (∀ W,CS wb q L (k+1) s' m [(g8,uO sm),(g,uO m)] W→Calls Tryz.prog 21 #[uV sm,uV wv] W fun e w'=>e = .returned (.tuple #[uV (toW (uN sm+uN wv)),.bool (toB (uN sm+uN wv))])∧CS wb q L (k+1) s' m [(g8,uO sm),(g,uO m)] w'):=fun W h=>h.reads fun _ _=>radd_u sm wv hso hwo W
         rw [← hsn] at HAD
         generalize toB (uN sm+uN wv)=sb at *
         have HSN:Hid (∃ x,x=sumTo s' m j∧True):=⟨_,rfl,trivial⟩
         obtain ⟨sn,hsn2,_⟩:=HSN.out
         rw [← hsn2] at HAD
         have HSQ:=Lib.hid hsn2
         have HB0:Hid (CovPh wb q L (k+1) s' m g g8 sm sn 0 wr.drew):=hBj.drew
         clear hsn hsn2 HSN hso hwo haj hBj
         go_upto_region 31 with fail
         refine wp_region_const2 [[],[],[],[],[1,2,3],[0,1,2,3,4],[0,1,2,3,4,5],[0,1,2,3,4,5,6],[0,1,2,3,4,5,6],[0,1,2,3,4,5,6,7]]
          [uV sm,.pointer q,.int .i64 j,uV m,uV wv,.tuple #[uV sn,.bool sb],.tuple #[uV sn,.bool sb],uV sn,.bool sb,undef]
          [0,5,9] (CovPh wb q L (k+1) s' m g g8 sm sn) _ (by kernel_rfl) (by kernel_rfl) (by kernel_rfl)
          (fun vs=>by simp only [rgAct,rgPut,List.setIfInBounds_toArray,List.set_cons_zero,List.set_cons_succ]; exact rfl)
          (by simp only [List.getD_cons_zero,List.getD_cons_succ]; exact rfl) HB0.out ?_ ?_
         ·refine ⟨?_,?_,?_,?_,?_,?_,?_,?_,?_,?_,trivial⟩
          ·intro vs p w1 hA hP hq
           have hp:=hq 0 rfl
           subst hp
           exact rg_loadU rfl rfl rfl (CS.u4 (rs:=[(g8,uO sm),(g,uO m)]) (x:=sm) hP (by simp)) ⟨rfl,hP⟩
          ·intro vs p w1 hA hP hq
           exact rg_move rfl (.inl rfl) rfl ⟨rfl,hP⟩
          ·intro vs p w1 hA hP hq
           exact rg_move rfl (.inl rfl) rfl ⟨rfl,hP⟩
          ·intro vs p w1 hA hP hq
           exact rg_loadU rfl rfl rfl (CovPh.mrow hP) ⟨rfl,hP⟩
          ·intro vs p w1 hA hP hq
           obtain ⟨e1,e2,e3,_⟩:=hA
           have e1:vs 1 = .pointer q:=e1
           have e2:vs 2 = .int .i64 j:=e2
           have e3:vs 3=uV m:=e3
           refine rg_fn rfl rfl rfl (by kernel_rfl) (show [vs 1,vs 2,.int .i64 1,vs 3]=_ from by rw [e1,e2,e3]) (Calls.mono (HWO.out p _ sm sn hP) ?_)
           rintro e w2 ⟨rfl,hP2⟩
           exact ⟨_,rfl,rfl,hP2⟩
          ·intro vs p w1 hA hP hq
           obtain ⟨e0,_,_,_,e4,_⟩:=hA
           have e0:vs 0=uV sm:=e0
           have e4:vs 4=uV wv:=e4
           have hp:=hq 1 rfl
           subst hp
           refine rg_fn rfl rfl rfl (by kernel_rfl) (show [vs 0,vs 4]=_ from by rw [e0,e4]) (Calls.mono (HAD.out _ hP) ?_)
           rintro e w2 ⟨rfl,hP2⟩
           exact ⟨_,rfl,rfl,hP2⟩
          ·intro vs p w1 hA hP hq
           obtain ⟨_,_,_,_,_,e5,_⟩:=hA
           have e5:vs 5 = .tuple #[uV sn,.bool sb]:=e5
           exact rg_move rfl (.inl rfl) e5 ⟨rfl,hP⟩
          ·intro vs p w1 hA hP hq
           obtain ⟨_,_,_,_,_,_,e6,_⟩:=hA
           have e6:vs 6 = .tuple #[uV sn,.bool sb]:=e6
           exact rg_extract rfl rfl e6 rfl ⟨rfl,hP⟩
          ·intro vs p w1 hA hP hq
           obtain ⟨_,_,_,_,_,_,e6,_⟩:=hA
           have e6:vs 6 = .tuple #[uV sn,.bool sb]:=e6
           exact rg_extract rfl rfl e6 rfl ⟨rfl,hP⟩
          ·intro vs p w1 hA hP hq
           obtain ⟨_,_,_,_,_,_,_,e7,_⟩:=hA
           have e7:vs 7=uV sn:=e7
           have hp:=hq 2 rfl
           subst hp
           exact rg_storeU rfl rfl rfl e7 (CS.u4 (rs:=[(g8,uO sm),(g,uO m)]) (x:=sm) hP (by simp)) ⟨rfl,CS.setRow (rs:=[(g8,uO sm),(g,uO m)]) (y:=sm) hP sn (by simp) (by simpa using hgn)⟩
         ·intro W hW
          have HW:Hid (CS wb q L (k+1) s' m [(g8,uO sn),(g,uO m)] W):=hW
          clear hW
          go_wp2_with fail
          go_roundw
          case rel=>exact ⟨j+1,by go_num,by omega,by omega,by rw [Nat.add_sub_cancel,← HSQ.out]; exact HW.out⟩
          case measure=>simp [intOf]; omega
        ·obtain rfl:j=4:=by omega
         rw [show (4 - 1:Nat)=3 from rfl] at hBj
         have hok:=sumTo_ok s' m 3
         have hcm:decide ((0:Int) < uCmp (sumTo s' m 3) (s'.prt 9 1))=false:=decide_eq_false (by have:=sum_le hBj.2.1; omega)
         have HPA:Hid (∀ W,CS wb q L (k+1) s' m [(g8,uO (sumTo s' m 3)),(g,uO m)] W→_):=fun W h=>h.part (by omega)
         have HCP:Hid (∀ W,CS wb q L (k+1) s' m [(g8,uO (sumTo s' m 3)),(g,uO m)] W→Calls Tryz.prog 23 #[uV (sumTo s' m 3),uV (s'.prt 9 1)] W fun e w'=>e = .returned (.int .i64 (uCmp (sumTo s' m 3) (s'.prt 9 1)))∧CS wb q L (k+1) s' m [(g8,uO (sumTo s' m 3)),(g,uO m)] w'):=fun W h=>h.reads fun _ _=>rcmp_u _ _ hok (amt_ok _ _) W
         have hB3:CS wb q L (k+1) s' m [(g8,uO (sumTo s' m 3)),(g,uO m)] wr:=hBj
         clear hBj hok
         generalize sumTo s' m 3=sm at *
         generalize s'.prt 9 1=pr at *
         generalize uCmp sm pr=cv at *
         have HBd:=Lib.hid hB3.drew
         obtain ⟨s0,s1,s2,s3,_⟩:=row4 (hB3.u4 (g:=g8) (x:=sm) (by simp))
         clear hB3
         go_upto_region 32 with fail
         go_region_held3 (fun w'=>w'.cell? ⟨g8,0,none⟩=some (.int .u64 sm.1)∧w'.cell? ⟨g8,1,none⟩=some (.int .u64 sm.2.1)∧w'.cell? ⟨g8,2,none⟩=some (.int .u64 sm.2.2.1)∧w'.cell? ⟨g8,3,none⟩=some (.int .u64 sm.2.2.2)) (go_keep)
          (first
           | (go_at_call 24; refine Calls.mono (HPA.out _ HBd.out) ?_; rintro e v1 ⟨rfl,hB1⟩; obtain ⟨a0,a1,a2,a3,_⟩:=row4 (hB1.u4 (g:=g8) (x:=sm) (by simp)))
           | (go_at_call 23; refine Calls.mono (HCP.out _ hB1) ?_; rintro e v2 ⟨rfl,hB2⟩; obtain ⟨b0,b1,b2,b3,_⟩:=row4 (hB2.u4 (g:=g8) (x:=sm) (by simp))))
         have HB2:=Lib.hid (hB2.less (qs:=[(g,uO m)]) (by simp))
         clear hB1 hB2 a0 a1 a2 a3 b0 b1 b2 b3 s0 s1 s2 s3
         go_wp2_with fail
         go_roundw
         case rel=>exact ⟨k+1,by go_num,by omega,s',m,HB2.out⟩
         case measure=>simp [intOf]; omega
   ·obtain rfl:k=n:=by omega
    have HL1:=Lib.hid (HLV.out _ (HB.out _ _ _ _ _ HA.out))
    clear HA
    go_wp2_with fail
    refine Calls.mono HL1.out ?_
    rintro e w8 ⟨rfl,hb8⟩
    go_wp2_with fail
    go_ret
    exact ⟨rfl,hb8⟩
end Go.Proofs.YtpojljieakdgiaaGreat
