/- What is proved here: muldiv.Down of the program. Its condition: words below 2^64. muldiv.Up of the program; its Down in the document's words. Its condition: words below 2^64. wad.Amount, and wad.ScaleUp with its closure, of the program. Their condition: words below 2^64. wad.Square of the program. No condition. -/
import Derived.Test.YtnkilceibkkjlaaGreatHMQuo
import Derived.Test.YtnkilceibkkjlaaGreatHRelyG
import Derived.Test.YtnkilceibkkjlaaGreatHRDown
set_option maxRecDepth 100000
set_option maxHeartbeats 16000000
namespace Go.Proofs.YtnkilceibkkjlaaGreat
open Go.RowKit
structure DwAt (w:World) (x y d:W4) (wr:World):Prop where
 b:Below w.heap.size w wr
 x:wr.heap[w.heap.size]? = some (.cells (uL x) 24 (0,0))
 y:wr.heap[w.heap.size+1]? = some (.cells (uL y) 24 (0,0))
 d:wr.heap[w.heap.size+2]? = some (.cells (uL d) 24 (0,0))
 z:wr.heap[w.heap.size+3]? = some (.cells (uL (0,0,0,0)) 24 (0,0))
abbrev w4d (w:World) (x y d:W4):World:=(((w.alloc (.cells (uL x) 24)).alloc (.cells (uL y) 24)).alloc (.cells (uL d) 24)).alloc (.cells #[.int .u64 0,.int .u64 0,.int .u64 0,.int .u64 0] 24)
theorem DwAt.start (w:World) (x y d:W4):DwAt w x y d (w4d w x y d):=by
 refine ⟨bl_alloc (bl_alloc (bl_alloc (bl_alloc (Below.refl _ _) _) _) _) _,?_,?_,?_,?_⟩
 ·rw [heap_alloc_old _ _ (by simp <;> omega),heap_alloc_old _ _ (by simp <;> omega),heap_alloc_old _ _ (by simp)]; exact heap_alloc_new w _
 ·rw [heap_alloc_old _ _ (by simp <;> omega),heap_alloc_old _ _ (by simp <;> omega)]
  have:=heap_alloc_new (w.alloc (.cells (uL x) 24)) (.cells (uL y) 24)
  rwa [World.size_alloc] at this
 ·rw [heap_alloc_old _ _ (by simp)]
  have:=heap_alloc_new ((w.alloc (.cells (uL x) 24)).alloc (.cells (uL y) 24)) (.cells (uL d) 24)
  rwa [World.size_alloc,World.size_alloc] at this
 ·have:=heap_alloc_new (((w.alloc (.cells (uL x) 24)).alloc (.cells (uL y) 24)).alloc (.cells (uL d) 24)) (.cells #[.int .u64 0,.int .u64 0,.int .u64 0,.int .u64 0] 24)
  rwa [World.size_alloc,World.size_alloc,World.size_alloc] at this
theorem DwAt.below {w wr w':World} {x y d:W4} (h:DwAt w x y d wr) (hb:Below wr.heap.size wr w'):DwAt w x y d w' :=
 ⟨bl_then h.b hb,(hb.block _ (lt_of_at h.x)).trans h.x,(hb.block _ (lt_of_at h.y)).trans h.y,(hb.block _ (lt_of_at h.d)).trans h.d,(hb.block _ (lt_of_at h.z)).trans h.z⟩
theorem DwAt.put {w wr:World} {x y d q:W4} {g:Nat} (h:DwAt w x y d wr) (hg:w.heap.size+4≤g):DwAt w x y d (wr.setRow g (uL q)) :=
 ⟨⟨h.b.os,h.b.tape,h.b.output,by simpa using h.b.size,fun k hk=>(setRow_other _ _ _ _ (by omega)).trans (h.b.block k hk)⟩,(setRow_other _ _ _ _ (by omega)).trans h.x,(setRow_other _ _ _ _ (by omega)).trans h.y,(setRow_other _ _ _ _ (by omega)).trans h.d,(setRow_other _ _ _ _ (by omega)).trans h.z⟩
theorem down_any (x y d:W4) (hx:x.Ok) (hy:y.Ok) (hd:d.Ok) (w:World):Calls Tryz.prog 111 #[uV x,uV y,uV d] w fun e w'=>e = .returned (.tuple #[uV (mdQ x y d),.bool (mdB x y d)])∧Below w.heap.size w w':=by
 have HC0:=Lib.hid ((DwAt.start w x y d).below (bl_drew (Below.refl _ _)))
 obtain ⟨H,hH⟩:∃ H,H=hiOf (uN x*uN y):=⟨_,rfl⟩
 obtain ⟨L,hL⟩:∃ L,L=uOf (uN x*uN y):=⟨_,rfl⟩
 have HM:Hid (∀ W,Calls Tryz.prog 176 #[uV x,uV y] W fun e w'=>e = .returned (wV H L)∧Below W.heap.size W w'):=fun W=>by rw [hH,hL]; exact mmul_any x y hx hy W
 have HQ:Hid (∀ W,Calls Tryz.prog 175 #[wV H L,uV d] W fun e w'=>e = .returned (.tuple #[uV (mdQ x y d),uV (mdR x y d),.bool (mdB x y d)])∧Below W.heap.size W w'):=fun W=>by rw [hH,hL]; exact md_any x y d hx hy hd W
 obtain ⟨q,hq⟩:∃ q,q=mdQ x y d:=⟨_,rfl⟩
 obtain ⟨r,hr⟩:∃ r,r=mdR x y d:=⟨_,rfl⟩
 obtain ⟨b,hb⟩:∃ b,b=mdB x y d:=⟨_,rfl⟩
 rw [← hq,← hb]
 rw [← hq,← hr,← hb] at HQ
 clear hq hr hb hH hL
 go_enter Tryz.func111,Tryz.ntmps111
 go_wp2_with fail
 go_upto_region 1 with fail
 refine wp_region_rely [[],[],[0,1],[],[0,1,2,3],[0,1,2,3,4],[0,1,2,3,4,5],[0,1,2,3,4,5],[0,1,2,3,4,5],[],[],[0,1,2,3,4,5,6,9,10],[0,1,2,3,4,5,6,7,9,10,11],[0,1,2,3,4,5,6,7,8,9,10,11,12]]
  [rgC (DwAt w x y d),rgV 0 (uV x),rgV 1 (uV y),rgV 2 (wV H L),rgV 3 (uV d),rgV 4 (.tuple #[uV q,uV r,.bool b]),rgV 5 (.tuple #[uV q,uV r,.bool b]),rgV 6 (uV q),rgV 7 (uV r),rgV 8 (.bool b),rgP 9 (w.heap.size+4),rgP 10 (w.heap.size+4),rgV 13 (.bool b),rgNe 9 10,rgS 9 11 (q),rgS 10 12 (r)] _ (by kernel_rfl) (by kernel_rfl) (by kernel_rfl)
  (fun vs=>by simp only [rgAct,rgPut,List.setIfInBounds_toArray,List.set_cons_zero,List.set_cons_succ]; exact rfl)
  ⟨fun _ _ _ hb h=>h.below hb,rgV_st,rgV_st,rgV_st,rgV_st,rgV_st,rgV_st,rgV_st,rgV_st,rgV_st,rgP_st,rgP_st,rgV_st,rgNe_st,rgS_st,rgS_st,trivial⟩ ?_ ?_ ?_
 ·refine rgAll_yes rfl HC0.out ?_
  iterate 15 refine rgAll_no rfl ?_
  exact trivial
 ·refine ⟨?_,?_,?_,?_,?_,?_,?_,?_,?_,?_,?_,?_,?_,?_,trivial⟩
  ·rintro vs w1 ⟨hC,_⟩ K hK
   refine rg_loadU rfl rfl rfl hC.x (hK _ _ (.inl (Below.refl _ _)) ?_)
   exact rgNew_one 1 rfl fun _=>rfl
  ·rintro vs w1 ⟨hC,_⟩ K hK
   refine rg_loadU rfl rfl rfl hC.y (hK _ _ (.inl (Below.refl _ _)) ?_)
   exact rgNew_one 2 rfl fun _=>rfl
  ·rintro vs w1 ⟨_,e0,e1,_⟩ K hK
   refine rg_fn rfl rfl rfl (by kernel_rfl) (show [vs 0,vs 1]=_ from by rw [rg1 e0,rg1 e1]) (Calls.mono (HM.out _) ?_)
   rintro e w2 ⟨rfl,hb⟩
   refine ⟨_,rfl,hK _ _ (.inl hb) ?_⟩
   exact rgNew_one 3 rfl fun _=>rfl
  ·rintro vs w1 ⟨hC,_⟩ K hK
   refine rg_loadU rfl rfl rfl hC.d (hK _ _ (.inl (Below.refl _ _)) ?_)
   exact rgNew_one 4 rfl fun _=>rfl
  ·rintro vs w1 ⟨_,_,_,e2,e3,_⟩ K hK
   refine rg_fn rfl rfl rfl (by kernel_rfl) (show [vs 2,vs 3]=_ from by rw [rg1 e2,rg1 e3]) (Calls.mono (HQ.out _) ?_)
   rintro e w2 ⟨rfl,hb⟩
   refine ⟨_,rfl,hK _ _ (.inl hb) ?_⟩
   exact rgNew_one 5 rfl fun _=>rfl
  ·rintro vs w1 ⟨_,_,_,_,_,e4,_⟩ K hK
   refine rg_move rfl (.inl rfl) (rg1 e4) (hK _ _ (.inl (Below.refl _ _)) ?_)
   exact rgNew_one 6 rfl fun _=>rfl
  ·rintro vs w1 ⟨_,_,_,_,_,_,e5,_⟩ K hK
   refine rg_extract rfl rfl (rg1 e5) rfl (hK _ _ (.inl (Below.refl _ _)) ?_)
   exact rgNew_one 7 rfl fun _=>rfl
  ·rintro vs w1 ⟨_,_,_,_,_,_,e5,_⟩ K hK
   refine rg_extract rfl rfl (rg1 e5) rfl (hK _ _ (.inl (Below.refl _ _)) ?_)
   exact rgNew_one 8 rfl fun _=>rfl
  ·rintro vs w1 ⟨_,_,_,_,_,_,e5,_⟩ K hK
   refine rg_extract rfl rfl (rg1 e5) rfl (hK _ _ (.inl (Below.refl _ _)) ?_)
   exact rgNew_one 9 rfl fun _=>rfl
  ·rintro vs w1 ⟨hC,_⟩ K hK
   refine rg_allocU rfl rfl (hK _ _ (.inl (bl_alloc (Below.refl _ _) _)) ?_)
   iterate 10 refine rgNew_no rfl ?_
   refine rgNew_yes rfl (fun _=>⟨_,_,rfl,lt_of_at hC.z,heap_alloc_new _ _⟩) ?_
   iterate 2 refine rgNew_no rfl ?_
   refine rgNew_yes rfl (fun hB=>by obtain ⟨_,q10,_⟩:=hB; exact rgNe_fst q10) ?_
   iterate 2 refine rgNew_no rfl ?_
   exact trivial
  ·rintro vs w1 ⟨hC,_⟩ K hK
   refine rg_allocU rfl rfl (hK _ _ (.inl (bl_alloc (Below.refl _ _) _)) ?_)
   iterate 11 refine rgNew_no rfl ?_
   refine rgNew_yes rfl (fun _=>⟨_,_,rfl,lt_of_at hC.z,heap_alloc_new _ _⟩) ?_
   refine rgNew_no rfl ?_
   refine rgNew_yes rfl (fun hB=>by obtain ⟨_,q9,_⟩:=hB; exact rgNe_snd q9) ?_
   iterate 2 refine rgNew_no rfl ?_
   exact trivial
  ·rintro vs w1 ⟨hC,_,_,_,_,_,_,e6,⟨_,_,e9,h9,g9⟩,_,_,_⟩ K hK
   refine rg_storeU rfl rfl (rg1 e9) (rg1 e6) g9 (hK _ _ (.inr ?_) ?_)
   ·refine rgStay_yes rfl (fun hC _=>hC.put h9) ?_
    iterate 9 refine rgStay_yes rfl (fun h _=>h) ?_
    refine rgStay_yes rfl (fun h _=>rgP_put h) ?_
    refine rgStay_yes rfl (fun h _=>rgP_put h) ?_
    refine rgStay_no rfl ?_
    refine rgStay_yes rfl (fun h _=>h) ?_
    iterate 2 refine rgStay_no rfl ?_
    exact trivial
   ·iterate 14 refine rgNew_no rfl ?_
    refine rgNew_yes rfl (fun _=>⟨_,_,by show [vs 9,undef]=_; rw [rg1 e9],setRow_heap _ _ _ _ _ _ g9⟩) ?_
    refine rgNew_no rfl ?_
    exact trivial
  ·rintro vs w1 ⟨hC,_,_,_,_,_,_,_,e7,_,⟨_,_,e10,h10,g10⟩,n9_10,_,_⟩ K hK
   refine rg_storeU rfl rfl (rg1 e10) (rg1 e7) g10 (hK _ _ (.inr ?_) ?_)
   ·refine rgStay_yes rfl (fun hC _=>hC.put h10) ?_
    iterate 9 refine rgStay_yes rfl (fun h _=>h) ?_
    refine rgStay_yes rfl (fun h _=>rgP_put h) ?_
    refine rgStay_yes rfl (fun h _=>rgP_put h) ?_
    refine rgStay_no rfl ?_
    refine rgStay_yes rfl (fun h _=>h) ?_
    refine rgStay_yes rfl (fun h hB=>by obtain ⟨_,_,_,_,_,_,_,_,_,_,_,n9_10,_,_⟩:=hB; exact rgS_put h fun p u hx=>by have h1:=(rg2 hx).1; exact rgNe_at n9_10 (by show [vs 9,vs 10]=_; rw [h1,rg1 e10])) ?_
    refine rgStay_no rfl ?_
    exact trivial
   ·iterate 15 refine rgNew_no rfl ?_
    refine rgNew_yes rfl (fun _=>⟨_,_,by show [vs 10,undef]=_; rw [rg1 e10],setRow_heap _ _ _ _ _ _ g10⟩) ?_
    exact trivial
  ·rintro vs w1 ⟨_,_,_,_,_,_,_,_,_,e8,_,_,_,_,_,_⟩ K hK
   refine rg_move rfl (.inr rfl) (rg1 e8) (hK _ _ (.inl (Below.refl _ _)) ?_)
   exact rgNew_one 12 rfl fun _=>rfl
 ·intro vs w1 hA
  obtain ⟨hC,e0,e1,e2,e3,e4,e5,e6,e7,e8,⟨p9,_,e9,h9,g9⟩,⟨p10,_,e10,h10,g10⟩,e13,n9_10,s11,s12,_⟩:=hA
  have e0:=rg1 e0
  have e1:=rg1 e1
  have e2:=rg1 e2
  have e3:=rg1 e3
  have e4:=rg1 e4
  have e5:=rg1 e5
  have e6:=rg1 e6
  have e7:=rg1 e7
  have e8:=rg1 e8
  have e9:=rg1 e9
  have e10:=rg1 e10
  have e13:=rg1 e13
  have s11:=rgS_at s11 e9
  have s12:=rgS_at s12 e10
  simp only [e0,e1,e2,e3,e4,e5,e6,e7,e8,e9,e10,e13]
  obtain ⟨c0,c1,c2,c3,_⟩:=row4 s11
  obtain ⟨z0,z1,z2,z3,z4,z5,z6,z7⟩:=row4 hC.z
  have HZ:=Lib.hid (put4 hC.z q)
  have HB:=Lib.hid (put4_below (n:=w.heap.size) hC.b (show w.heap.size≤w.heap.size+3 by omega) (.int .u64 q.1) (.int .u64 q.2.1) (.int .u64 q.2.2.1) (.int .u64 q.2.2.2))
  have hne:w.heap.size+3≠p9:=by omega
  have hne2:=Ne.symm hne
  clear e0 e1 e2 e3 e4 e5 e6 e7 e8 e9 e10 e13 g9 g10 s11 s12 n9_10 hC h9 h10
  go_wp2_with fail
  refine bodyPost_ret (results_cell_row2 rfl _ _ (w.heap.size+3) 24 (uL q) (0,0) _ rfl HZ.out Tryz.underlying24 rfl (by kernel_rfl)) rfl ?_
  exact ⟨rfl,HB.out⟩
theorem mdn_any (x y d:W4) (hx:x.Ok) (hy:y.Ok) (hd:d.Ok) (w:World):Calls Tryz.prog 111 #[uV x,uV y,uV d] w fun e w'=>e = .returned (.tuple #[uV (dnW x y d),.bool (dnB x y d)])∧Below w.heap.size w w':=by
 have:=down_any x y d hx hy hd w
 rwa [(md_dn x y d).1,(md_dn x y d).2] at this
structure UpAt (w:World) (g:Nat) (q:W4) (wr:World):Prop where
 b:Below w.heap.size w wr
 p:wr.heap[g]? = some (.cells (uL q) 24 (0,0))
 z':∃ z,wr.heap[w.heap.size+3]? = some (.cells (uL z) 24 (0,0))
 n:w.heap.size+4≤g
theorem UpAt.below {w wr w':World} {g:Nat} {q:W4} (h:UpAt w g q wr) (hb:Below wr.heap.size wr w'):UpAt w g q w' :=
 ⟨bl_then h.b hb,(hb.block _ (lt_of_at h.p)).trans h.p,let ⟨z,hz⟩:=h.z'; ⟨z,(hb.block _ (lt_of_at hz)).trans hz⟩,h.n⟩
theorem UpAt.put {w wr:World} {g:Nat} {q:W4} (h:UpAt w g q wr) (s:W4):UpAt w g q (wr.setRow (w.heap.size+3) (uL s)):=by
 obtain ⟨z,hz⟩:=h.z'
 refine ⟨⟨h.b.os,h.b.tape,h.b.output,by simpa using h.b.size,fun k hk=>(setRow_other _ _ _ _ (by omega)).trans (h.b.block k hk)⟩,(setRow_other _ _ _ _ (by have:=h.n; omega)).trans h.p,⟨s,setRow_heap _ _ _ _ _ _ hz⟩,h.n⟩
abbrev M128:Nat:=340282366920938463463374607431768211456
theorem amount_iff {x:W4} (h:x.Ok):(Nat.lor x.2.2.1 x.2.2.2=0)↔uN x < M128:=by
 obtain ⟨x0,x1,x2,x3⟩:=x
 obtain ⟨h0,h1,h2,h3⟩:=h
 have hor:Nat.lor x2 x3=0↔x2=0∧x3=0:=by
  show x2 ||| x3=0↔_
  exact Nat.or_eq_zero_iff
 simp only [uN,M128] at *
 rw [hor]; omega
theorem wamount_any (x:W4) (hx:x.Ok) (w:World):Calls Tryz.prog 11 #[uV x] w fun e w'=>e = .returned (.bool (decide (uN x < M128)))∧Below w.heap.size w w':=by
 have HB:=Lib.hid (bl_alloc (Below.refl _ w) (.cells (uL x) 24))
 obtain ⟨q0,q1,q2,q3,_⟩:=row4 (heap_alloc_new w (.cells (uL x) 24))
 have HE:Hid ((bits .or .u64 (x.2.2.1:Int) (x.2.2.2:Int) == 0)=decide (uN x < M128)):=by
  show _=_
  rw [bits_or_u64_nat _ _ hx.2.2.1 hx.2.2.2,Bool.eq_iff_iff,beq_iff_eq,decide_eq_true_eq,← amount_iff hx]
  exact Int.natCast_eq_zero
 go_enter Tryz.func11,Tryz.ntmps11
 go_wp2_with fail
 go_ret
 exact ⟨by rw [HE.out]; rfl,HB.out⟩
theorem scaled_any (a f:W4) (g:FuncId) (cap:Array Value) (u:W4) (v:Bool) (w:World) (hfn:rgFn Tryz.prog g=true) (hf0:f≠(0,0,0,0)→∀ W,Below w.heap.size w W→Calls Tryz.prog g cap W fun e w'=>e = .returned (.tuple #[uV u,.bool v])∧Below W.heap.size W w') :
  Calls Tryz.prog 128 #[uV a,uV f,.func (.func g) #[] cap] w fun e w'=>e = .returned (.tuple #[uV (if f=(0,0,0,0) then (0,0,0,0) else u),.bool (if f=(0,0,0,0) then decide (a=(0,0,0,0)) else v)])∧Below w.heap.size w w':=by
 have HV:=VAt.start w [a,f,(0,0,0,0)]
 by_cases h0:f=(0,0,0,0)
 ·subst h0
  simp only [if_true]
  have HV0:=Lib.hid (VAt.vr (l:=[a,(0,0,0,0)]) HV).drew
  have hE:∀ w,(Op.equalIn 10000 24 (.agg #[.int .u64 0,.int .u64 0,.int .u64 0,.int .u64 0]) (.agg #[.int .u64 0,.int .u64 0,.int .u64 0,.int .u64 0])).run Tryz.prog w = .ok true w:=fun w=>eqU (0,0,0,0) (0,0,0,0) w
  obtain ⟨c,hc⟩:∃ c,decide (a=(0,0,0,0))=c:=⟨_,rfl⟩
  rw [hc]
  clear HV hf0
  go_enter Tryz.func128,Tryz.ntmps128
  go_wp2_with fail
  go_upto_region 2 with fail
  refine wp_region_rely [[],[],[],[1,2],[0],[0,1,2,3,4]]
   [rgC (VR w [a,(0,0,0,0)] 2),rgV 0 (uV (0,0,0,0)),rgV 1 (uV a),rgV 2 (uV (0,0,0,0)),rgV 3 (.bool c),rgV 5 (.bool c),rgR 4 (w.heap.size+2) ((0,0,0,0))] _ (by kernel_rfl) (by kernel_rfl) (by kernel_rfl)
   (fun vs=>by simp only [rgAct,rgPut,List.setIfInBounds_toArray,List.set_cons_zero,List.set_cons_succ]; exact rfl)
   ⟨fun _ _ _ hb h=>h.below hb,rgV_st,rgV_st,rgV_st,rgV_st,rgV_st,rgR_st,trivial⟩ ?_ ?_ ?_
  ·refine rgAll_yes rfl HV0.out ?_
   iterate 6 refine rgAll_no rfl ?_
   exact trivial
  ·refine ⟨?_,?_,?_,?_,?_,?_,trivial⟩
   ·rintro vs w1 ⟨_,_⟩ K hK
    refine rg_build0 rfl rfl (hK _ _ (.inl (Below.refl _ _)) ?_)
    exact rgNew_one 1 rfl fun _=>rfl
   ·rintro vs w1 ⟨hC,_⟩ K hK
    refine rg_loadU rfl rfl rfl (hC.r 0 a rfl) (hK _ _ (.inl (Below.refl _ _)) ?_)
    exact rgNew_one 2 rfl fun _=>rfl
   ·rintro vs w1 ⟨_,_⟩ K hK
    refine rg_build0 rfl rfl (hK _ _ (.inl (Below.refl _ _)) ?_)
    exact rgNew_one 3 rfl fun _=>rfl
   ·rintro vs w1 ⟨_,e1,e2,_⟩ K hK
    refine rg_eqlU rfl rfl (rg1 e1) (rg1 e2) hc (hK _ _ (.inl (Below.refl _ _)) ?_)
    exact rgNew_one 4 rfl fun _=>rfl
   ·rintro vs w1 ⟨hC,e0,_⟩ K hK
    refine rg_storeU rfl rfl rfl (rg1 e0) hC.z.choose_spec (hK _ _ (.inr ?_) ?_)
    ·refine rgStay_yes rfl (fun hC _=>hC.put _) ?_
     iterate 4 refine rgStay_yes rfl (fun h _=>h) ?_
     iterate 2 refine rgStay_no rfl ?_
     exact trivial
    ·iterate 6 refine rgNew_no rfl ?_
     refine rgNew_yes rfl (fun _=>setRow_heap _ _ _ _ _ _ hC.z.choose_spec) ?_
     exact trivial
   ·rintro vs w1 ⟨_,_,_,_,e3,_,_⟩ K hK
    refine rg_move rfl (.inr rfl) (rg1 e3) (hK _ _ (.inl (Below.refl _ _)) ?_)
    exact rgNew_one 5 rfl fun _=>rfl
  ·intro vs w1 hA
   obtain ⟨hC,e0,e1,e2,e3,e5,t4,_⟩:=hA
   have e0:=rg1 e0
   have e1:=rg1 e1
   have e2:=rg1 e2
   have e3:=rg1 e3
   have e5:=rg1 e5
   simp only [e0,e1,e2,e3,e5]
   have HR:=Lib.hid t4
   have HB:=Lib.hid hC.b
   clear e0 e1 e2 e3 e5 t4 hC
   go_wp2_with fail
   refine bodyPost_ret (results_cell_row2 rfl _ _ (w.heap.size+2) 24 (uL (0,0,0,0)) (0,0) _ rfl HR.out Tryz.underlying24 rfl (by kernel_rfl)) rfl ?_
   exact ⟨rfl,HB.out⟩
 ·simp only [if_neg h0]
  have HV0:=VAt.vr (l:=[a,f]) HV
  have HG:Hid (∀ W,VR w [a,f] 2 W→Calls Tryz.prog g cap W fun e w'=>e = .returned (.tuple #[uV u,.bool v])∧VR w [a,f] 2 w'):=fun W hW =>
   (hf0 h0 W hW.b).mono fun e w' ⟨he,hb⟩=>⟨he,hW.below hb⟩
  have HV1:=Lib.hid HV0
  have hcf:∀ w,(callFunc g cap).run Tryz.prog w = .ok (.enter g cap) w:=run_fn hfn cap
  have hE:∀ w,(Op.equalIn 10000 24 (uV f) (.agg #[.int .u64 0,.int .u64 0,.int .u64 0,.int .u64 0])).run Tryz.prog w = .ok false w:=fun w=>by
   have:=eqU f (0,0,0,0) w
   rwa [decide_eq_false h0] at this
  clear HV hf0 h0 HV0
  go_enter Tryz.func128,Tryz.ntmps128
  go_wp2_with fail
  refine Calls.mono (HG.out _ HV1.out) ?_
  rintro e w3 ⟨rfl,hV3⟩
  obtain ⟨z,z0,z1,z2,z3,z4,z5,z6,z7⟩:=hV3.zc
  have HR:=Lib.hid (hV3.res u)
  clear hV3 HV1 HG
  go_wp2_with fail
  refine bodyPost_ret (results_cell_row2 rfl _ _ (w.heap.size+2) 24 (uL u) (0,0) _ rfl HR.out.2 Tryz.underlying24 rfl (by kernel_rfl)) rfl ?_
  exact ⟨rfl,HR.out.1⟩
def sqW:W4:=uOf 1000000000000000000000000000000000000
theorem one_nat:uN oneW=1000000000000000000:=by decide
theorem field_lo (H L:W4) (w:World):(Instr.field 225 (wV H L) 1).run Tryz.prog w = .ok (uV L) w:=by
 show (Instr.field 225 (.agg #[.int .u64 H.1,.int .u64 H.2.1,.int .u64 H.2.2.1,.int .u64 H.2.2.2,.int .u64 L.1,.int .u64 L.2.1,.int .u64 L.2.2.1,.int .u64 L.2.2.2]) 1).run Tryz.prog w = .ok (.agg #[.int .u64 L.1,.int .u64 L.2.1,.int .u64 L.2.2.1,.int .u64 L.2.2.2]) w
 kernel_rfl
theorem square_any (w:World):Calls Tryz.prog 112 #[] w fun e w'=>e = .returned (uV sqW)∧Below w.heap.size w w':=by
 have hrow:=heap_alloc_new w (.cells (uL (0,0,0,0)) 24)
 obtain ⟨H,hH⟩:∃ H,H=hiOf (uN oneW*uN oneW):=⟨_,rfl⟩
 obtain ⟨L,hL⟩:∃ L,L=sqW:=⟨_,rfl⟩
 have hb0:=bl_alloc (Below.refl _ w) (.cells (uL (0,0,0,0)) 24)
 have HO:Hid (∀ W,Below w.heap.size w W→W.heap[w.heap.size]? = some (.cells (uL (0,0,0,0)) 24 (0,0))→Calls Tryz.prog 24 #[] W fun e w'=>e = .returned (uV oneW)∧Below w.heap.size w w'∧w'.heap[w.heap.size]? = some (.cells (uL (0,0,0,0)) 24 (0,0))):=fun W hb hr=>(one_any W).mono fun e w' ⟨he,h1⟩=>⟨he,bl_then hb h1,(h1.block _ (lt_of_at hr)).trans hr⟩
 have HM:Hid (∀ W,Below w.heap.size w W→W.heap[w.heap.size]? = some (.cells (uL (0,0,0,0)) 24 (0,0))→Calls Tryz.prog 176 #[uV oneW,uV oneW] W fun e w'=>e = .returned (wV H L)∧Below w.heap.size w w'∧w'.heap[w.heap.size]? = some (.cells (uL (0,0,0,0)) 24 (0,0))):=fun W hb hr=>(mmul_any oneW oneW one_ok one_ok W).mono fun e w' ⟨he,h1⟩=>⟨by rw [he,hH,hL]; unfold sqW; rw [one_nat],bl_then hb h1,(h1.block _ (lt_of_at hr)).trans hr⟩
 have HO1:Hid (Calls Tryz.prog 24 #[] (w.alloc (.cells #[.int .u64 0,.int .u64 0,.int .u64 0,.int .u64 0] 24)) fun e w'=>e = .returned (uV oneW)∧Below w.heap.size w w'∧w'.heap[w.heap.size]? = some (.cells (uL (0,0,0,0)) 24 (0,0))):=HO.out _ hb0 hrow
 have HE:=Lib.hid (congrArg (fun x=>Ending.returned (uV x)) hL)
 have hF:=field_lo H L
 clear hH hL hrow hb0
 go_enter Tryz.func112,Tryz.ntmps112
 go_wp2_with fail
 refine Calls.mono HO1.out ?_
 rintro e w1 ⟨rfl,hb1,hr1⟩
 have HO2:=Lib.hid (HO.out _ hb1 hr1)
 clear hb1 hr1 HO1
 go_wp2_with fail
 refine Calls.mono HO2.out ?_
 rintro e w2 ⟨rfl,hb2,hr2⟩
 have HM2:=Lib.hid (HM.out _ hb2 hr2)
 clear hb2 hr2 HO2
 go_wp2_with fail
 refine Calls.mono HM2.out ?_
 rintro e w3 ⟨rfl,hb3,hr3⟩
 obtain ⟨_,_,_,_,r0,r1,r2,r3⟩:=row4 hr3
 have HR:=Lib.hid hr3
 have HB3:=Lib.hid hb3
 clear hr3 hb3 HM2 HO HM
 go_wp2_with fail
 refine bodyPost_ret (results_cell_row rfl _ _ w.heap.size 24 (uL L) (0,0) _ rfl (put4 HR.out L) Tryz.underlying24 rfl (by kernel_rfl)) rfl ?_
 exact ⟨HE.out,put4_below HB3.out (by omega) _ _ _ _⟩
end Go.Proofs.YtnkilceibkkjlaaGreat
