/- What is proved here: a store as it has become since a wor -/
import Derived.Test.YtnkilceibkkjlaaGreatKMulU
set_option maxRecDepth 100000
set_option maxHeartbeats 16000000
namespace Go.Proofs.YtnkilceibkkjlaaGreat
open Go.RowKit
def On(w:World)(b:Nat)(L:List Nat)(s:St)(W:World):Prop:=∃ L',SRep W b s L'/\Step w L W L'
theorem On.start{w:World}{b:Nat}{L:List Nat}{s:St}(h:SRep w b s L):On w b L s w:=⟨L,h,Step.refl w L⟩
theorem On.below{w:World}{b:Nat}{L:List Nat}{s:St}{W W':World}(h:On w b L s W)(hb:Below W.heap.size W W'):On w b L s W':=by
 obtain⟨L',hS,st⟩:=h;exact⟨L',hS.below hb,st.trans ⟨Fr.of_below hb _,fun _ h => .inl h⟩⟩
theorem On.drew{w:World}{b:Nat}{L:List Nat}{s:St}{W:World}(h:On w b L s W):On w b L s W.drew:=h.below (z0h (Below.refl _ W))
theorem On.alloc{w:World}{b:Nat}{L:List Nat}{s:St}{W:World}(h:On w b L s W)(o:Obj):On w b L s (W.alloc o):=h.below (z00 (Below.refl _ W) o)
theorem On.heap{w:World}{b:Nat}{L:List Nat}{s:St}{W:World}(h:On w b L s W){k:Nat}(hk:k<w.heap.size)(hn:k∉L):W.heap[k]?=w.heap[k]?:=by
 obtain⟨L',hS,st⟩:=h;exact st.fr.block k hk hn
theorem On.call{w:World}{b:Nat}{L:List Nat}{s s':St}{W:World}(h:On w b L s W){f:FuncId}{args:Array Value}{v:Value}(hC:∀ L',SRep W b s L'->Calls Tryz.prog f args W (z2m W b L' v s')) :
  Calls Tryz.prog f args W fun e W'=>e= .returned v/\On w b L s' W':=by
 obtain⟨L',hS,st⟩:=h;exact(hC L' hS).mono fun e W' ⟨he,L2,hS2,st2⟩=>⟨he,L2,hS2,st.trans st2⟩
theorem On.read{w:World}{b:Nat}{L:List Nat}{s:St}{W:World}{f:Nat}(h:On w b L s W)(hf:s.Fit f)(hm:f<100000000000):z1c W.heap.size W (some ⟨b,0,none⟩) s:=by
 obtain⟨L',hS,_⟩:=h;exact z1c.made hS hf hm
theorem On.back{w0 w:World}{b:Nat}{L:List Nat}{s:St}{W:World}(h:On w b L s W)(hb:Below w0.heap.size w0 w)(v:Value):z2m w0 b L v s (.returned v) W:=by
 obtain⟨L',hS,st⟩:=h;exact z2m.of_below hb ⟨rfl,L',hS,st⟩
structure Hand where
 ptr:Option Addr
 on:Bool
 L:List Nat
def QSt(w:World)(h:Hand)(s:St):Prop:=(h.on=true/\∃ b,h.ptr=some ⟨b,0,none⟩/\SRep w b s h.L)\/(h.on=false/\z4j w h.ptr/\s=⟨[],[]⟩/\h.L=h.ptr.toList.map (·.block))
def QOn(w:World)(h:Hand)(s:St)(W:World):Prop:=∃ L',QSt W ⟨h.ptr,h.on,L'⟩ s/\Step w h.L W L'
def Hand.st(h:Hand)(s s':St):St:=if h.on then s' else s
theorem QSt.lt{w:World}{h:Hand}{s:St}(hq:QSt w h s):∀ k∈h.L,k<w.heap.size:=by
 rcases hq with⟨_,b,_,hS⟩ | ⟨_,hN,_,hl⟩
 ·exact hS.lt
 ·intro k hk;rw[hl]at hk;rcases hN with h1 | ⟨b,h1,h2,_⟩
  ·rw[h1]at hk;cases hk
  ·rw[h1]at hk;simp only[Option.toList,List.map_cons,List.map_nil,List.mem_singleton]at hk;subst hk;exact h2
theorem QSt.frame{w W:World}{h:Hand}{s:St}(hq:QSt w h s)(hs:w.heap.size<=W.heap.size)(hb:∀ k∈h.L,W.heap[k]?=w.heap[k]?):QSt W h s:=by
 rcases hq with⟨hm,b,hp,hS⟩ | ⟨hm,hN,he,hl⟩
 ·exact .inl ⟨hm,b,hp,hS.frame hb⟩
 ·refine .inr ⟨hm,?_,he,hl⟩;rcases hN with h1 | ⟨b,h1,h2,h3⟩
  ·exact .inl h1
  ·refine .inr ⟨b,h1,Nat.lt_of_lt_of_le h2 hs,?_⟩;have hk:b∈h.L:=by rw[hl,h1];simp[Option.toList]
   rw[World.cell?_of_block (w:=w) (hb b hk)];exact h3
theorem QSt.below{w W:World}{h:Hand}{s:St}(hq:QSt w h s)(hb:Below w.heap.size w W):QSt W h s:=by
 rcases hq with⟨hm,b,hp,hS⟩ | ⟨hm,hN,hs,hl⟩
 ·exact .inl ⟨hm,b,hp,hS.below hb⟩
 ·exact .inr ⟨hm,hN.below hb,hs,hl⟩
theorem QOn.start{w:World}{h:Hand}{s:St}(hq:QSt w h s):QOn w h s w:=⟨h.L,hq,Step.refl _ _⟩
theorem z3r{w W:World}(hb:Below w.heap.size w W)(L:List Nat):Step w L W L:=⟨Fr.of_below hb _,fun _ h => .inl h⟩
theorem QOn.below{w W W':World}{h:Hand}{s:St}(hq:QOn w h s W)(hb:Below W.heap.size W W'):QOn w h s W':=by
 obtain⟨L',hS,st⟩:=hq;exact⟨L',hS.below hb,st.trans (z3r hb _)⟩
theorem QOn.back{w W W':World}{h:Hand}{s:St}(hq:QOn W h s W')(hb:Below w.heap.size w W):QOn w h s W':=by
 obtain⟨L',hS,st⟩:=hq;exact⟨L',hS,(z3r hb _).trans st⟩
theorem QSt.read{w:World}{h:Hand}{s:St}{f:Nat}(hq:QSt w h s)(hf:s.Fit f)(hm:f<100000000000):z1c w.heap.size w h.ptr s:=by
 rcases hq with⟨_,b,hp,hS⟩ | ⟨_,hN,hs,_⟩
 ·rw[hp];exact z1c.made hS hf hm
 ·rw[hs];exact z1c.not hN
def St.amt(s:St)(k:ByteArray):W4:=z2p (s.val k)
theorem zgx(w:World)(h:Hand)(s:St)(f:Nat)(k:ByteArray)(hq:QSt w h s)(hf:s.Fit f)(hm:f<100000000000):Calls Tryz.prog 64 #[.pointer h.ptr,.string k] w fun e w'=>e= .returned (uV (s.amt k))/\Below w.heap.size w w':=
 (hq.read hf hm).amount k
theorem zvw(w:World)(q:Option Addr)(k v:ByteArray)(h:z4j w q):Calls Tryz.prog 149 #[.pointer q,.string k,.string v] w fun e w'=>e= .returned (.tuple #[])/\Below w.heap.size w w':=by
 have HD:Hid (Calls Tryz.prog 85 #[.pointer q,.string k] w fun e w'=>e= .returned (.bool false)/\w=w'):=by
  have HG:=zh (h.get k);unfold zb8 at HG;clear h;go_enter Tryz.func85,Tryz.ntmps85;go_wp2_with (go_at_call 140;refine HG.out.mono ?_;rintro e w' ⟨rfl,rfl⟩);go_ret;exact⟨rfl,rfl⟩
 have HS:Hid (Calls Tryz.prog 208 #[.pointer q,.string k,.string v] w fun e w'=>e= .returned (.int .i64 1)/\w=w'):=by
  rcases h with rfl | ⟨b,rfl,_,hc⟩
  ·exact zxb w k v
  ·have HI:=zh (z9h w b false hc);clear hc;go_enter Tryz.func208,Tryz.ntmps208;go_wp2_with (go_at_call 142;refine HI.out.mono ?_;rintro e w' ⟨rfl,rfl⟩);go_ret;exact⟨rfl,rfl⟩
 clear h
 by_cases hv:v=z05
 ·subst hv;unfold z05;go_enter Tryz.func149,Tryz.ntmps149;go_wp2_with (go_at_call 85;refine HD.out.mono ?_;rintro e w' ⟨rfl,rfl⟩);refine bodyPost_ret (results_none rfl _ _ _) rfl ?_;exact⟨rfl,Below.refl _ _⟩
 ·have hv':=zd3 hv;clear hv;go_enter Tryz.func149,Tryz.ntmps149;go_wp2_with (go_at_call 208;refine HS.out.mono ?_;rintro e w' ⟨rfl,rfl⟩)
  go_end0
  exact⟨rfl,Below.refl _ _⟩
theorem zme(w:World)(q:Option Addr)(k:ByteArray)(x:W4)(h:z4j w q):Calls Tryz.prog 81 #[.pointer q,.string k,uV x] w fun e w'=>e= .returned (.tuple #[])/\Below w.heap.size w w':=by
 have HP:∀ v,Hid (∀ w1,Below w.heap.size w w1->Calls Tryz.prog 149 #[.pointer q,.string k,.string v] w1 fun e w'=>e= .returned (.tuple #[])/\Below w.heap.size w w'):=fun v w1 h1 =>
  (zvw w1 q k v (h.below h1)).mono fun e w' h2=>⟨h2.1,z0b h1 h2.2⟩
 have hb1:=z00 (Below.refl _ w) (.cells (uL x) 24)
 by_cases h0:x=(0,0,0,0)
 ·have HP1:=HP z05;have HB1:=zh hb1;unfold z05 at *
  subst h0;have hE:∀ w,(Op.equalIn 10000 24 (.agg #[.int .u64 0,.int .u64 0,.int .u64 0,.int .u64 0]) (.agg #[.int .u64 0,.int .u64 0,.int .u64 0,.int .u64 0])).run Tryz.prog w= .ok true w:=fun w=>eqU (0,0,0,0) (0,0,0,0) w
  clear h HP hb1;go_enter Tryz.func81,Tryz.ntmps81;go_wp2_with (go_at_call 149;refine(HP1.out _ HB1.out).mono ?_;rintro e w' ⟨rfl,hR⟩);refine bodyPost_ret (results_none rfl _ _ _) rfl ?_;exact⟨rfl,hR⟩
 ·have HP1:=HP (amtB x);have HK:Hid (Calls Tryz.prog 150 #[uV x] (w.alloc (.cells (uL x) 24)) fun e w'=>e= .returned (.string (amtB x))/\Below w.heap.size w w'):=(zcv x _).mono fun e w' ⟨he,hb⟩=>⟨he,z0b hb1 hb⟩
  have hE:∀ w,(Op.equalIn 10000 24 (.agg #[.int .u64 x.1,.int .u64 x.2.1,.int .u64 x.2.2.1,.int .u64 x.2.2.2]) (.agg #[.int .u64 0,.int .u64 0,.int .u64 0,.int .u64 0])).run Tryz.prog w= .ok false w:=fun w=>by
   have:=eqU x (0,0,0,0) w;rw[decide_eq_false h0]at this;exact this
  have hq:=row4 (heap_alloc_new w (.cells (uL x) 24));obtain⟨q0,q1,q2,q3,_⟩:=hq;generalize amtB x=nb at *
  clear h HP hb1;go_enter Tryz.func81,Tryz.ntmps81;go_wp2_with (first | (go_at_call 150;refine HK.out.mono ?_;rintro e w1 ⟨rfl,hb1⟩)|(go_at_call 149;refine(HP1.out _ hb1).mono ?_;rintro e w' ⟨rfl,hR⟩))
  go_end0
  exact⟨rfl,hR⟩
theorem zup(w:World)(h:Hand)(s:St)(k:ByteArray)(x:W4)(hq:QSt w h s)(hz:s.size<1000000000000):Calls Tryz.prog 81 #[.pointer h.ptr,.string k,uV x] w fun e w'=>e= .returned (.tuple #[])/\QOn w h (h.st s (s.z09 k x)) w':=by
 unfold Hand.st;rcases hq with⟨hm,b,hp,hS⟩ | ⟨hm,hN,hs,hl⟩
 ·rw[hp,if_pos hm];exact(zf2 w b s h.L k x hS hz).mono fun e w' ⟨he,L',hS',st⟩=>⟨he,L',.inl ⟨hm,b,hp,hS'⟩,st⟩
 ·rw[if_neg (by rw[hm];decide)];exact(zme w h.ptr k x hN).mono fun e w' ⟨he,hb⟩=>⟨he,h.L,.inr ⟨hm,hN.below hb,hs,hl⟩,z3r hb _⟩
end Go.Proofs.YtnkilceibkkjlaaGreat
