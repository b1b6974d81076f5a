/- What is proved here: cell.Row, cell.Int over a store that -/
import Derived.Test.YtnkilceibkkjlaaGreatKRStore
import Derived.Test.YtnkilceibkkjlaaGreatKRNum
set_option maxRecDepth 100000
set_option maxHeartbeats 16000000
namespace Go.Proofs.YtnkilceibkkjlaaGreat
open Go.RowKit
def zb8(w:World)(q:Option Addr)(k v:ByteArray)(ok:Bool):Prop:=Calls Tryz.prog 140 #[.pointer q,.string k] w fun e w'=>e= .returned (.tuple #[.string v,.bool ok])/\w=w'
theorem zs5(w:World)(q:Option Addr)(k:ByteArray)(hG:zb8 w q k z05 false):Calls Tryz.prog 75 #[.pointer q,.string k] w fun e w'=>e= .returned (.slice none 0 0)/\w=w':=by
 have HN:=zh (znk w);generalize z05=v at *
 have HG:=zh hG;clear hG;go_enter Tryz.func75,Tryz.ntmps75;go_wp2_with (first | (go_at_call 140;refine zm HG.out ?_;rintro e w' ⟨rfl,rfl⟩)|(go_at_call 147;refine HN.out.mono ?_;rintro e w' ⟨rfl,rfl⟩));go_ret;exact⟨rfl,rfl⟩
def z8o(w:World)(n:Int)(e:Ending)(w':World):Prop:=e= .returned (.int .i64 n)/\Below w.heap.size w w'
theorem zsa(w:World)(q:Option Addr)(k:ByteArray)(hG:zb8 w q k z05 false):Calls Tryz.prog 99 #[.pointer q,.string k] w fun e w'=>e= .returned (.int .i64 0)/\w=w':=by
 have HG:=zh (zs5 w q k hG);clear hG;go_enter Tryz.func99,Tryz.ntmps99;go_wp2_with (go_at_call 75;refine HG.out.mono ?_;rintro e w' ⟨rfl,rfl⟩);go_ret;exact⟨rfl,rfl⟩
theorem z2m.of_below{w w1:World}{b:Nat}{L:List Nat}{v:Value}{s':St}{e:Ending}{w':World}(hb:Below w.heap.size w w1)(h:z2m w1 b L v s' e w'):z2m w b L v s' e w':=by
 obtain⟨he,L',h1,h2⟩:=h;exact⟨he,L',h1,(Step.mk (Fr.of_below hb _) fun _ h => .inl h).trans h2⟩
theorem zto(w:World)(b:Nat)(s:St)(L:List Nat)(k v:ByteArray)(h:SRep w b s L)(hk:k≠z05)(hv:v≠z05)(hb:s.size<1000000000000) :
  Calls Tryz.prog 149 #[.pointer (some ⟨b,0,none⟩),.string k,.string v] w (z2m w b L (.tuple #[]) (s.set k v)):=by
 have HS:=zh (set_any w b s L k v h hk hb);have HE:Hid (∀ w',z2m w b L (.int .i64 0) (s.set k v) (.returned (.int .i64 0)) w'->z2m w b L (.tuple #[]) (s.set k v) (.returned (.tuple #[])) w'):=fun w' h=>⟨rfl,h.2⟩
 have HQ:Hid (∀ e w',z2m w b L (.int .i64 0) (s.set k v) e w'->e= .returned (.int .i64 0)):=fun e w' h=>h.1
 generalize z2m w b L (.tuple #[]) (s.set k v)=R at *
 generalize z2m w b L (.int .i64 0) (s.set k v)=R0 at *
 have hv':=zd3 hv;clear h hk hb hv;go_enter Tryz.func149,Tryz.ntmps149;go_wp2_with (go_at_call 208;refine HS.out.mono ?_;intro e w' hR;obtain rfl:=HQ.out _ _ hR)
 go_end0
 exact HE.out _ hR
theorem zwy(n:Nat):numB n≠z05:=fun h=>absurd (congrArg ByteArray.size h) (by rw[show(numB n).size=8 from rfl];decide)
def rowOf(v:ByteArray):List Nat:=(numsL v.data.toList).getD []
def z9w(v:ByteArray):Nat:=match rowOf v with | [n]=>n | _=>0
def St.int(s:St)(k:ByteArray):Nat:=z9w (s.val k)
def St.put(s:St)(k v:ByteArray):St:=if v=z05 then s.del k else if k=z05 then s else s.set k v
def St.z2r(s:St)(k:ByteArray)(n:Int):St:=s.put k (if n<1 then z05 else numB n.toNat)
def zmx(l:List Nat):List Value:=l.map fun (n:Nat)=>Value.int .i64 n
def z5i(w:World)(l:List Nat)(e:Ending)(w':World):Prop:=∃ v,e= .returned v/\Own w' 3 1 v l.length (zmx l)/\(∀ g,v.ownBlock=some g->w.heap.size<=g)/\Below w.heap.size w w'
theorem zbg(w:World)(q:Option Addr)(k v:ByteArray)(ok:Bool)(hG:zb8 w q k v ok)(hv:v.size<1000000000000):Calls Tryz.prog 75 #[.pointer q,.string k] w (z5i w (rowOf v)):=by
 have HG:=zh hG;have HN:=zh (za8 v hv w);have HE0:Hid (∀ w',numsL v.data.toList=none->Below w.heap.size w w'->z5i w (rowOf v) (.returned (.slice none 0 0)) w'):=fun w' h hb=>by
  have:rowOf v = []:=by unfold rowOf;rw[h];rfl
  rw[this];exact⟨_,rfl,Own.nil _ _ _,fun g hg=>by simp[Value.ownBlock]at hg,hb⟩
 have HE1:Hid (∀ w' ns u,numsL v.data.toList=some ns->Below w.heap.size w w'->Own w' 3 1 u ns.length (ns.map fun (n:Nat)=>Value.int .i64 n)->(∀ k,u.ownBlock=some k->w.heap.size<=k)->z5i w (rowOf v) (.returned u) w'):=fun w' ns u h hb ho hf=>by
  have:rowOf v=ns:=by unfold rowOf;rw[h];rfl
  rw[this];exact⟨_,rfl,ho,hf,hb⟩
 generalize z5i w (rowOf v)=R at *
 clear hG;cases hn:numsL v.data.toList with
 | none =>
  rw[hn]at HN;have HN2:Hid (Calls Tryz.prog 147 #[.string v] w fun e w'=>e= .returned (.tuple #[.slice none 0 0,.bool false])/\Below w.heap.size w w'):=HN.out.mono fun e w' h=>⟨h.2,h.1⟩
  have HEE:=zh (fun w'=>HE0.out w' hn);clear hn HN HE0 HE1;go_enter Tryz.func75,Tryz.ntmps75;go_wp2_with (first | (go_at_call 140;refine zm HG.out ?_;rintro e w' ⟨rfl,rfl⟩)|(go_at_call 147;refine zm HN2.out ?_;rintro e w' ⟨rfl,hb⟩));exact HEE.out _ hb
 | some ns =>
  rw[hn]at HN;have HN2:Hid (Calls Tryz.prog 147 #[.string v] w fun e w'=>∃ a c,e= .returned (.tuple #[.slice a ns.length c,.bool true])/\R (.returned (.slice a ns.length c)) w'):=HN.out.mono fun e w' h=>by
   obtain⟨hb,u,rfl,ho,hf⟩:=h;obtain⟨a,c,hu,_⟩:=ho.form;subst hu;exact⟨a,c,rfl,HE1.out w' ns _ hn hb ho hf⟩
  clear hn HN HE0 HE1;generalize ns.length=n at *
  go_enter Tryz.func75,Tryz.ntmps75;go_wp2_with (first | (go_at_call 140;refine zm HG.out ?_;rintro e w' ⟨rfl,rfl⟩)|(go_at_call 147;refine zm HN2.out ?_;rintro e w' ⟨a,c,rfl,hR⟩));exact hR
theorem zrq(w:World)(q:Option Addr)(k v:ByteArray)(ok:Bool)(hG:zb8 w q k v ok)(hv:v.size<1000000000000):Calls Tryz.prog 99 #[.pointer q,.string k] w (z8o w (z9w v)):=by
 have HR:=zh (zbg w q k v ok hG hv);clear hG;unfold z9w
 match hr:rowOf v with
 | [] =>
  rw[hr]at HR;have HR2:Hid (Calls Tryz.prog 75 #[.pointer q,.string k] w fun e w'=>∃ a c,e= .returned (.slice a 0 c)/\Below w.heap.size w w'):=HR.out.mono fun e w' ⟨v,h1,ho,_,hb⟩=>by
   obtain⟨a,c,rfl,_⟩:=ho.form;exact⟨a,c,h1,hb⟩
  clear HR hr;go_enter Tryz.func99,Tryz.ntmps99;go_wp2_with (go_at_call 75;refine HR2.out.mono ?_;rintro e w' ⟨a,c,rfl,hb⟩);go_ret;exact⟨rfl,hb⟩
 | [n] =>
  rw[hr]at HR;have HR2:Hid (Calls Tryz.prog 75 #[.pointer q,.string k] w fun e w'=>∃ g c,e= .returned (.slice (some ⟨g,0,none⟩) 1 c)/\w'.cell? ⟨g,0,none⟩=some (.int .i64 n)/\Below w.heap.size w w'):=HR.out.mono fun e w' ⟨v,h1,ho,_,hb⟩=>by
   obtain⟨a,c,rfl,hc⟩:=ho.form;obtain⟨g,rfl,hc0⟩:=hc 0 (.int .i64 n) rfl;exact⟨g,c,h1,hc0,hb⟩
  clear HR hr;go_enter Tryz.func99,Tryz.ntmps99;go_wp2_with (go_at_call 75;refine HR2.out.mono ?_;rintro e w' ⟨g,c,rfl,hc,hb⟩);go_ret;exact⟨rfl,hb⟩
 | x::y::l =>
  rw[hr]at HR;have HR2:Hid (Calls Tryz.prog 75 #[.pointer q,.string k] w fun e w'=>∃ a c,e= .returned (.slice a (l.length+1+1) c)/\Below w.heap.size w w'):=HR.out.mono fun e w' ⟨v,h1,ho,_,hb⟩=>by
   obtain⟨a,c,rfl,_⟩:=ho.form;exact⟨a,c,h1,hb⟩
  clear HR hr;have hne:(((l.length:Int)+1+1)==1)=false:=by rw[beq_eq_false_iff_ne];omega
  go_enter Tryz.func99,Tryz.ntmps99;go_wp2_with (go_at_call 75;refine HR2.out.mono ?_;rintro e w' ⟨a,c,rfl,hb⟩);go_ret;exact⟨rfl,hb⟩
theorem SRep.get{w:World}{b:Nat}{s:St}{L:List Nat}(h:SRep w b s L)(k:ByteArray):zb8 w (some ⟨b,0,none⟩) k (s.val k) (getE s.ents k).isSome:=get_any w b s L k h
theorem zy5(w:World)(b:Nat)(s:St)(L:List Nat)(k:ByteArray)(h:SRep w b s L)(hv:(s.val k).size<1000000000000):Calls Tryz.prog 99 #[.pointer (some ⟨b,0,none⟩),.string k] w (z8o w (s.int k)):=
 zrq w _ k _ _ (h.get k) hv
theorem zli(w:World)(b:Nat)(v:ByteArray)(hc0:w.cell? ⟨b,0,none⟩=some (.bool true)):Calls Tryz.prog 208 #[.pointer (some ⟨b,0,none⟩),.string z05,.string v] w fun e w'=>e= .returned (.int .i64 2)/\w=w':=by
 unfold z05;go_enter Tryz.func208,Tryz.ntmps208;go_wp2_with (go_at_call 142;refine(z9h _ _ _ hc0).mono ?_;rintro e w' ⟨rfl,rfl⟩);go_ret;exact⟨rfl,rfl⟩
theorem zbk(w:World)(b:Nat)(s:St)(L:List Nat)(k v:ByteArray)(h:SRep w b s L)(hb:s.size<1000000000000) :
  Calls Tryz.prog 149 #[.pointer (some ⟨b,0,none⟩),.string k,.string v] w (z2m w b L (.tuple #[]) (s.put k v)):=by
 by_cases hv:v=z05
 ·subst hv;have e:s.put k z05=s.del k:=by unfold St.put;rw[if_pos rfl]
  rw[e];have HS:=zh (zeh w b s L k h hb);have HQ:Hid (∀ e w',z2m w b L (.bool (getE s.ents k).isSome) (s.del k) e w'->e= .returned (.bool (getE s.ents k).isSome)/\z2m w b L (.tuple #[]) (s.del k) (.returned (.tuple #[])) w'):=fun e w' h=>⟨h.1,rfl,h.2⟩
  generalize z2m w b L (.tuple #[]) (s.del k)=R at *
  generalize z2m w b L (.bool (getE s.ents k).isSome) (s.del k)=R0 at *
  unfold z05;clear h hb e;go_enter Tryz.func149,Tryz.ntmps149;go_wp2_with (go_at_call 85;refine HS.out.mono ?_;intro e w' hR;obtain⟨rfl,hR2⟩:=HQ.out _ _ hR);refine bodyPost_ret (results_none rfl _ _ _) rfl ?_;exact hR2
 ·by_cases hk:k=z05
  ·subst hk;have e:s.put z05 v=s:=by unfold St.put;rw[if_neg hv,if_pos rfl]
   rw[e];have HS:=zh (zli w b v h.cell0);have HE:Hid (z2m w b L (.tuple #[]) s (.returned (.tuple #[])) w):=⟨rfl,L,h,Step.refl w L⟩;generalize z2m w b L (.tuple #[]) s=R at *
   have hv':=zd3 hv;generalize z05=kk at *
   clear h hb e hv;go_enter Tryz.func149,Tryz.ntmps149;go_wp2_with (go_at_call 208;refine HS.out.mono ?_;rintro e w' ⟨rfl,rfl⟩)
   go_end0
   exact HE.out
  ·have e:s.put k v=s.set k v:=by unfold St.put;rw[if_neg hv,if_neg hk]
   rw[e];exact zto w b s L k v h hk hv hb
theorem zid(w:World)(b:Nat)(s:St)(L:List Nat)(k:ByteArray)(n:Int)(hn:n<9223372036854775808)(h:SRep w b s L)(hb:s.size<1000000000000) :
  Calls Tryz.prog 114 #[.pointer (some ⟨b,0,none⟩),.string k,.int .i64 n] w (z2m w b L (.tuple #[]) (s.z2r k n)):=by
 have HP:∀ v,Hid (∀ w1,Below w.heap.size w w1->Calls Tryz.prog 149 #[.pointer (some ⟨b,0,none⟩),.string k,.string v] w1 fun e w'=>e= .returned (.tuple #[])/\z2m w b L (.tuple #[]) (s.put k v) e w'):=fun v w1 h1 =>
  (zbk w1 b s L k v (h.fr (Fr.of_below h1 (fun _=>False)) (fun _ _=>id)) hb).mono fun e w' h2=>⟨h2.1,h2.of_below h1⟩
 by_cases h1:n<1
 ·have e:s.z2r k n=s.put k z05:=by unfold St.z2r;rw[if_pos h1]
  rw[e];have HP1:=HP z05;have hd:decide (n<1)=true:=by simpa using h1
  unfold z05 at *
  generalize z2m w b L (.tuple #[]) (s.put k ⟨#[]⟩)=R at *
  clear h hb HP e;go_enter Tryz.func114,Tryz.ntmps114;go_wp2_with (go_at_call 149;refine(HP1.out _ zb).mono ?_;rintro e w' ⟨rfl,hR⟩);refine bodyPost_ret (results_none rfl _ _ _) rfl ?_;exact hR
 ·obtain⟨m,rfl⟩:∃ m:Nat,n=m:=⟨n.toNat,by omega⟩;have e:s.z2r k m=s.put k (numB m):=by unfold St.z2r;rw[if_neg h1,Int.toNat_natCast]
  rw[e];have HP1:=HP (numB m);have HN:=zh (zjq m w (by omega));have hd:decide ((m:Int)<1)=false:=by simp;omega
  generalize z2m w b L (.tuple #[]) (s.put k (numB m))=R at *
  generalize numB m=nb at *
  clear h hb HP e;go_enter Tryz.func114,Tryz.ntmps114;go_wp2_with (first | (go_at_call 162;refine HN.out.mono ?_;rintro e w1 ⟨rfl,hb1⟩)|(go_at_call 149;refine(HP1.out _ hb1).mono ?_;rintro e w' ⟨rfl,hR⟩))
  go_end0
  exact hR
theorem SRep.below{w w':World}{b:Nat}{s:St}{L:List Nat}(h:SRep w b s L)(hb:Below w.heap.size w w'):SRep w' b s L:=
 h.frame fun k hk=>hb.block k (h.lt k hk)
theorem z8o.of_below{w w1:World}{n:Int}{e:Ending}{w':World}(hb:Below w.heap.size w w1)(h:z8o w1 n e w'):z8o w n e w':=⟨h.1,hb.trans (h.2.mono hb.size)⟩
structure St.Fit (s:St) (m:Nat):Prop where
 size:s.size<=m
 srt:Sorted s.ents
 vals:∀ e∈s.ents,e.2.size<=1000000
 zo9:∀ x∈s.past,x.val.size<=1000000
theorem St.Fit.empty:z2g.Fit 0:=⟨by decide,List.Pairwise.nil,by simp[z2g],by simp[z2g]⟩
theorem St.Fit.mono{s:St}{m n:Nat}(h:s.Fit m)(hn:m<=n):s.Fit n:=⟨Nat.le_trans h.size hn,h.srt,h.vals,h.zo9⟩
theorem St.Fit.val{s:St}{m:Nat}(h:s.Fit m)(k:ByteArray):(s.val k).size<=1000000:=by
 unfold St.val;cases hg:getE s.ents k with
 | none=>show z05.size<=_;decide
 | some v=>exact h.vals _ (z2q hg)
theorem St.Fit.val'{s:St}{m:Nat}(h:s.Fit m)(k:ByteArray):(s.val k).size<1000000000000:=by have:=h.val k;omega
theorem St.Fit.set{s:St}{m:Nat}(h:s.Fit m)(k:ByteArray){v:ByteArray}(hv:v.size<=1000000):(s.set k v).Fit (m+2):=by
 refine⟨Nat.le_trans (s.zsl k v) (by have:=h.size;omega),St.ze6 h.srt k v,fun e he => ?_,fun x hx => ?_⟩
 ·unfold St.set at he;split at he
  ·exact h.vals e he
  ·rcases zg7 he with rfl | he
   ·exact hv
   ·exact h.vals e he
 ·unfold St.set at hx;split at hx
  ·exact h.zo9 x hx
  ·rcases List.mem_append.1 hx with hx | hx
   ·exact h.zo9 x hx
   ·rw[List.mem_singleton.1 hx];exact h.val k
theorem St.Fit.del{s:St}{m:Nat}(h:s.Fit m)(k:ByteArray):(s.del k).Fit (m+2):=by
 refine⟨Nat.le_trans (s.zt7 k) (by have:=h.size;omega),St.zej h.srt k,fun e he => ?_,fun x hx => ?_⟩
 ·unfold St.del at he;split at he
  ·exact h.vals e (zfn he)
  ·exact h.vals e he
 ·unfold St.del at hx;split at hx
  ·rcases List.mem_append.1 hx with hx | hx
   ·exact h.zo9 x hx
   ·rw[List.mem_singleton.1 hx];exact h.val k
  ·exact h.zo9 x hx
theorem St.Fit.put{s:St}{m:Nat}(h:s.Fit m)(k:ByteArray){v:ByteArray}(hv:v.size<=1000000):(s.put k v).Fit (m+2):=by
 unfold St.put;split
 ·exact h.del k
 ·split
  ·exact h.mono (by omega)
  ·exact h.set k hv
theorem zln(n:Nat)(hn:n<9223372036854775808):rowOf (numB n) = [n]:=by unfold rowOf;rw[z6b n hn];rfl
theorem zik(n:Nat)(hn:n<9223372036854775808):z9w (numB n)=n:=by unfold z9w;rw[zln n hn]
theorem zh2:z9w z05=0:=rfl
theorem z7q(s:St)(hs:Sorted s.ents)(k v j:ByteArray)(hk:k≠z05):(s.put k v).val j=if k=j then v else s.val j:=by
 unfold St.put
 by_cases hv:v=z05
 ·rw[if_pos hv];unfold St.del
  by_cases hg:(getE s.ents k).isSome=true
  ·rw[if_pos hg];unfold St.val;simp only[z9m _ hs]
   by_cases e:k=j
   ·simp[e,hv]
   ·simp[e]
  ·rw[if_neg hg]
   by_cases e:k=j
   ·subst e;have:getE s.ents k=none:=by simpa using hg
    rw[if_pos rfl,hv];unfold St.val;rw[this];rfl
   ·rw[if_neg e]
 ·rw[if_neg hv,if_neg hk];unfold St.set
  by_cases hg:getE s.ents k=some v
  ·rw[if_pos hg]
   by_cases e:k=j
   ·subst e;rw[if_pos rfl];unfold St.val;rw[hg];rfl
   ·rw[if_neg e]
  ·rw[if_neg hg];unfold St.val;simp only[z9r _ hs]
   by_cases e:k=j<;>simp[e]
def zgn(w:World)(b:Nat)(k v:ByteArray)(ok:Bool):Prop:=Calls Tryz.prog 164 #[.pointer (some ⟨b,0,none⟩),.string k] w fun e w'=>e= .returned (.tuple #[.string v,.bool ok])/\w=w'
theorem zgt(w:World)(b:Nat)(k v:ByteArray)(ok:Bool)(hG:zgn w b k v ok)(hv:v.size<1000000000000):Calls Tryz.prog 98 #[.pointer (some ⟨b,0,none⟩),.string k] w (z5i w (rowOf v)):=by
 have HG:=zh hG;have HN:=zh (zcn v hv w);have HE0:Hid (∀ w',numsL v.data.toList=none->Below w.heap.size w w'->z5i w (rowOf v) (.returned (.slice none 0 0)) w'):=fun w' h hb=>by
  have:rowOf v = []:=by unfold rowOf;rw[h];rfl
  rw[this];exact⟨_,rfl,Own.nil _ _ _,fun g hg=>by simp[Value.ownBlock]at hg,hb⟩
 have HE1:Hid (∀ w' ns u,numsL v.data.toList=some ns->Below w.heap.size w w'->Own w' 3 1 u ns.length (ns.map fun (n:Nat)=>Value.int .i64 n)->(∀ k,u.ownBlock=some k->w.heap.size<=k)->z5i w (rowOf v) (.returned u) w'):=fun w' ns u h hb ho hf=>by
  have:rowOf v=ns:=by unfold rowOf;rw[h];rfl
  rw[this];exact⟨_,rfl,ho,hf,hb⟩
 generalize z5i w (rowOf v)=R at *
 clear hG;cases hn:numsL v.data.toList with
 | none =>
  rw[hn]at HN;have HN2:Hid (Calls Tryz.prog 167 #[.string v] w fun e w'=>e= .returned (.tuple #[.slice none 0 0,.bool false])/\Below w.heap.size w w'):=HN.out.mono fun e w' h=>⟨h.2,h.1⟩
  have HEE:=zh (fun w'=>HE0.out w' hn);clear hn HN HE0 HE1;go_enter Tryz.func98,Tryz.ntmps98;go_wp2_with (first | (go_at_call 164;refine zm HG.out ?_;rintro e w' ⟨rfl,rfl⟩)|(go_at_call 167;refine zm HN2.out ?_;rintro e w' ⟨rfl,hb⟩));exact HEE.out _ hb
 | some ns =>
  rw[hn]at HN;have HN2:Hid (Calls Tryz.prog 167 #[.string v] w fun e w'=>∃ a c,e= .returned (.tuple #[.slice a ns.length c,.bool true])/\R (.returned (.slice a ns.length c)) w'):=HN.out.mono fun e w' h=>by
   obtain⟨hb,u,rfl,ho,hf⟩:=h;obtain⟨a,c,hu,_⟩:=ho.form;subst hu;exact⟨a,c,rfl,HE1.out w' ns _ hn hb ho hf⟩
  clear hn HN HE0 HE1;generalize ns.length=n at *
  go_enter Tryz.func98,Tryz.ntmps98;go_wp2_with (first | (go_at_call 164;refine zm HG.out ?_;rintro e w' ⟨rfl,rfl⟩)|(go_at_call 167;refine zm HN2.out ?_;rintro e w' ⟨a,c,rfl,hR⟩));exact hR
theorem zpr(w:World)(b:Nat)(k v:ByteArray)(ok:Bool)(hG:zgn w b k v ok)(hv:v.size<1000000000000):Calls Tryz.prog 100 #[.pointer (some ⟨b,0,none⟩),.string k] w (z8o w (z9w v)):=by
 have HR:=zh (zgt w b k v ok hG hv);clear hG;unfold z9w
 match hr:rowOf v with
 | [] =>
  rw[hr]at HR;have HR2:Hid (Calls Tryz.prog 98 #[.pointer (some ⟨b,0,none⟩),.string k] w fun e w'=>∃ a c,e= .returned (.slice a 0 c)/\Below w.heap.size w w'):=HR.out.mono fun e w' ⟨v,h1,ho,_,hb⟩=>by
   obtain⟨a,c,rfl,_⟩:=ho.form;exact⟨a,c,h1,hb⟩
  clear HR hr;go_enter Tryz.func100,Tryz.ntmps100;go_wp2_with (go_at_call 98;refine HR2.out.mono ?_;rintro e w' ⟨a,c,rfl,hb⟩);go_ret;exact⟨rfl,hb⟩
 | [n] =>
  rw[hr]at HR;have HR2:Hid (Calls Tryz.prog 98 #[.pointer (some ⟨b,0,none⟩),.string k] w fun e w'=>∃ g c,e= .returned (.slice (some ⟨g,0,none⟩) 1 c)/\w'.cell? ⟨g,0,none⟩=some (.int .i64 n)/\Below w.heap.size w w'):=HR.out.mono fun e w' ⟨v,h1,ho,_,hb⟩=>by
   obtain⟨a,c,rfl,hc⟩:=ho.form;obtain⟨g,rfl,hc0⟩:=hc 0 (.int .i64 n) rfl;exact⟨g,c,h1,hc0,hb⟩
  clear HR hr;go_enter Tryz.func100,Tryz.ntmps100;go_wp2_with (go_at_call 98;refine HR2.out.mono ?_;rintro e w' ⟨g,c,rfl,hc,hb⟩);go_ret;exact⟨rfl,hb⟩
 | x::y::l =>
  rw[hr]at HR;have HR2:Hid (Calls Tryz.prog 98 #[.pointer (some ⟨b,0,none⟩),.string k] w fun e w'=>∃ a c,e= .returned (.slice a (l.length+1+1) c)/\Below w.heap.size w w'):=HR.out.mono fun e w' ⟨v,h1,ho,_,hb⟩=>by
   obtain⟨a,c,rfl,_⟩:=ho.form;exact⟨a,c,h1,hb⟩
  clear HR hr;have hne:(((l.length:Int)+1+1) != 1)=true:=by rw[bne_iff_ne];omega
  go_enter Tryz.func100,Tryz.ntmps100;go_wp2_with (go_at_call 98;refine HR2.out.mono ?_;rintro e w' ⟨a,c,rfl,hb⟩);go_ret;exact⟨rfl,hb⟩
theorem zw6(w:World)(b:Nat)(s:St)(L:List Nat)(k:ByteArray)(h:RRep w b s L)(hv:(s.val k).size<1000000000000)(hn:s.size<1000000000000):Calls Tryz.prog 100 #[.pointer (some ⟨b,0,none⟩),.string k] w (z8o w (s.int k)):=
 zpr w b k _ _ (z9f w b s L k h (by unfold St.size at hn;omega)) hv
theorem RetR.of_below{w w1:World}{b:Nat}{L:List Nat}{v:Value}{s':St}{e:Ending}{w':World}(hb:Below w.heap.size w w1)(h:RetR w1 b L v s' e w'):RetR w b L v s' e w':=by
 obtain⟨he,L',h1,h2⟩:=h;exact⟨he,L',h1,(Step.mk (Fr.of_below hb _) fun _ h => .inl h).trans h2⟩
theorem zjc(w:World)(b:Nat)(s:St)(L:List Nat)(k:ByteArray)(n:Int)(hn:n<9223372036854775808)(h:RRep w b s L)(hb:s.size<1000000000000) :
  Calls Tryz.prog 189 #[.pointer (some ⟨b,0,none⟩),.string k,.int .i64 n] w (RetR w b L (.tuple #[]) (s.z2r k n)):=by
 by_cases h1:n<1
 ·have e:s.z2r k n=s.del k:=by unfold St.z2r St.put;rw[if_pos h1,if_pos rfl]
  rw[e];have HD:Hid (Calls Tryz.prog 136 #[.pointer (some ⟨b,0,none⟩),.string k] w fun e w'=>e= .returned (.bool (getE s.ents k).isSome)/\RetR w b L (.tuple #[]) (s.del k) (.returned (.tuple #[])) w'):=(z8z w b s L k h hb).mono fun e w' h=>⟨h.1,rfl,h.2⟩
  have hd:decide (n<1)=true:=by simpa using h1
  generalize RetR w b L (.tuple #[]) (s.del k)=R at *
  clear h hb e;go_enter Tryz.func189,Tryz.ntmps189;go_wp2_with (go_at_call 136;refine HD.out.mono ?_;rintro e w' ⟨rfl,hR⟩);refine bodyPost_ret (results_none rfl _ _ _) rfl ?_;exact hR
 ·obtain⟨m,rfl⟩:∃ m:Nat,n=m:=⟨n.toNat,by omega⟩;have HS:Hid (∀ w1,Below w.heap.size w w1->Calls Tryz.prog 198 #[.pointer (some ⟨b,0,none⟩),.string k,.string (numB m)] w1 fun e w'=>∃ x:Int,e= .returned (.int .i64 x)/\RetR w b L (.tuple #[]) (s.z2r k m) (.returned (.tuple #[])) w'):=fun w1 hb1=>by
   have h1':=h.below hb1;have e:s.z2r k m=(if k=z05 then s else s.set k (numB m)):=by
    unfold St.z2r St.put;rw[if_neg h1,Int.toNat_natCast,if_neg (zwy m)]
   rw[e]
   by_cases hk:k=z05
   ·subst hk;rw[if_pos rfl];refine(zes w1 b (numB m)).mono fun e w' ⟨he,hw⟩ => ?_
    subst hw;exact⟨2,he,RetR.of_below hb1 ⟨rfl,L,h1',Step.refl _ _⟩⟩
   ·rw[if_neg hk];exact(zg3 w1 b s L k (numB m) h1' hk hb).mono fun e w' h2=>⟨0,h2.1,RetR.of_below hb1 ⟨rfl,h2.2⟩⟩
  have HN:=zh (zff m w (by omega));have hd:decide ((m:Int)<1)=false:=by simp;omega
  generalize RetR w b L (.tuple #[]) (s.z2r k m)=R at *
  generalize numB m=nb at *
  clear h hb;go_enter Tryz.func189,Tryz.ntmps189;go_wp2_with (first | (go_at_call 166;refine HN.out.mono ?_;rintro e w1 ⟨rfl,hb1⟩)|(go_at_call 198;refine(HS.out _ hb1).mono ?_;rintro e w' ⟨x,rfl,hR⟩))
  go_end0
  exact hR
end Go.Proofs.YtnkilceibkkjlaaGreat
