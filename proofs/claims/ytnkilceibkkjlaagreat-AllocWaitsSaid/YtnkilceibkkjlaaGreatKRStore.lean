/- What is proved here: the reference's store in memory as o -/
import Derived.Test.YtnkilceibkkjlaaGreatKStore
set_option maxRecDepth 100000
set_option maxHeartbeats 16000000
namespace Go.Proofs.YtnkilceibkkjlaaGreat
open Go.RowKit
def z1x(l:List Ent):List Value:=l.flatMap fun x => [.string x.1,.string x.2]
theorem zhi(l:List Ent):(z1x l).length=l.length*2:=by
 unfold z1x
 induction l with
 | nil=>rfl
 | cons x l ih=>simp only[List.flatMap_cons,List.length_append,List.length_cons,List.length_nil]at ih ⊢;omega
theorem zc0(l:List Ent):∀ u∈z1x l,u.oneCell'=true:=by
 intro u hu;obtain⟨x,_,hx⟩:=List.mem_flatMap.1 hu;simp at hx;rcases hx with rfl | rfl<;>rfl
theorem zgs(a b:List Ent):z1x (a++b)=z1x a++z1x b:=List.flatMap_append
theorem zgo(l:List Ent)(k:Nat)(x:Ent)(h:l[k]?=some x):(z1x l)[k*2]?=some (.string x.1)/\(z1x l)[k*2+1]?=some (.string x.2):=by
 induction l generalizing k with
 | nil=>simp at h
 | cons y l ih =>
  cases k with
  | zero=>simp at h;subst h;simp[z1x]
  | succ k =>
   simp at h;have:=ih k h;have e1:(k+1)*2=k*2+1+1:=by omega
   rw[e1];have e2:z1x (y::l)= .string y.1 :: .string y.2::z1x l:=rfl;rw[e2]
   simpa using this
theorem zmv(l:List Ent)(k:Nat):(z1x l).take (k*2)=z1x (l.take k):=by
 induction l generalizing k with
 | nil=>simp[z1x]
 | cons y l ih =>
  cases k with
  | zero=>simp[z1x]
  | succ k =>
   have e1:(k+1)*2=k*2+1+1:=by omega
   have e2:z1x (y::l)= .string y.1 :: .string y.2::z1x l:=rfl;have e3:z1x (y::l.take k)= .string y.1 :: .string y.2::z1x (l.take k):=rfl;rw[e1,e2,List.take_succ_cons,List.take_succ_cons,List.take_succ_cons,ih,e3]
theorem zlu(l:List Ent)(k:Nat):(z1x l).drop (k*2)=z1x (l.drop k):=by
 induction l generalizing k with
 | nil=>simp[z1x]
 | cons y l ih =>
  cases k with
  | zero=>simp
  | succ k =>
   have e1:(k+1)*2=k*2+1+1:=by omega
   have e2:z1x (y::l)= .string y.1 :: .string y.2::z1x l:=rfl;rw[e1,e2,List.drop_succ_cons,List.drop_succ_cons,List.drop_succ_cons,ih]
structure RAt (w:World) (b:Nat) (lv pv:Value) (s:St):Prop where
 hd:w.heap[b]?=some (.cells #[lv,pv] 45 (0,0))
 ls:Own w 156 2 lv s.ents.length (z1x s.ents)
 ps:Own w 244 3 pv s.past.length (s.past.flatMap z0i)
 srt:Sorted s.ents
 nd:(b::(lv.ownBlock.toList++pv.ownBlock.toList)).Nodup
def rids(b:Nat)(lv pv:Value):List Nat:=b::(lv.ownBlock.toList++pv.ownBlock.toList)
def RRep(w:World)(b:Nat)(s:St)(L:List Nat):Prop:=∃ lv pv,RAt w b lv pv s/\L=rids b lv pv
theorem RAt.lt{w:World}{b:Nat}{lv pv:Value}{s:St}(h:RAt w b lv pv s):∀ k∈rids b lv pv,k<w.heap.size:=by
 intro k hk;simp only[rids,List.mem_cons,List.mem_append]at hk;rcases hk with rfl | hk | hk
 ·exact z02 h.hd
 ·exact h.ls.lt k (by simpa using hk)
 ·exact h.ps.lt k (by simpa using hk)
theorem RAt.frame{w w':World}{b:Nat}{lv pv:Value}{s:St}(h:RAt w b lv pv s)(hb:∀ k∈rids b lv pv,w'.heap[k]?=w.heap[k]?):RAt w' b lv pv s:=
 ⟨by rw[hb b (by simp[rids])];exact h.hd,h.ls.frame fun k hk=>hb k (by simp[rids,hk]),h.ps.frame fun k hk=>hb k (by simp[rids,hk]),h.srt,h.nd⟩
theorem RRep.lt{w:World}{b:Nat}{s:St}{L:List Nat}(h:RRep w b s L):∀ k∈L,k<w.heap.size:=by
 obtain⟨lv,pv,h,rfl⟩:=h;exact h.lt
theorem RRep.frame{w w':World}{b:Nat}{s:St}{L:List Nat}(h:RRep w b s L)(hb:∀ k∈L,w'.heap[k]?=w.heap[k]?):RRep w' b s L:=by
 obtain⟨lv,pv,h,rfl⟩:=h;exact⟨lv,pv,h.frame hb,rfl⟩
theorem RRep.below{w w':World}{b:Nat}{s:St}{L:List Nat}(h:RRep w b s L)(hb:Below w.heap.size w w'):RRep w' b s L:=
 h.frame fun k hk=>hb.block k (h.lt k hk)
theorem Own.form{w:World}{e:TypeId}{size:Nat}{v:Value}{n:Nat}{xs:List Value}(h:Own w e size v n xs):∃ a c,v= .slice a n c/\∀ j u,xs[j]?=some u->∃ g,a=some ⟨g,0,none⟩/\w.cell? ⟨g,j,none⟩=some u:=by
 rcases h.2 with⟨rfl,rfl⟩ | ⟨g,c,cur,rfl,hg,_⟩
 ·refine⟨none,0,rfl,fun j u hj => ?_⟩;have:=h.1;rw[Nat.zero_mul]at this;rw[List.eq_nil_of_length_eq_zero this]at hj;cases hj
 ·refine⟨_,c,rfl,fun j u hj=>⟨g,rfl,?_⟩⟩;have:=h.cells (g:=g) rfl j u hj
  rwa [Addr.add_lit,Nat.zero_add]at this
structure q03 (w:World) (b:Nat) (l:List Ent) (a:Option Addr) (c:Nat):Prop where
 hd:w.cell? ⟨b,0,none⟩=some (.slice a l.length c)
 at0:∀ k x,l[k]?=some x->∃ g,a=some ⟨g,0,none⟩/\w.cell? ⟨g,k*2,none⟩=some (.string x.1)/\w.cell? ⟨g,k*2+1,none⟩=some (.string x.2)
theorem RAt.ents{w:World}{b:Nat}{lv pv:Value}{s:St}(h:RAt w b lv pv s):∃ a c,lv= .slice a s.ents.length c/\q03 w b s.ents a c:=by
 obtain⟨a,c,rfl,hc⟩:=h.ls.form;refine⟨a,c,rfl,by rw[cell_of_row _ _ _ _ _ _ h.hd];rfl,fun k x hk => ?_⟩;obtain⟨h1,h2⟩:=zgo _ k x hk;obtain⟨g,rfl,e1⟩:=hc _ _ h1;obtain⟨g',e,e2⟩:=hc _ _ h2;cases e;exact⟨g,rfl,e1,e2⟩
theorem zf0(w:World)(b:Nat)(s:St)(lv pv:Value)(key:ByteArray)(h:RAt w b lv pv s)(hn:s.ents.length<1000000000000) :
  Calls Tryz.prog 212 #[.pointer (some ⟨b,0,none⟩),.string key] w fun e w'=>e= .returned (.int .i64 (lb (s.ents.map Prod.fst) key))/\w=w':=by
 obtain⟨a,c,rfl,hE⟩:=h.ents;have hle:=zae (s.ents.map Prod.fst) key;rw[List.length_map]at hle;have hlb:∀ i x,s.ents[i]?=some x->(KLt x.1 key↔i<lb (s.ents.map Prod.fst) key):=fun i x hi=>by
  have hil:i<s.ents.length:=(List.getElem?_eq_some_iff.1 hi).1;rw[<- z2d h.srt.keys key i (by simpa using hil),List.getElem_map];have:s.ents[i]=x:=(List.getElem?_eq_some_iff.1 hi).2;rw[this]
 have hget:∀ k,k<s.ents.length->∃ x,s.ents[k]?=some x:=fun k hk=>⟨_,List.getElem?_eq_getElem hk⟩
 have HLB:=zh hlb;have HGET:=zh hget;have HAT:=zh hE.at0;have hc:=hE.hd;generalize s.ents.length=n at *
 generalize lb (s.ents.map Prod.fst) key=m at *
 clear hlb hget h hE;go_enter Tryz.func212,Tryz.ntmps212;go_wp2_with fail
 go_loop [5] (fun i=>∃ k:Nat,i= .int .i64 k/\k<=m) (fun i=>n-(intOf i).toNat)
 case atStart=>exact⟨0,rfl,by omega⟩
 case round =>
  obtain⟨k,rfl,hk⟩:=hrel
  by_cases hlt:k<n
  ·obtain⟨x,hx⟩:=HGET.out k hlt;obtain⟨g,rfl,c0,_⟩:=HAT.out k x hx;have hl:=HLB.out k x hx
   by_cases hk1:KLt x.1 key
   ·have hb:Op.bytesLess x.1.toList key.toList=true:=by rw[z4a];simpa using hk1
    have hkm:k<m:=hl.1 hk1;clear hl hk1 hx;generalize x.1=y at *
    go_wp2
    go_round
    case rel=>exact⟨k+1,by go_num,by omega⟩
    case measure=>simp[intOf];omega
   ·have hb:Op.bytesLess x.1.toList key.toList=false:=by rw[z4a];simpa using hk1
    have hkm:¬ k<m:=fun e=>hk1 (hl.2 e)
    obtain rfl:k=m:=by omega
    clear hl hk1 hx;generalize x.1=y at *
    go_wp2;go_ret;exact⟨rfl,rfl⟩
  ·obtain rfl:k=m:=by omega
   go_wp2;go_ret;exact⟨rfl,rfl⟩
theorem zxd(w:World)(b:Nat)(s:St)(lv pv:Value)(key:ByteArray)(h:RAt w b lv pv s)(hn:s.ents.length<1000000000000) :
  Calls Tryz.prog 164 #[.pointer (some ⟨b,0,none⟩),.string key] w fun e w'=>e= .returned (.tuple #[.string (s.val key),.bool (getE s.ents key).isSome])/\w=w':=by
 have HP:=zh (zf0 w b s lv pv key h hn);obtain⟨a,c,rfl,hE⟩:=h.ents;have hle:=zae (s.ents.map Prod.fst) key;rw[List.length_map]at hle;have HAT:=zh hE.at0;have hc:=hE.hd;cases hg:getE s.ents key with
 | some v =>
  have hm:=z2q hg;obtain⟨hlt,hat⟩:=zvr h.srt.keys (List.mem_map.2 ⟨_,hm,rfl⟩:key∈s.ents.map Prod.fst);obtain⟨x,hx⟩:∃ x,s.ents[lb (s.ents.map Prod.fst) key]?=some x:=⟨_,List.getElem?_eq_getElem (by simpa using hlt)⟩;have hx1:x.1=key:=by
   rw[List.getElem_map]at hat
   rw[<- hat];have:=(List.getElem?_eq_some_iff.1 hx).2;rw[this]
  have hx2:x.2=v:=by
   have:=z1o h.srt (k:=x.1) (v:=x.2) (List.mem_of_getElem? hx);rw[hx1,hg]at this;exact(Option.some.inj this).symm
  obtain⟨g,rfl,c0,c1⟩:=HAT.out _ x hx;have hv:s.val key=v:=by unfold St.val;rw[hg];rfl
  rw[hv];rw[hx1]at c0;rw[hx2]at c1;have hlt':lb (s.ents.map Prod.fst) key<s.ents.length:=by simpa using hlt
  have hkk:(key.toList==key.toList)=true:=by simp
  generalize s.ents.length=n at *
  generalize lb (s.ents.map Prod.fst) key=m at *
  clear hx hx1 hx2 hg hm hat hv hle hlt h hE HAT;go_enter Tryz.func164,Tryz.ntmps164;go_wp2_with (go_at_call 212;refine HP.out.mono ?_;rintro e w' ⟨rfl,rfl⟩)
  go_ret2
  exact⟨rfl,rfl⟩
 | none =>
  have hv:s.val key=z05:=by unfold St.val;rw[hg];rfl
  rw[hv];have hno:∀ x,s.ents[lb (s.ents.map Prod.fst) key]?=some x->x.1≠key:=fun x hx e=>by
   rw[z4r]at hg;exact hg (List.mem_map.2 ⟨x,List.mem_of_getElem? hx,e⟩)
  have HNO:=zh hno;have hget:lb (s.ents.map Prod.fst) key<s.ents.length->∃ x,s.ents[lb (s.ents.map Prod.fst) key]?=some x:=fun hk=>⟨_,List.getElem?_eq_getElem hk⟩
  have HGET:=zh hget;generalize s.ents.length=n at *
  generalize lb (s.ents.map Prod.fst) key=m at *
  unfold z05;clear hno hget hg hv h hE
  by_cases hlt:m<n
  ·obtain⟨x,hx⟩:=HGET.out hlt;obtain⟨g,rfl,c0,_⟩:=HAT.out _ x hx;have hne:=HNO.out x hx;have hb:(x.1.toList==key.toList)=false:=by rw[z4i];simpa using hne
   clear hne hx;generalize x.1=y at *
   go_enter Tryz.func164,Tryz.ntmps164;go_wp2_with (go_at_call 212;refine HP.out.mono ?_;rintro e w' ⟨rfl,rfl⟩)
   go_ret2
   exact⟨rfl,rfl⟩
  ·go_enter Tryz.func164,Tryz.ntmps164;go_wp2_with (go_at_call 212;refine HP.out.mono ?_;rintro e w' ⟨rfl,rfl⟩)
   go_ret2
   exact⟨rfl,rfl⟩
theorem z9f(w:World)(b:Nat)(s:St)(L:List Nat)(key:ByteArray)(h:RRep w b s L)(hn:s.ents.length<1000000000000) :
  Calls Tryz.prog 164 #[.pointer (some ⟨b,0,none⟩),.string key] w fun e w'=>e= .returned (.tuple #[.string (s.val key),.bool (getE s.ents key).isSome])/\w=w':=by
 obtain⟨lv,pv,h,rfl⟩:=h;exact zxd w b s lv pv key h hn
theorem zv6{l:List Ent}(hs:Sorted l){k:ByteArray}(v:ByteArray)(t:Bool)(h:(getE l k).isSome=true) :
  layE l k v t=l.take (lb (l.map Prod.fst) k)++(if t then [(k,v)]else [])++l.drop (lb (l.map Prod.fst) k+1):=by
 induction l with
 | nil=>simp[getE]at h
 | cons x r ih =>
  obtain⟨a,b⟩:=x;have hp:=List.pairwise_cons.1 hs;simp only[List.map_cons,z92]
  by_cases e:a=k
  ·subst e;cases t<;>simp[layE,delE,putE,KLt.irrefl]
  ·simp only[getE,e,if_false]at h;obtain⟨u,hu⟩:=Option.isSome_iff_exists.1 h;have hlt:KLt a k:=hp.1 _ (z2q hu);have:=ih hp.2 h;simp only[layE]at this;cases t
   ·simp only[Bool.false_eq_true,if_false,List.append_nil]at this;simp[layE,delE,e,hlt,this]
   ·simp only[if_true]at this;simp[layE,putE,hlt,this]
theorem zk6{l:List Ent}(hs:Sorted l){k:ByteArray}(v:ByteArray)(t:Bool)(h:(getE l k).isSome=false) :
  layE l k v t=l.take (lb (l.map Prod.fst) k)++(if t then [(k,v)]else [])++l.drop (lb (l.map Prod.fst) k):=by
 cases t
 ·simp[layE,z6z h]
 ·induction l with
  | nil=>simp[layE,putE]
  | cons x r ih =>
   obtain⟨a,b⟩:=x;have hp:=List.pairwise_cons.1 hs;simp only[List.map_cons,z92]
   by_cases e:a=k
   ·simp[getE,e]at h
   ·simp only[getE,e,if_false]at h;have:=ih hp.2 h;simp only[layE,if_true]at this ⊢
    by_cases hlt:KLt a k
    ·simp[putE,hlt,this]
    ·simp[putE,hlt,e]
theorem pairT:z1j Tryz.prog 42 156 (.agg #[.string ⟨#[]⟩,.string ⟨#[]⟩]) 2 32:=⟨by kernel_rfl,by kernel_rfl,rfl,by decide⟩
def z4f(w wr:World)(v:Value)(n:Nat)(l:List Ent):Prop:=Own wr 156 2 v n (z1x l)/\(∀ g,v.ownBlock=some g->w.heap.size<=g)/\Below w.heap.size w wr
theorem z4f.len{w wr:World}{v:Value}{n:Nat}{l:List Ent}(h:z4f w wr v n l):l.length=n:=by
 have:=h.1.1;rw[zhi]at this;omega
theorem z4f.start(w:World):z4f w w (.slice none 0 0) 0 []:=⟨Own.nil _ _ _,fun g hg=>by simp[Value.ownBlock]at hg,Below.refl _ _⟩
theorem z4f.alloc{w wr:World}{v:Value}{n:Nat}{l:List Ent}(h:z4f w wr v n l)(o:Obj):z4f w (wr.alloc o) v n l:=
 ⟨h.1.fr ((Fr.refl (fun _=>False) wr).alloc _) (fun _ _=>id),h.2.1,h.2.2.alloc h.2.2.size _⟩
theorem z4f.next{w wr:World}{v:Value}{n:Nat}{l:List Ent}(h:z4f w wr v n l){m:Nat}{l2:List Ent}{v':Value}{w':World}(hA:z0s wr 156 2 v n m (z1x l) (z1x l2) v' w'):z4f w w' v' (n+m) (l++l2):=by
 refine⟨by rw[zgs];exact hA.own,fun g hg => ?_,h.2.2.grown hA.grown h.2.2.size h.2.1⟩;rcases hA.block g hg with h1 | h1
 ·exact h.2.1 g h1
 ·exact Nat.le_trans h.2.2.size h1
def zba(w:World)(b:Nat)(pv:Value)(s':St)(e:Ending)(w':World):Prop:=e= .returned (.tuple #[])/\∃ lv',RAt w' b lv' pv s'/\(∀ g,lv'.ownBlock=some g->w.heap.size<=g)/\Fr (fun k=>k=b) w w'
theorem zrt{w w1:World}{b:Nat}{lv pv:Value}{s:St}{l:List Ent}{v:Value}{n:Nat}(h:RAt w b lv pv s)(hs:Sorted l)(hO:z4f w w1 v n l):zba w b pv ⟨l,s.past⟩ (.returned (.tuple #[])) (w1.setCell ⟨b,0,none⟩ v):=by
 have hbw:=z02 h.hd;have hb1:w1.heap[b]?=some (.cells #[lv,pv] 45 (0,0)):=by rw[hO.2.2.block b hbw];exact h.hd
 have hF:Fr (fun k=>k=b) w (w1.setCell ⟨b,0,none⟩ v):=(Fr.of_below hO.2.2 _).setCell _ _ (.inr rfl);have hne:∀ g,v.ownBlock=some g->g≠b:=fun g hg e=>by have:=hO.2.1 g hg;omega
 have hnd:=h.nd;refine⟨rfl,v,⟨?_,?_,?_,hs,?_⟩,hO.2.1,hF⟩
 ·rw[setCell_eq_setRow w1 b 0 _ _ _ v hb1];exact setRow_heap w1 b _ _ _ _ hb1
 ·show Own _ _ _ _ l.length _
  rw[hO.len];exact hO.1.frame fun k hk=>Below.heap_setCell _ _ _ _ (fun e=>hne k hk e)
 ·exact h.ps.fr hF fun k hk e=>by subst e;simp[hk]at hnd
 ·have h1:∀ g,pv.ownBlock=some g->g≠b:=fun g hg e=>by subst e;simp[hg]at hnd
  have h2:∀ g g',v.ownBlock=some g->pv.ownBlock=some g'->g≠g':=fun g g' hg hg' e=>by
   have:=hO.2.1 g hg;have:=h.ps.lt g' hg';omega
  cases hv:v.ownBlock<;>cases hp:pv.ownBlock<;>simp
  ·exact fun e=>h1 _ hp e.symm
  ·exact fun e=>hne _ hv e.symm
  ·exact⟨⟨fun e=>hne _ hv e.symm,fun e=>h1 _ hp e.symm⟩,h2 _ _ hv hp⟩
theorem zic(a b:ByteArray):∀ u∈[Value.string a,Value.string b],u.oneCell'=true:=by
 intro u hu;simp at hu;rcases hu with rfl | rfl<;>rfl
theorem zfw(w:World)(x y:Value)(t:TypeId):∀ j u,[x,y][j]?=some u->(w.alloc (.cells #[x,y] t)).cell? ((⟨w.heap.size,0,none⟩:Addr).add j)=some u:=fun j u hj=>by
 rw[Addr.add_lit,cell_of_row _ _ _ _ _ _ (heap_alloc_new w _)]
 simpa using hj
theorem zjj(w:World)(b:Nat)(s:St)(lv pv:Value)(key val:ByteArray)(there:Bool)(h:RAt w b lv pv s)(hn:s.ents.length<1000000000000) :
    Calls Tryz.prog 197 #[.pointer (some ⟨b,0,none⟩),.string key,.string val,.bool there] w (zba w b pv (s.lay key val there)):=by
  have HP:=zh (zf0 w b s lv pv key h hn);have hH:=h;obtain⟨ad,c,rfl,hE⟩:=h.ents;have hle:=zae (s.ents.map Prod.fst) key;rw[List.length_map]at hle;have hc0:=hE.hd;have hfz:∀ w1,Below w.heap.size w w1->w1.frozen? ⟨b,0,none⟩=false:=fun w1 hb=>frozen_of_row w1 b 0 _ _ (by rw[hb.block b (z02 h.hd)];exact h.hd)
  have hcb:∀ w1,Below w.heap.size w w1->w1.cell? ⟨b,0,none⟩=some (.slice ad s.ents.length c):=fun w1 hb=>by rw[hb.cell (p:=⟨b,0,none⟩) (z02 h.hd)];exact hc0
  have HFZ:=zh hfz;have HCB:=zh hcb;obtain⟨HB1,HB2⟩:=zc4 pairT h.ls rfl (lb (s.ents.map Prod.fst) key) hle;obtain⟨is,i2,m2,hreg,hi2,hm2,hents⟩:∃ (is:Bool) (i2:Int) (m2:Nat),
      ((lb (s.ents.map Prod.fst) key<s.ents.length/\∃ g y,ad=some ⟨g,0,none⟩/\w.cell? ⟨g,lb (s.ents.map Prod.fst) key*2,none⟩=some (.string y)/\(y.toList==key.toList)=is)\/(¬ lb (s.ents.map Prod.fst) key<s.ents.length/\is=false)) /\
      i2=(if is then((lb (s.ents.map Prod.fst) key:Nat):Int)+1 else(lb (s.ents.map Prod.fst) key:Nat))/\(i2=(m2:Int)/\m2<=s.ents.length) /\
      layE s.ents key val there=s.ents.take (lb (s.ents.map Prod.fst) key)++(if there then [(key,val)]else [])++s.ents.drop m2:=by
    cases hg:(getE s.ents key).isSome with
    | true =>
      obtain⟨v,hv⟩:=Option.isSome_iff_exists.1 hg;obtain⟨hlt,hat⟩:=zvr h.srt.keys (List.mem_map.2 ⟨_,z2q hv,rfl⟩:key∈s.ents.map Prod.fst);have hlt':lb (s.ents.map Prod.fst) key<s.ents.length:=by simpa using hlt
      obtain⟨x,hx⟩:∃ x,s.ents[lb (s.ents.map Prod.fst) key]?=some x:=⟨_,List.getElem?_eq_getElem hlt'⟩;have hx1:x.1=key:=by
        rw[List.getElem_map]at hat
        rw[<- hat];have:=(List.getElem?_eq_some_iff.1 hx).2;rw[this]
      obtain⟨g,h1,h2,_⟩:=hE.at0 _ x hx;exact⟨true,_,lb (s.ents.map Prod.fst) key+1,.inl ⟨hlt',g,x.1,h1,h2,by rw[hx1];simp⟩,rfl,⟨by simp,hlt'⟩,zv6 h.srt val there hg⟩
    | false =>
      by_cases hlt:lb (s.ents.map Prod.fst) key<s.ents.length
      · obtain⟨x,hx⟩:∃ x,s.ents[lb (s.ents.map Prod.fst) key]?=some x:=⟨_,List.getElem?_eq_getElem hlt⟩
        obtain⟨g,h1,h2,_⟩:=hE.at0 _ x hx;refine⟨false,_,lb (s.ents.map Prod.fst) key,.inl ⟨hlt,g,x.1,h1,h2,?_⟩,rfl,⟨by simp,hle⟩,zk6 h.srt val there hg⟩;rw[z4i,decide_eq_false_iff_not];intro e;have hno:=z4r.1 (by simpa using hg:getE s.ents key=none);exact hno (List.mem_map.2 ⟨x,List.mem_of_getElem? hx,e⟩)
      · exact⟨false,_,lb (s.ents.map Prod.fst) key,.inr ⟨hlt,rfl⟩,rfl,⟨by simp,hle⟩,zk6 h.srt val there hg⟩
  obtain⟨ad2,c2,HE1,HE2⟩:=zfp pairT h.ls rfl m2 hm2.2;rw[zmv]at HB2;rw[zlu]at HE2;rw[<- hm2.1]at HE1;have hsrt:Sorted (layE s.ents key val there):=zjh h.srt key val there;have hEND:∀ w1 v n,z4f w w1 v n (s.ents.take (lb (s.ents.map Prod.fst) key)++(if there then [(key,val)]else [])++s.ents.drop m2)->zba w b pv (s.lay key val there) (.returned (.tuple #[])) (w1.setCell ⟨b,0,none⟩ v):=fun w1 v n hO=>by
    rw[<- hents]at hO;exact zrt hH hsrt hO
  have hmx1:lb (s.ents.map Prod.fst) key+1<=maxLen:=by unfold maxLen;omega
  have hmx2:lb (s.ents.map Prod.fst) key+(s.ents.length-m2)<=maxLen:=by unfold maxLen;omega
  have hmx3:lb (s.ents.map Prod.fst) key+1+(s.ents.length-m2)<=maxLen:=by unfold maxLen;omega
  have hmx:0+lb (s.ents.map Prod.fst) key<=maxLen:=by unfold maxLen;omega
  have H1:Hid (∀ w1 v1,z0s w 156 2 (.slice none 0 0) 0 (lb (s.ents.map Prod.fst) key) [] (z1x (s.ents.take (lb (s.ents.map Prod.fst) key))) v1 w1->z4f w w1 v1 (lb (s.ents.map Prod.fst) key) (s.ents.take (lb (s.ents.map Prod.fst) key))):=fun w1 v1 hA=>by
    have:=(z4f.start w).next (l2:=s.ents.take (lb (s.ents.map Prod.fst) key)) hA
    simpa using this
  have H2:Hid (∀ w1 v1,z4f w w1 v1 (lb (s.ents.map Prod.fst) key) (s.ents.take (lb (s.ents.map Prod.fst) key))->∀ w2 v2,z0s (w1.alloc (.cells #[.string key,.string val] 156)) 156 2 v1 (lb (s.ents.map Prod.fst) key) 1 (z1x (s.ents.take (lb (s.ents.map Prod.fst) key))) [.string key,.string val] v2 w2->z4f w w2 v2 (lb (s.ents.map Prod.fst) key+1) (s.ents.take (lb (s.ents.map Prod.fst) key) ++ [(key,val)])):=fun w1 v1 hO w2 v2 hA =>
    (hO.alloc _).next (l2:=[(key,val)]) hA
  have H3:Hid (∀ w1 v1 n l,z4f w w1 v1 n l->∀ w2 v2,z0s w1 156 2 v1 n (s.ents.length-m2) (z1x l) (z1x (s.ents.drop m2)) v2 w2->z4f w w2 v2 (n+(s.ents.length-m2)) (l++s.ents.drop m2)):=fun w1 v1 n l hO w2 v2 hA=>hO.next hA
  have HSRC:Hid (∀ w1,Below w.heap.size w w1->Src w1 2 (.slice ad2 (s.ents.length-m2) c2) (s.ents.length-m2) (z1x (s.ents.drop m2))):=fun w1 hb=>HE2.below hb
  have HFORM:Hid (∀ w1 v1 n l,z4f w w1 v1 n l->∃ a c,v1= .slice a n c):=fun w1 v1 n l hO=>by
    obtain⟨_,a,c,h,_⟩:=hO.1.src;exact⟨a,c,h⟩
  have HEND:=zh hEND;have HB1':=zh HB1;have HB2':=zh HB2;have HE1':=zh HE1;have hm2n:=hm2.2;have hpl:(z1x (s.ents.take (lb (s.ents.map Prod.fst) key))).length=lb (s.ents.map Prod.fst) key*2:=by rw[zhi,List.length_take,Nat.min_eq_left hle]
  have HPL:=zh hpl;clear hE hH hfz hcb HB1 HB2 HE1 HE2 hEND hsrt hents hm2 hpl h;generalize s.lay key val there=s' at *
  generalize s.ents.take (lb (s.ents.map Prod.fst) key)=T1 at *
  generalize s.ents.drop m2=T2 at *
  generalize lb (s.ents.map Prod.fst) key=m at *
  generalize s.ents.length=n at *
  cases is<;>cases there
  all_goals
    simp only[if_true,Bool.false_eq_true,if_false]at hi2;subst hi2;rcases hreg with⟨hlt,g,y,rfl,hcy,hyk⟩ | ⟨hlt,hfalse⟩
  all_goals first | (cases hfalse;done) | skip
  all_goals
    go_enter Tryz.func197,Tryz.ntmps197;go_wp2_with (first | (go_at_call 212;refine HP.out.mono ?_;rintro e w' ⟨rfl,rfl⟩)|(with_reducible refine z0c (o:=⟨some 39,_,_,_,_,_⟩) rfl (.slice _ m c) w (zat rfl rfl (HB1'.out w)) ?_)|(at_builtin;refine z2a rfl _ _ 42 42 rfl pairT pairT _ 0 [] rfl (Own.nil _ _ _) _ m _ rfl HB2'.out (zc0 _) hmx (by omega) ?_))
  all_goals
    intro v1 w1 hA1;have HO1:=zh (H1.out w1 v1 hA1);clear hA1;obtain⟨a1,c1,rfl⟩:=HFORM.out _ _ _ _ HO1.out
  all_goals
    have hcw:=HCB.out w1 HO1.out.2.2;have hfw:=HFZ.out w1 HO1.out.2.2
    first
      | (go_wp2_with (at_builtin;refine z08 (o:=⟨some 47,_,_,_,_,_⟩) rfl (.tmp 42) (.tmp 46) 42 42 rfl pairT pairT _ m (z1x T1) rfl (HO1.out.alloc _).1 _ 1 _ [.string key,.string val] rfl rfl (zfw _ _ _ _) (zic _ _) hmx1 (by omega) ?_)
         intro v2 w2 hA2;have HO2:=zh (H2.out _ _ HO1.out w2 v2 hA2);clear hA2 hcw hfw;obtain⟨a2,c2',rfl⟩:=HFORM.out _ _ _ _ HO2.out;have hcw:=HCB.out w2 HO2.out.2.2;have hfw:=HFZ.out w2 HO2.out.2.2;go_wp2_with (first | (with_reducible refine z0c (o:=⟨some 57,_,_,_,_,_⟩) rfl (.slice ad2 (n-m2) c2) w2 (zat rfl rfl (HE1'.out w2)) ?_)|(at_builtin;refine z2a (o:=⟨some 58,_,_,_,_,_⟩) rfl (.tmp 51) (.tmp 57) 42 42 rfl pairT pairT _ (m+1) _ rfl HO2.out.1 _ (n-m2) (z1x T2) rfl (HSRC.out w2 HO2.out.2.2) (zc0 _) hmx3 (by omega) ?_));intro v3 w3 hA3
         have HO3:=zh (H3.out _ _ _ _ HO2.out w3 v3 hA3))
      | (go_wp2_with (first | (with_reducible refine z0c (o:=⟨some 57,_,_,_,_,_⟩) rfl (.slice ad2 (n-m2) c2) w1 (zat rfl rfl (HE1'.out w1)) ?_)|(at_builtin;refine z2a (o:=⟨some 58,_,_,_,_,_⟩) rfl (.tmp 51) (.tmp 57) 42 42 rfl pairT pairT _ m (z1x T1) rfl HO1.out.1 _ (n-m2) (z1x T2) rfl (HSRC.out w1 HO1.out.2.2) (zc0 _) hmx2 (by omega) ?_))
         intro v3 w3 hA3
         have HO3:=zh (H3.out _ _ _ _ HO1.out w3 v3 hA3))
  all_goals
    clear hA3 hcw hfw;obtain⟨a3,c3,rfl⟩:=HFORM.out _ _ _ _ HO3.out;have hcw:=HCB.out w3 HO3.out.2.2;have hfw:=HFZ.out w3 HO3.out.2.2;have hE:=HEND.out w3 _ _ (by simpa using HO3.out);have HE:=zh hE;clear hE;go_wp2
    go_end0
    exact HE.out
theorem zt2:z1j Tryz.prog 43 244 (.agg #[.string ⟨#[]⟩,.string ⟨#[]⟩,.bool false]) 3 40:=⟨by kernel_rfl,by kernel_rfl,rfl,by decide⟩
theorem znw(x:Was):∀ u∈z0i x,u.oneCell'=true:=by
 intro u hu;simp[z0i]at hu;rcases hu with rfl | rfl | rfl<;>rfl
theorem zk7(w:World)(x:Was)(t:TypeId):∀ j u,(z0i x)[j]?=some u->(w.alloc (.cells #[.string x.key,.string x.val,.bool x.there] t)).cell? ((⟨w.heap.size,0,none⟩:Addr).add j)=some u:=fun j u hj=>by
 rw[Addr.add_lit,cell_of_row _ _ _ _ _ _ (heap_alloc_new w _)]
 simpa [z0i]using hj
def RetR(w:World)(b:Nat)(L:List Nat)(v:Value)(s':St)(e:Ending)(w':World):Prop:=e= .returned v/\∃ L',RRep w' b s' L'/\Step w L w' L'
theorem zf5{w w2:World}{b:Nat}{lv pv v':Value}{s:St}(h:RAt w b lv pv s)(x:Was)
  (hA:z0s (w.alloc (.cells #[.string x.key,.string x.val,.bool x.there] 244)) 244 3 pv s.past.length 1 (s.past.flatMap z0i) (z0i x) v' w2) :
  (∃ a c,v' = .slice a (s.past.length+1) c)/\w2.cell? ⟨b,1,none⟩=some pv/\w2.frozen? ⟨b,1,none⟩=false/\RAt (w2.setCell ⟨b,1,none⟩ v') b lv v' ⟨s.ents,s.past ++ [x]⟩/\Step w (rids b lv pv) (w2.setCell ⟨b,1,none⟩ v') (rids b lv v'):=by
 have hlt:=h.lt;have hbw:=z02 h.hd;have hnd:=h.nd;have hF0:Fr (fun k=>pv.ownBlock=some k) w w2:=((Fr.refl (fun k=>pv.ownBlock=some k) w).alloc _).grown hA.grown (fun k hk => .inr hk);have hpb:pv.ownBlock≠some b:=fun e=>by simp[e]at hnd
 have hb2:w2.heap[b]?=some (.cells #[lv,pv] 45 (0,0)):=hF0.at h.hd hpb;have hvb:∀ g,v'.ownBlock=some g->g≠b:=fun g hg e=>by
  subst e;rcases hA.block g hg with h1 | h1
  ·exact hpb h1
  ·simp at h1;omega
 have hvl:∀ g g',v'.ownBlock=some g->lv.ownBlock=some g'->g≠g':=fun g g' hg hg' e=>by
  subst e;rcases hA.block g hg with h1 | h1
  ·simp[hg',h1]at hnd
  ·have:=h.ls.lt g hg';simp at h1;omega
 have hF:Fr (· ∈ rids b lv pv) w (w2.setCell ⟨b,1,none⟩ v'):=(hF0.mono (fun k _ hk=>by simp[rids,hk])).setCell _ _ (.inr (by simp[rids]));obtain⟨_,a,c,hv,_⟩:=hA.own.src;refine⟨⟨a,c,hv⟩,by rw[cell_of_row w2 b 1 _ _ _ hb2];rfl,frozen_of_row w2 b 1 _ _ hb2,⟨?_,?_,?_,h.srt,?_⟩,hF,?_⟩
 ·rw[setCell_eq_setRow w2 b 1 _ _ _ v' hb2];exact setRow_heap w2 b _ _ _ _ hb2
 ·refine h.ls.frame fun k hk => ?_
  have hkb:k≠b:=fun e=>by subst e;simp[hk]at hnd
  have hkp:pv.ownBlock≠some k:=fun e=>by simp[hk,e]at hnd
  rw[Below.heap_setCell _ _ _ _ hkb,hF0.block k (h.ls.lt k hk) hkp]
 ·have:=hA.own;have e:(s.past ++ [x]).flatMap z0i=s.past.flatMap z0i++z0i x:=by simp[List.flatMap_append]
  show Own _ _ _ _ (s.past ++ [x]).length _
  rw[e,List.length_append,List.length_singleton];exact this.frame fun k hk=>Below.heap_setCell _ _ _ _ (hvb k hk)
 ·cases hv2:v'.ownBlock<;>cases hl:lv.ownBlock<;>simp
  ·intro e;subst e;simp[hl]at hnd
  ·exact fun e=>hvb _ hv2 e.symm
  ·refine⟨⟨fun e => ?_,fun e=>hvb _ hv2 e.symm⟩,fun e=>hvl _ _ hv2 hl e.symm⟩;subst e;simp[hl]at hnd
 ·intro k hk;simp only[rids,List.mem_cons,List.mem_append]at hk ⊢;rcases hk with rfl | hk | hk
  ·exact .inl (.inl rfl)
  ·exact .inl (.inr (.inl hk))
  ·rcases hA.block k (by simpa using hk)with h1 | h1
   ·exact .inl (.inr (.inr (by simpa using h1)))
   ·simp at h1;exact .inr (by omega)
theorem zcs{w w1 w':World}{b:Nat}{L:List Nat}{lv pv:Value}{s':St}{e:Ending}(hS:Step w L w1 (rids b lv pv))(h:zba w1 b pv s' e w'):∃ L',RRep w' b s' L'/\Step w L w' L':=by
 obtain⟨_,lv',h1,h2,h3⟩:=h;refine⟨rids b lv' pv,⟨lv',pv,h1,rfl⟩,hS.trans ⟨h3.mono (fun k _ hk=>by simp[rids,hk]),fun k hk => ?_⟩⟩;simp only[rids,List.mem_cons,List.mem_append]at hk ⊢;rcases hk with rfl | hk | hk
 ·exact .inl (.inl rfl)
 ·exact .inr (h2 k (by simpa using hk))
 ·exact .inl (.inr (.inr hk))
theorem zes(w:World)(b:Nat)(v:ByteArray):Calls Tryz.prog 198 #[.pointer (some ⟨b,0,none⟩),.string z05,.string v] w fun e w'=>e= .returned (.int .i64 2)/\w=w':=by
 unfold z05;go_enter Tryz.func198,Tryz.ntmps198;go_wp2;go_ret;exact⟨rfl,rfl⟩
theorem zg3(w:World)(b:Nat)(s:St)(L:List Nat)(k v:ByteArray)(h:RRep w b s L)(hk:k≠z05)(hb:s.size<1000000000000) :
  Calls Tryz.prog 198 #[.pointer (some ⟨b,0,none⟩),.string k,.string v] w (RetR w b L (.int .i64 0) (s.set k v)):=by
 unfold St.size at hb;have HG:=zh (z9f w b s L k h (by omega));have hke:=zd3 hk
 by_cases hd:getE s.ents k=some v
 ·have hv:s.val k=v:=by unfold St.val;rw[hd];rfl
  have hs:(getE s.ents k).isSome=true:=by rw[hd];rfl
  rw[hv,hs]at HG;have hset:s.set k v=s:=by unfold St.set;rw[if_pos hd]
  have HE:Hid (RetR w b L (.int .i64 0) (s.set k v) (.returned (.int .i64 0)) w):=by rw[hset];exact⟨rfl,L,h,Step.refl w L⟩
  have hvv:(v.toList==v.toList)=true:=by simp
  clear h hd hv hs hset hk;generalize RetR w b L (.int .i64 0) (s.set k v)=R at *
  go_enter Tryz.func198,Tryz.ntmps198;go_wp2_with (go_at_call 164;refine HG.out.mono ?_;rintro e w' ⟨rfl,rfl⟩);exact HE.out
 ·obtain⟨lv,pv,hR,rfl⟩:=h;have hset:s.set k v=(St.lay ⟨s.ents,s.past ++ [⟨k,s.val k,(getE s.ents k).isSome⟩]⟩ k v true):=by
   unfold St.set;rw[if_neg hd];simp[St.lay,layE,St.was]
  have HP:Hid (∀ v' w2,z0s (w.alloc (.cells #[.string k,.string (s.val k),.bool (getE s.ents k).isSome] 244)) 244 3 pv s.past.length 1 (s.past.flatMap z0i) [.string k,.string (s.val k),.bool (getE s.ents k).isSome] v' w2 ->
    (∃ a c,v' = .slice a (s.past.length+1) c)/\w2.cell? ⟨b,1,none⟩=some pv/\w2.frozen? ⟨b,1,none⟩=false /\
    Calls Tryz.prog 197 #[.pointer (some ⟨b,0,none⟩),.string k,.string v,.bool true] (w2.setCell ⟨b,1,none⟩ v') fun e w'=>e= .returned (.tuple #[])/\RetR w b (rids b lv pv) (.int .i64 0) (s.set k v) (.returned (.int .i64 0)) w'):=fun v' w2 hA=>by
   obtain⟨h1,h2,h3,h4,h5⟩:=zf5 hR ⟨k,s.val k,(getE s.ents k).isSome⟩ hA;refine⟨h1,h2,h3,(zjj _ b _ lv v' k v true h4 (by show s.ents.length<_;omega)).mono fun e w' hl=>⟨hl.1,rfl,?_⟩⟩;rw[hset];exact zcs h5 hl
  have hown:Own (w.alloc (.cells #[.string k,.string (s.val k),.bool (getE s.ents k).isSome] 244)) 244 3 pv s.past.length (s.past.flatMap z0i):=hR.ps.fr ((Fr.refl (fun _=>False) w).alloc _) (fun _ _=>id);have HO:=zh hown;obtain⟨hpl,ap,cp,rfl,_⟩:=hR.ps.src;have hpc:w.cell? ⟨b,1,none⟩=some (.slice ap s.past.length cp):=by rw[cell_of_row w b 1 _ _ _ hR.hd];rfl
  have hone:=znw ⟨k,s.val k,(getE s.ents k).isSome⟩;have hnews:=zk7 w ⟨k,s.val k,(getE s.ents k).isSome⟩ 244;unfold z0i at hone hnews;have hmx:s.past.length+1<=maxLen:=by unfold maxLen;omega
  have hvd:((getE s.ents k).isSome&&((s.val k).toList==v.toList))=false:=by
   cases hg:getE s.ents k with
   | none=>rfl
   | some x =>
    have:s.val k=x:=by unfold St.val;rw[hg];rfl
    simp only[Option.isSome_some,Bool.true_and];rw[this,z4i,decide_eq_false_iff_not];intro e;subst e;exact hd hg
  clear hd hk hset;generalize RetR w b (rids b lv (.slice ap s.past.length cp)) (.int .i64 0) (s.set k v)=R at *
  generalize s.val k=u at *
  have hpn:s.past.length<1000000000000:=by omega
  generalize s.past.flatMap z0i=X at *
  generalize s.past.length=n at *
  clear hR hpl hown;cases hg:(getE s.ents k).isSome
  all_goals
   simp only[hg,Bool.true_and,Bool.false_and]at *
   go_enter Tryz.func198,Tryz.ntmps198;go_wp2_with (first | (go_at_call 164;refine HG.out.mono ?_;rintro e w' ⟨rfl,rfl⟩)|(at_builtin;refine z08 rfl _ _ 43 43 rfl zt2 zt2 _ n X rfl HO.out _ 1 _ _ rfl rfl hnews hone hmx (by omega) ?_))
  all_goals
   intro v1 w2 hA;obtain⟨⟨a1,c1,rfl⟩,hc2,hf2,hcall⟩:=HP.out v1 w2 hA;have HC:=zh hcall;clear hA hcall HP HO;go_wp2_with (go_at_call 197;refine HC.out.mono ?_;rintro e w' ⟨rfl,hR⟩);exact hR
theorem z8z(w:World)(b:Nat)(s:St)(L:List Nat)(k:ByteArray)(h:RRep w b s L)(hb:s.size<1000000000000) :
  Calls Tryz.prog 136 #[.pointer (some ⟨b,0,none⟩),.string k] w (RetR w b L (.bool (getE s.ents k).isSome) (s.del k)):=by
 unfold St.size at hb;have HG:=zh (z9f w b s L k h (by omega));cases hs:(getE s.ents k).isSome with
 | false =>
  rw[hs]at HG;have hset:s.del k=s:=by unfold St.del;rw[if_neg (by rw[hs];simp)]
  have HE:Hid (RetR w b L (.bool false) (s.del k) (.returned (.bool false)) w):=by rw[hset];exact⟨rfl,L,h,Step.refl w L⟩
  clear h hs hset;generalize RetR w b L (.bool false) (s.del k)=R at *
  go_enter Tryz.func136,Tryz.ntmps136;go_wp2_with (go_at_call 164;refine HG.out.mono ?_;rintro e w' ⟨rfl,rfl⟩);exact HE.out
 | true =>
  rw[hs]at HG;obtain⟨lv,pv,hR,rfl⟩:=h;have hset:s.del k=(St.lay ⟨s.ents,s.past ++ [⟨k,s.val k,true⟩]⟩ k ⟨#[]⟩ false):=by
   unfold St.del;rw[if_pos hs];simp[St.lay,layE,St.was,hs]
  have HP:Hid (∀ v' w2,z0s (w.alloc (.cells #[.string k,.string (s.val k),.bool true] 244)) 244 3 pv s.past.length 1 (s.past.flatMap z0i) [.string k,.string (s.val k),.bool true] v' w2 ->
    (∃ a c,v' = .slice a (s.past.length+1) c)/\w2.cell? ⟨b,1,none⟩=some pv/\w2.frozen? ⟨b,1,none⟩=false /\
    Calls Tryz.prog 197 #[.pointer (some ⟨b,0,none⟩),.string k,.string ⟨#[]⟩,.bool false] (w2.setCell ⟨b,1,none⟩ v') fun e w'=>e= .returned (.tuple #[])/\RetR w b (rids b lv pv) (.bool true) (s.del k) (.returned (.bool true)) w'):=fun v' w2 hA=>by
   obtain⟨h1,h2,h3,h4,h5⟩:=zf5 hR ⟨k,s.val k,true⟩ hA;refine⟨h1,h2,h3,(zjj _ b _ lv v' k ⟨#[]⟩ false h4 (by show s.ents.length<_;omega)).mono fun e w' hl=>⟨hl.1,rfl,?_⟩⟩;rw[hset];exact zcs h5 hl
  have hown:Own (w.alloc (.cells #[.string k,.string (s.val k),.bool true] 244)) 244 3 pv s.past.length (s.past.flatMap z0i):=hR.ps.fr ((Fr.refl (fun _=>False) w).alloc _) (fun _ _=>id);have HO:=zh hown;obtain⟨hpl,ap,cp,rfl,_⟩:=hR.ps.src;have hpc:w.cell? ⟨b,1,none⟩=some (.slice ap s.past.length cp):=by rw[cell_of_row w b 1 _ _ _ hR.hd];rfl
  have hone:=znw ⟨k,s.val k,true⟩;have hnews:=zk7 w ⟨k,s.val k,true⟩ 244;unfold z0i at hone hnews;have hmx:s.past.length+1<=maxLen:=by unfold maxLen;omega
  clear hset hs;generalize RetR w b (rids b lv (.slice ap s.past.length cp)) (.bool true) (s.del k)=R at *
  generalize s.val k=u at *
  have hpn:s.past.length<1000000000000:=by omega
  generalize s.past.flatMap z0i=X at *
  generalize s.past.length=n at *
  clear hR hpl hown;go_enter Tryz.func136,Tryz.ntmps136;go_wp2_with (first | (go_at_call 164;refine HG.out.mono ?_;rintro e w' ⟨rfl,rfl⟩)|(at_builtin;refine z08 rfl _ _ 43 43 rfl zt2 zt2 _ n X rfl HO.out _ 1 _ _ rfl rfl hnews hone hmx (by omega) ?_));intro v1 w2 hA;obtain⟨⟨a1,c1,rfl⟩,hc2,hf2,hcall⟩:=HP.out v1 w2 hA;have HC:=zh hcall;clear hA hcall HP HO;go_wp2_with (go_at_call 197;refine HC.out.mono ?_;rintro e w' ⟨rfl,hR⟩);exact hR
end Go.Proofs.YtnkilceibkkjlaaGreat
