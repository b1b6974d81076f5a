/- What is proved here: slices.Delete of one element out of  -/
import Derived.Test.YtnkilceibkkjlaaGreatKInsertG
set_option maxRecDepth 100000
set_option maxHeartbeats 16000000
namespace Go.Proofs.YtnkilceibkkjlaaGreat
open Go.RowKit
theorem zkq{A:Type}(cur xs:List A)(z:A)(m i:Nat)(hi:i<xs.length)(hc:cur.take xs.length=xs)(_hm:m=1) :
  (((cur.take i++xs.drop (i+1)++cur.drop (i+(xs.drop (i+1)).length)).take (xs.length-1)++List.replicate m z++(cur.take i++xs.drop (i+1)++cur.drop (i+(xs.drop (i+1)).length)).drop (xs.length-1+m)).take (xs.length-1))=xs.take i++xs.drop (i+1):=by
 have hl:xs.length<=cur.length:=by have:=congrArg List.length hc;simp at this;omega
 have h1:(cur.take i++xs.drop (i+1)++cur.drop (i+(xs.drop (i+1)).length)).take (xs.length-1)=xs.take i++xs.drop (i+1):=by
  rw[List.take_append_of_le_length (by simp;omega),List.take_of_length_le (by simp;omega)];congr 1;rw[<- hc,List.take_take];congr 1;omega
 rw[h1,List.append_assoc,List.take_append_of_le_length (by simp;omega),List.take_of_length_le (by simp;omega)]
structure z95 (w:World) (e:TypeId) (g c i:Nat) (xs:List Value) (v':Value) (w':World):Prop where
 val:v' = .slice (some ⟨g,0,none⟩) (xs.length-1) c
 own:Own w' e 1 v' (xs.length-1) (xs.take i++xs.drop (i+1))
 fr:Fr (· = g) w w'
def zc7(w:World)(e:TypeId)(g c i:Nat)(xs:List Value)(en:Ending)(w':World):Prop:=∃ v',en= .returned v'/\z95 w e g c i xs v' w'
theorem zst(w:World)(g c:Nat)(cur:Array Value)(xs:List Value)(n i:Nat)(hn:n=xs.length)(hi:i<n)
  (hg:w.heap[g]?=some (.cells cur 9 (0,0))) (hnc:n<=c) (hcm:c<=maxLen) (hcs:c<=cur.size) (hx:cur.toList.take n=xs)
  (hoxs:∀ u∈xs,u.oneCell'=true) :
  Calls Tryz.prog 242 #[.slice (some ⟨g,0,none⟩) n c,.int .i64 i,.int .i64 (i+1:Nat)] w (zc7 w 9 g c i xs):=by
 have hlen:cur.toList.length=cur.size:=rfl;obtain⟨k,hk⟩:∃ k,k=n-1:=⟨_,rfl⟩;have hld:(xs.drop (i+1)).length=n-(i+1):=by simp;omega
 have hkn:i+(n-(i+1))=k:=by omega
 obtain⟨w2,hw2⟩:∃ w2,w2=w.drew.setRow g (cur.toList.take i++xs.drop (i+1)++cur.toList.drop (i+(xs.drop (i+1)).length)).toArray:=⟨_,rfl⟩;have hap:∀ ty ad,(∀ j u,(xs.drop (i+1))[j]?=some u->w.drew.cell? (ad.add j)=some u) ->
   (Builtin.append_ #[220,220] ty #[.slice (some ⟨g,0,none⟩) i c,.slice (some ad) (n-(i+1)) (c-(i+1))]).run Tryz.prog w.drew= .ok (.slice (some ⟨g,0,none⟩) k c) w2:=fun ty ad had=>by
  have:=z7c (w:=w.drew) zaj zaj ty (g:=g) (n:=i) (cap:=c) hg (ad:=ad) (m:=n-(i+1)) (c:=c-(i+1)) (xs.drop (i+1)) (by omega) had (fun u hu=>hoxs u (List.mem_of_mem_drop hu)) (by omega) (by rw[hld];omega);rw[hkn]at this;simp only[Nat.mul_one]at this;rw[this,hw2]
 have hg2:=setRow_heap w.drew g cur (cur.toList.take i++xs.drop (i+1)++cur.toList.drop (i+(xs.drop (i+1)).length)).toArray 9 (0,0) hg;rw[<- hw2]at hg2;have hfr2:Fr (· = g) w w2:=by rw[hw2];exact((Fr.refl _ w).drew).setRow _ _ (.inr rfl)
 obtain⟨cur2,hc2⟩:∃ cur2:Array Value,cur2=(cur.toList.take i++xs.drop (i+1)++cur.toList.drop (i+(xs.drop (i+1)).length)).toArray:=⟨_,rfl⟩;rw[<- hc2]at hg2;have hl2:cur2.size=cur.size:=by rw[hc2];simp;omega
 obtain⟨w3,hw3⟩:∃ w3,w3=w2.setRow g (cur2.toList.take k++List.replicate (n-k) (Value.string ⟨#[]⟩)++cur2.toList.drop (k+(n-k))).toArray:=⟨_,rfl⟩;have hcl:∀ ty,(Builtin.clear_ #[220] ty #[.slice (some ⟨g,k,none⟩) (n-k) (c-k)]).run Tryz.prog w2= .ok (.tuple #[]) w3:=fun ty=>by
  rw[hw3];exact zeu (off:=k) (n:=n-k) zaj rfl rfl ty hg2 (by omega)
 have hg3:=setRow_heap w2 g cur2 (cur2.toList.take k++List.replicate (n-k) (Value.string ⟨#[]⟩)++cur2.toList.drop (k+(n-k))).toArray 9 (0,0) hg2;rw[<- hw3]at hg3;have hfr3:Fr (· = g) w w3:=by rw[hw3];exact hfr2.setRow _ _ (.inr rfl)
 have hfin:=zkq cur.toList xs (Value.string ⟨#[]⟩) (n-k) i (by omega) (by rw[<- hn];exact hx) (by omega);have hout:Own w3 9 1 (.slice (some ⟨g,0,none⟩) k c) k (xs.take i++xs.drop (i+1)):=by
  refine⟨by simp;omega,.inr ⟨g,c,_,rfl,hg3,by omega,hcm,?_,?_⟩⟩
  ·simp;omega
  ·rw[hc2];subst hk;subst hn
   simpa using hfin
 have HQ:Hid (zc7 w 9 g c i xs (.returned (.slice (some ⟨g,0,none⟩) k c)) w3):=⟨_,rfl,by subst hk;subst hn;exact⟨rfl,hout,hfr3⟩⟩;have HC:=zh hcl;have hkc:¬ c=k:=by omega
 have hkn':k<=n:=by omega
 have hkc':k<=c:=by omega
 have hni:n<=c:=hnc;have hcm':c<=9223372036854775807:=hcm;have hne:((i:Int)==(i:Int)+1)=false:=by rw[beq_eq_false_iff_ne];omega
 have hic:i<=c:=by omega
 have hi1:i+1<=n:=by omega
 have hi2:(i:Int)+1<=(n:Int):=by omega
 have hi3:0<=(i:Int)+1:=by omega
 have hi4:((i:Int)+1).toNat=i+1:=by omega
 by_cases hci:c=i+1
 ·have HA:Hid (∀ ty,(Builtin.append_ #[220,220] ty #[.slice (some ⟨g,0,none⟩) i c,.slice (some ⟨g,0,none⟩) 0 0]).run Tryz.prog w.drew= .ok (.slice (some ⟨g,0,none⟩) k c) w2):=fun ty=>by
   have:=hap ty ⟨g,0,none⟩ (fun j u hj=>by rw[List.drop_of_length_le (by omega)]at hj;simp at hj);rw[show n-(i+1)=0 by omega,show c-(i+1)=0 by omega]at this
   exact this
  obtain rfl:c=n:=by omega
  clear hap hg hx hn hoxs hlen hld hkn hw2 hg2 hfr2 hc2 hl2 hw3 hcl hg3 hfr3 hfin hout hcs hcm hk;subst hci;have hi5:(i:Int)<=(i:Int)+1:=by omega
  go_enter Tryz.func242,Tryz.ntmps242;go_wp2
  go_still_tail 6,(by kernel_rfl)
  refine z0c rfl _ _ (z16 rfl rfl rfl (HA.out _)) ?_;go_wp2_with (refine z0c (o:=⟨none,.call _,_,_,_,_⟩) rfl _ _ (z88 rfl rfl (HC.out _)) ?_);go_ret;exact HQ.out
 ·have HA:Hid (∀ ty,(Builtin.append_ #[220,220] ty #[.slice (some ⟨g,0,none⟩) i c,.slice (some ⟨g,i+1,none⟩) (n-(i+1)) (c-(i+1))]).run Tryz.prog w.drew= .ok (.slice (some ⟨g,0,none⟩) k c) w2):=fun ty=>hap ty _ (cells_from (w:=w.drew) hg xs n (i+1) hx)
  clear hap hg hx hn hoxs hlen hld hkn hw2 hg2 hfr2 hc2 hl2 hw3 hcl hg3 hfr3 hfin hout hcs hcm hk;go_enter Tryz.func242,Tryz.ntmps242;go_wp2
  go_still_tail 6,(by kernel_rfl)
  refine z0c rfl _ _ (z16 rfl rfl rfl (HA.out _)) ?_;go_wp2_with (refine z0c (o:=⟨none,.call _,_,_,_,_⟩) rfl _ _ (z88 rfl rfl (HC.out _)) ?_);go_ret;exact HQ.out
theorem zsi(w:World)(g c:Nat)(cur:Array Value)(xs:List Value)(n i:Nat)(hn:n=xs.length)(hi:i<n)
  (hg:w.heap[g]?=some (.cells cur 220 (0,0))) (hnc:n<=c) (hcm:c<=maxLen) (hcs:c<=cur.size) (hx:cur.toList.take n=xs)
  (hoxs:∀ u∈xs,u.oneCell'=true) :
  Calls Tryz.prog 243 #[.slice (some ⟨g,0,none⟩) n c,.int .i64 i,.int .i64 (i+1:Nat)] w (zc7 w 220 g c i xs):=by
 have hlen:cur.toList.length=cur.size:=rfl;obtain⟨k,hk⟩:∃ k,k=n-1:=⟨_,rfl⟩;have hld:(xs.drop (i+1)).length=n-(i+1):=by simp;omega
 have hkn:i+(n-(i+1))=k:=by omega
 obtain⟨w2,hw2⟩:∃ w2,w2=w.drew.setRow g (cur.toList.take i++xs.drop (i+1)++cur.toList.drop (i+(xs.drop (i+1)).length)).toArray:=⟨_,rfl⟩;have hap:∀ ty ad,(∀ j u,(xs.drop (i+1))[j]?=some u->w.drew.cell? (ad.add j)=some u) ->
   (Builtin.append_ #[90,90] ty #[.slice (some ⟨g,0,none⟩) i c,.slice (some ad) (n-(i+1)) (c-(i+1))]).run Tryz.prog w.drew= .ok (.slice (some ⟨g,0,none⟩) k c) w2:=fun ty ad had=>by
  have:=z7c (w:=w.drew) zdx zdx ty (g:=g) (n:=i) (cap:=c) hg (ad:=ad) (m:=n-(i+1)) (c:=c-(i+1)) (xs.drop (i+1)) (by omega) had (fun u hu=>hoxs u (List.mem_of_mem_drop hu)) (by omega) (by rw[hld];omega);rw[hkn]at this;simp only[Nat.mul_one]at this;rw[this,hw2]
 have hg2:=setRow_heap w.drew g cur (cur.toList.take i++xs.drop (i+1)++cur.toList.drop (i+(xs.drop (i+1)).length)).toArray 220 (0,0) hg;rw[<- hw2]at hg2;have hfr2:Fr (· = g) w w2:=by rw[hw2];exact((Fr.refl _ w).drew).setRow _ _ (.inr rfl)
 obtain⟨cur2,hc2⟩:∃ cur2:Array Value,cur2=(cur.toList.take i++xs.drop (i+1)++cur.toList.drop (i+(xs.drop (i+1)).length)).toArray:=⟨_,rfl⟩;rw[<- hc2]at hg2;have hl2:cur2.size=cur.size:=by rw[hc2];simp;omega
 obtain⟨w3,hw3⟩:∃ w3,w3=w2.setRow g (cur2.toList.take k++List.replicate (n-k) (Value.slice none 0 0)++cur2.toList.drop (k+(n-k))).toArray:=⟨_,rfl⟩;have hcl:∀ ty,(Builtin.clear_ #[90] ty #[.slice (some ⟨g,k,none⟩) (n-k) (c-k)]).run Tryz.prog w2= .ok (.tuple #[]) w3:=fun ty=>by
  rw[hw3];exact zeu (off:=k) (n:=n-k) zdx rfl rfl ty hg2 (by omega)
 have hg3:=setRow_heap w2 g cur2 (cur2.toList.take k++List.replicate (n-k) (Value.slice none 0 0)++cur2.toList.drop (k+(n-k))).toArray 220 (0,0) hg2;rw[<- hw3]at hg3;have hfr3:Fr (· = g) w w3:=by rw[hw3];exact hfr2.setRow _ _ (.inr rfl)
 have hfin:=zkq cur.toList xs (Value.slice none 0 0) (n-k) i (by omega) (by rw[<- hn];exact hx) (by omega);have hout:Own w3 220 1 (.slice (some ⟨g,0,none⟩) k c) k (xs.take i++xs.drop (i+1)):=by
  refine⟨by simp;omega,.inr ⟨g,c,_,rfl,hg3,by omega,hcm,?_,?_⟩⟩
  ·simp;omega
  ·rw[hc2];subst hk;subst hn
   simpa using hfin
 have HQ:Hid (zc7 w 220 g c i xs (.returned (.slice (some ⟨g,0,none⟩) k c)) w3):=⟨_,rfl,by subst hk;subst hn;exact⟨rfl,hout,hfr3⟩⟩;have HC:=zh hcl;have hkc:¬ c=k:=by omega
 have hkn':k<=n:=by omega
 have hkc':k<=c:=by omega
 have hni:n<=c:=hnc;have hcm':c<=9223372036854775807:=hcm;have hne:((i:Int)==(i:Int)+1)=false:=by rw[beq_eq_false_iff_ne];omega
 have hic:i<=c:=by omega
 have hi1:i+1<=n:=by omega
 have hi2:(i:Int)+1<=(n:Int):=by omega
 have hi3:0<=(i:Int)+1:=by omega
 have hi4:((i:Int)+1).toNat=i+1:=by omega
 by_cases hci:c=i+1
 ·have HA:Hid (∀ ty,(Builtin.append_ #[90,90] ty #[.slice (some ⟨g,0,none⟩) i c,.slice (some ⟨g,0,none⟩) 0 0]).run Tryz.prog w.drew= .ok (.slice (some ⟨g,0,none⟩) k c) w2):=fun ty=>by
   have:=hap ty ⟨g,0,none⟩ (fun j u hj=>by rw[List.drop_of_length_le (by omega)]at hj;simp at hj);rw[show n-(i+1)=0 by omega,show c-(i+1)=0 by omega]at this
   exact this
  obtain rfl:c=n:=by omega
  clear hap hg hx hn hoxs hlen hld hkn hw2 hg2 hfr2 hc2 hl2 hw3 hcl hg3 hfr3 hfin hout hcs hcm hk;subst hci;have hi5:(i:Int)<=(i:Int)+1:=by omega
  go_enter Tryz.func243,Tryz.ntmps243;go_wp2
  go_still_tail 6,(by kernel_rfl)
  refine z0c rfl _ _ (z16 rfl rfl rfl (HA.out _)) ?_;go_wp2_with (refine z0c (o:=⟨none,.call _,_,_,_,_⟩) rfl _ _ (z88 rfl rfl (HC.out _)) ?_);go_ret;exact HQ.out
 ·have HA:Hid (∀ ty,(Builtin.append_ #[90,90] ty #[.slice (some ⟨g,0,none⟩) i c,.slice (some ⟨g,i+1,none⟩) (n-(i+1)) (c-(i+1))]).run Tryz.prog w.drew= .ok (.slice (some ⟨g,0,none⟩) k c) w2):=fun ty=>hap ty _ (cells_from (w:=w.drew) hg xs n (i+1) hx)
  clear hap hg hx hn hoxs hlen hld hkn hw2 hg2 hfr2 hc2 hl2 hw3 hcl hg3 hfr3 hfin hout hcs hcm hk;go_enter Tryz.func243,Tryz.ntmps243;go_wp2
  go_still_tail 6,(by kernel_rfl)
  refine z0c rfl _ _ (z16 rfl rfl rfl (HA.out _)) ?_;go_wp2_with (refine z0c (o:=⟨none,.call _,_,_,_,_⟩) rfl _ _ (z88 rfl rfl (HC.out _)) ?_);go_ret;exact HQ.out
theorem zu5(a b:ByteArray):(a==b)=decide (a=b):=by
 show(a.data==b.data)=_
 rw[Bool.eq_iff_iff,decide_eq_true_eq,beq_iff_eq];exact⟨fun h=>by cases a;cases b;simpa using h,fun h=>by rw[h]⟩
theorem zc8{A B:Type}(f:A->B):∀ (l:List A) (j:Nat),(l.eraseIdx j).map f=(l.map f).eraseIdx j
 | [],_=>rfl
 | _::_,0=>rfl
 | x::l,j+1=>by simp[List.eraseIdx_cons_succ,zc8 f l j]
def MRep(es:Array MapEntry)(ents:List Ent):Prop:=
 ∃ kv:List Ent,es.toList.map (fun e=>(e.key,e.val))=kv.map (fun p=>(Value.string p.1,Value.string p.2))/\kv.Perm ents
theorem MRep.empty:MRep #[] []:=⟨[],rfl,List.Perm.refl _⟩
def idxE:List Ent->ByteArray->Option Nat
 | [],_=>none
 | (a,_)::r,k=>if k=a then some 0 else(idxE r k).map (· + 1)
theorem zbr(k:ByteArray):∀ (l:List MapEntry) (kv:List Ent) (i:Nat),l.map (fun e=>(e.key,e.val))=kv.map (fun p=>(Value.string p.1,Value.string p.2)) ->
  Instr.findNow .string (.string k) l i=some ((idxE kv k).map fun j=>(i+j,Value.string ((kv.getD j default).2)))
 | [],[],i,_=>by simp[Instr.findNow,idxE]
 | [],_::_,_,h=>by simp at h
 | _::_,[],_,h=>by simp at h
 | e::l,(a,b)::kv,i,h=>by
  simp only[List.map_cons,List.cons.injEq,Prod.mk.injEq]at h
  have ih:=zbr k l kv (i+1) h.2
  simp only[Instr.findNow,h.1.1,Instr.sameNow,zu5,idxE,h.1.2]
  by_cases hk:k=a
  ·simp[hk]
  ·simp only[hk,decide_false,if_false,ih]
   cases idxE kv k with
   | none=>simp
   | some j=>simp[Nat.add_assoc,Nat.add_comm 1 j]
theorem zpg{kv:List Ent}{k:ByteArray}:idxE kv k=none↔k∉kv.map Prod.fst:=by
 induction kv with
 | nil=>simp[idxE]
 | cons x r ih =>
  obtain⟨a,b⟩:=x;simp only[idxE,List.map_cons,List.mem_cons,not_or]
  by_cases e:k=a
  ·simp[e]
  ·simp[e,ih]
theorem za1{kv:List Ent}{k:ByteArray}{j:Nat}(h:idxE kv k=some j):∃ hj:j<kv.length,kv[j].1=k:=by
 induction kv generalizing j with
 | nil=>simp[idxE]at h
 | cons x r ih =>
  obtain⟨a,b⟩:=x;simp only[idxE]at h;split at h
  ·rename_i e;simp at h;subst h;exact⟨by simp,e.symm⟩
  ·cases hj:idxE r k with
   | none=>simp[hj]at h
   | some i =>
    simp[hj]at h;obtain⟨h1,h2⟩:=ih hj;subst h;exact⟨by simp;omega,by simpa using h2⟩
theorem z7y{kv ents:List Ent}(hp:kv.Perm ents)(hs:Sorted ents)(k:ByteArray):(idxE kv k).map (fun j=>(kv.getD j default).2)=getE ents k:=by
 cases h:idxE kv k with
 | none =>
  have h1:=zpg.1 h;have h2:k∉ents.map Prod.fst:=fun hm=>h1 ((hp.map Prod.fst).mem_iff.2 hm)
  simp[z4r.2 h2]
 | some j =>
  obtain⟨hj,hk⟩:=za1 h;have hm:(k,kv[j].2)∈ents:=by
   rw[<- hk];exact hp.mem_iff.1 (List.getElem_mem hj)
  simp[z1o hs hm,List.getD_eq_getElem?_getD,List.getElem?_eq_getElem hj]
theorem zpj{ents:List Ent}{k v:ByteArray}(h:getE ents k=some v):ents.Perm ((k,v)::delE ents k):=by
 induction ents with
 | nil=>simp[getE]at h
 | cons x r ih =>
  obtain⟨a,b⟩:=x;simp only[getE]at h
  by_cases e:a=k
  ·simp[e]at h;simp[delE,e,h]
  ·simp only[e,if_false]at h;simp only[delE,e,if_false];exact((ih h).cons (a,b)).trans (List.Perm.swap _ _ _)
theorem zi0{ents:List Ent}(hs:Sorted ents){k v0:ByteArray}(v:ByteArray)(h:getE ents k=some v0):(putE ents k v).Perm ((k,v)::delE ents k):=by
 induction ents with
 | nil=>simp[getE]at h
 | cons x r ih =>
  obtain⟨a,b⟩:=x;have hp:=List.pairwise_cons.1 hs;simp only[getE]at h
  by_cases e:a=k
  ·simp[putE,delE,e,KLt.irrefl]
  ·simp only[e,if_false]at h;have hlt:KLt a k:=hp.1 _ (z2q h);simp only[putE,delE,e,if_false,hlt,if_true];exact((ih hp.2 h).cons (a,b)).trans (List.Perm.swap _ _ _)
theorem zg4{ents:List Ent}{k:ByteArray}(v:ByteArray)(h:getE ents k=none):(putE ents k v).Perm ((k,v)::ents):=by
 induction ents with
 | nil=>simp[putE]
 | cons x r ih =>
  obtain⟨a,b⟩:=x;simp only[getE]at h
  by_cases e:a=k
  ·simp[e]at h
  ·simp only[e,if_false]at h;simp only[putE,e,if_false];split
   ·exact((ih h).cons (a,b)).trans (List.Perm.swap _ _ _)
   ·exact List.Perm.refl _
theorem zks{kv:List Ent}{j:Nat}(hj:j<kv.length)(x:Ent):(kv.set j x).Perm (x::kv.eraseIdx j):=by
 induction kv generalizing j with
 | nil=>simp at hj
 | cons y r ih =>
  cases j with
  | zero=>simp
  | succ j =>
   simp only[List.length_cons,Nat.add_lt_add_iff_right]at hj;simp only[List.set_cons_succ,List.eraseIdx_cons_succ];exact((ih hj).cons y).trans (List.Perm.swap _ _ _)
theorem zmg{kv:List Ent}{j:Nat}(hj:j<kv.length):kv.Perm (kv[j]::kv.eraseIdx j):=by
 have:=zks hj kv[j]
 rwa [List.set_getElem_self]at this
theorem zev{kv ents:List Ent}(hp:kv.Perm ents)(hs:Sorted ents){k:ByteArray}{j:Nat}(h:idxE kv k=some j):(kv.eraseIdx j).Perm (delE ents k):=by
 obtain⟨hj,hk⟩:=za1 h;have hg:=z7y hp hs k;rw[h]at hg;simp only[Option.map_some,List.getD_eq_getElem?_getD,List.getElem?_eq_getElem hj,Option.getD_some]at hg;have h1:=zpj hg.symm;have h2:=zmg hj;rw[show kv[j]=(k,kv[j].2)by rw[<- hk]]at h2
 exact List.Perm.cons_inv (h2.symm.trans (hp.trans h1))
structure MapT (P:Program) (t tk te:TypeId):Prop where
 und:P.underlying t=some (.map tk te)
 key:P.underlying tk=some .string
 elem:(P.info? te).map (·.zero)=some (some (.string ⟨#[]⟩))
section
variable {P:Program} {w:World} {t tk te:TypeId} (T:MapT P t tk te) {mb:Nat} {es:Array MapEntry} {clk:Nat} {ents:List Ent}
include T
theorem z3u(k:ByteArray){kv:List Ent}(h:es.toList.map (fun e=>(e.key,e.val))=kv.map (fun p=>(Value.string p.1,Value.string p.2))) :
  (Instr.findKey tk (.string k) es.toList).run P w= .ok ((idxE kv k).map fun j=>(j,Value.string ((kv.getD j default).2))) w:=by
 simp only[Instr.findKey,Sem.run_bind,run_underlying T.key,Result.andThen_ok,zbr k es.toList kv 0 h,Nat.zero_add,Sem.run_pure]
theorem z3n(b:Bool)(n:Nat)(k:ByteArray):(Instr.checkKey b (n+1) tk (.string k)).run P w= .ok () w:=by
 simp[Instr.checkKey,run_underlying T.key]
theorem z1k(hm:w.heap[mb]?=some (.map es clk))(hr:MRep es ents)(hs:Sorted ents)(k:ByteArray) :
  (Instr.lookup t (.map (some mb)) (.string k) true).run P w= .ok (.tuple #[.string ((getE ents k).getD z05),.bool (getE ents k).isSome]) w:=by
 obtain⟨kv,h1,h2⟩:=hr;have hg:=z7y h2 hs k;obtain⟨i,hi,hz⟩:=Option.map_eq_some_iff.1 T.elem;have hck:=z3n T (w:=w) es.isEmpty 9999 k;have hfk:=z3u T (w:=w) k h1;have hgo:∀ {α:Type} (f:Obj->Sem α),Sem.run P (Sem.getObj mb f) w=(f (.map es clk)).run P w:=fun f=>by simp[Sem.run,hm]
 cases h:idxE kv k with
 | none =>
  rw[h]at hg hfk;simp only[Option.map_none]at hg hfk;simp[Instr.lookup,run_underlying T.und,getObj,hgo,hck,hfk,zeroValue,typeInfo,hi,hz,<- hg,z05]
 | some j =>
  rw[h]at hg hfk;simp only[Option.map_some]at hg hfk;simp[Instr.lookup,run_underlying T.und,getObj,hgo,hck,hfk,<- hg]
def z5s(w:World)(mb:Nat)(es:Array MapEntry)(clk:Nat):World:={ w with heap:=w.heap.setIfInBounds mb (.map es clk) }
theorem zab(hm:w.heap[mb]?=some (.map es clk))(hr:MRep es ents)(hs:Sorted ents)(k v:ByteArray) :
  ∃ es' clk',(Instr.mapUpdate t (.map (some mb)) (.string k) (.string v)).run P w= .ok () (z5s w mb es' clk')/\MRep es' (putE ents k v):=by
 obtain⟨kv,h1,h2⟩:=hr;have hck:=z3n T (w:=w) false 9999 k;have hfk:=z3u T (w:=w) k h1;have hgo:∀ {α:Type} (f:Obj->Sem α),Sem.run P (Sem.getObj mb f) w=(f (.map es clk)).run P w:=fun f=>by simp[Sem.run,hm]
 have hso:∀ (o:Obj),Sem.run P (Sem.setObj mb o (.pure ())) w= .ok () { w with heap:=w.heap.setIfInBounds mb o }:=fun o=>by simp[Sem.run,hm]
 cases h:idxE kv k with
 | none =>
  rw[h]at hfk;simp only[Option.map_none]at hfk;refine⟨es.push { key:=.string k,val:=.string v,born:=clk },clk+1,?_,kv ++ [(k,v)],?_,?_⟩
  ·simp[Instr.mapUpdate,run_underlying T.und,getObj,setObj,hgo,hso,hck,hfk,z5s]
  ·simp[h1]
  ·have hn:getE ents k=none:=by rw[<- z7y h2 hs k,h];rfl
   refine List.perm_append_comm.trans ?_;exact((h2.cons (k,v)).trans (zg4 v hn).symm)
 | some j =>
  obtain⟨hj,hk⟩:=za1 h;rw[h]at hfk;simp only[Option.map_some]at hfk;have hlen:es.size=kv.length:=by simpa using congrArg List.length h1
  have hej:es[j]?=some es[j]:=Array.getElem?_eq_getElem (by omega);have hkey:es[j].key= .string k:=by
   have:=congrArg (fun l=>l[j]?) h1;simp only[List.getElem?_map,Array.getElem?_toList,hej,Option.map_some,List.getElem?_eq_getElem hj,Option.some.injEq,Prod.mk.injEq]at this;rw[this.1,hk]
  have hb:(k==k)=true:=by rw[zu5];simp
  refine⟨es.modify j fun e => { e with key:=.string k,val:=.string v },clk,?_,kv.set j (k,v),?_,?_⟩
  ·simp[Instr.mapUpdate,run_underlying T.und,getObj,setObj,hgo,hso,hck,hfk,z5s,hej,hkey,Instr.keyThatStays,Instr.sameBits,hb]
  ·apply List.ext_getElem?;intro i;have hi:=congrArg (fun l=>l[i]?) h1;simp only[List.getElem?_map,Array.getElem?_toList]at hi;simp only[List.getElem?_map,Array.getElem?_toList,Array.getElem?_modify,List.getElem?_set]
   by_cases hij:j=i
   ·subst hij;simp[hej,hj]
   ·simp[hij,hi]
  ·have hg:∃ v0,getE ents k=some v0:=⟨_,by rw[<- z7y h2 hs k,h];rfl⟩;obtain⟨v0,hv0⟩:=hg;exact(zks hj _).trans (((zev h2 hs h).cons _).trans (zi0 hs v hv0).symm)
theorem zdu(ty:TypeId)(hm:w.heap[mb]?=some (.map es clk))(hr:MRep es ents)(hs:Sorted ents)(k:ByteArray) :
  ∃ es' clk',(Builtin.delete_ #[t,tk] ty #[.map (some mb),.string k]).run P w= .ok (.tuple #[]) (z5s w mb es' clk')/\MRep es' (delE ents k):=by
 obtain⟨kv,h1,h2⟩:=hr;have hck:=z3n T (w:=w) es.isEmpty 9999 k;have hfk:=z3u T (w:=w) k h1;have hgo:∀ {α:Type} (f:Obj->Sem α),Sem.run P (Sem.getObj mb f) w=(f (.map es clk)).run P w:=fun f=>by simp[Sem.run,hm]
 have hso:∀ (o:Obj),Sem.run P (Sem.setObj mb o (.pure ())) w= .ok () { w with heap:=w.heap.setIfInBounds mb o }:=fun o=>by simp[Sem.run,hm]
 cases h:idxE kv k with
 | none =>
  rw[h]at hfk;simp only[Option.map_none]at hfk;have hn:(getE ents k).isSome=false:=by rw[<- z7y h2 hs k,h];rfl
  refine⟨es,clk,?_,kv,h1,?_⟩
  ·simp[Builtin.delete_,run_underlying T.und,getObj,setObj,hgo,hso,hck,hfk,z5s]
  ·rw[z6z hn];exact h2
 | some j =>
  obtain⟨hj,hk⟩:=za1 h;rw[h]at hfk;simp only[Option.map_some]at hfk;have hlen:es.size=kv.length:=by simpa using congrArg List.length h1
  refine⟨es.eraseIdxIfInBounds j,clk,?_,kv.eraseIdx j,?_,zev h2 hs h⟩
  ·simp[Builtin.delete_,run_underlying T.und,getObj,setObj,hgo,hso,hck,hfk,z5s]
  ·have:(es.eraseIdxIfInBounds j).toList=es.toList.eraseIdx j:=by
    unfold Array.eraseIdxIfInBounds;rw[dif_pos (by omega)];simp
   rw[this,zc8,zc8,h1]
end
def strs(l:List ByteArray):List Value:=l.map Value.string
theorem z5r(l:List ByteArray):(strs l).length=l.length:=List.length_map _
theorem zbi(l:List ByteArray):∀ u∈strs l,u.oneCell'=true:=by
 intro u hu;obtain⟨x,_,rfl⟩:=List.mem_map.1 hu;rfl
theorem zfm(l:List Blk):∀ u∈l.map Blk.val,u.oneCell'=true:=by
 intro u hu;obtain⟨x,_,rfl⟩:=List.mem_map.1 hu;rfl
theorem ztr(w:World)(g c:Nat)(xs:List ByteArray)(vb:Nat)(x:ByteArray)(i:Nat)(hi:i<=xs.length)
  (ho:Own w 9 1 (.slice (some ⟨g,0,none⟩) xs.length c) xs.length (strs xs))
  (hv:w.heap[vb]?=some (.cells #[.string x] 9 (0,0))) (hvg:vb≠g) (hb:xs.length<1099511627776) :
  Calls Tryz.prog 239 #[.slice (some ⟨g,0,none⟩) xs.length c,.int .i64 i,.slice (some ⟨vb,0,none⟩) 1 1] w (zaw w 9 g i (.string x) (strs xs)):=by
 rcases ho.2 with⟨h,_⟩ | ⟨g',c',cur,h,hg,hnc,hcm,hcs,hx⟩
 ·cases h
 ·cases h;rw[Nat.mul_one]at hcs hx;rcases Nat.eq_or_lt_of_le hi with rfl | hi
  ·exact zrd w g c cur (strs xs) vb (.string x) xs.length (z5r xs).symm hg hnc hcm hcs hx hv rfl hb
  ·by_cases hr:xs.length+1<=c
   ·exact zly w g c cur (strs xs) vb (.string x) xs.length i (z5r xs).symm hi hg hnc hcm hcs hx hr hv hvg rfl (zbi xs) hb
   ·exact zoe w g c cur (strs xs) vb (.string x) xs.length i (z5r xs).symm hi hg hnc hcm hcs hx (by omega) hv rfl (zbi xs) hb
theorem zta(w:World)(g c:Nat)(xs:List Blk)(vb:Nat)(x:Value)(i:Nat)(hi:i<=xs.length)
  (ho:Own w 220 1 (.slice (some ⟨g,0,none⟩) xs.length c) xs.length (xs.map Blk.val))
  (hv:w.heap[vb]?=some (.cells #[x] 220 (0,0))) (hvg:vb≠g) (hx1:x.oneCell'=true) (hb:xs.length<1099511627776) :
  Calls Tryz.prog 240 #[.slice (some ⟨g,0,none⟩) xs.length c,.int .i64 i,.slice (some ⟨vb,0,none⟩) 1 1] w (zaw w 220 g i x (xs.map Blk.val)):=by
 have hl:xs.length=(xs.map Blk.val).length:=by simp
 rcases ho.2 with⟨h,_⟩ | ⟨g',c',cur,h,hg,hnc,hcm,hcs,hx⟩
 ·cases h
 ·cases h;rw[Nat.mul_one]at hcs hx;rcases Nat.eq_or_lt_of_le hi with rfl | hi
  ·exact zrb w g c cur (xs.map Blk.val) vb x xs.length hl hg hnc hcm hcs hx hv hx1 hb
  ·by_cases hr:xs.length+1<=c
   ·exact zm2 w g c cur (xs.map Blk.val) vb x xs.length i hl hi hg hnc hcm hcs hx hr hv hvg hx1 (zfm xs) hb
   ·exact zp2 w g c cur (xs.map Blk.val) vb x xs.length i hl hi hg hnc hcm hcs hx (by omega) hv hx1 (zfm xs) hb
structure zcg (w:World) (e:TypeId) (xs:List Value) (v':Value) (w':World):Prop where
 own:Own w' e 1 v' xs.length xs
 fr:Fr (fun _=>False) w w'
 block:∀ k,v'.ownBlock=some k->w.heap.size<=k
def zt8(w:World)(e:TypeId)(xs:List Value)(en:Ending)(w':World):Prop:=∃ v',en= .returned v'/\zcg w e xs v' w'
theorem zml(w:World)(a:Addr)(c:Nat)(xs:List ByteArray)
  (hc:∀ j u,(strs xs)[j]?=some u->w.cell? (a.add j)=some u) (hb:xs.length<1099511627776) :
  Calls Tryz.prog 241 #[.slice (some a) xs.length c] w (zt8 w 9 (strs xs)):=by
 have hown:Own (w.alloc (.cells #[] 9)) 9 1 (.slice (some ⟨w.heap.size,0,none⟩) 0 0) 0 []:=
  ⟨rfl,.inr ⟨w.heap.size,0,#[],rfl,heap_alloc_new w _,Nat.le_refl _,Nat.zero_le _,Nat.zero_le _,rfl⟩⟩
 have hc':∀ j u,(strs xs)[j]?=some u->(w.alloc (.cells #[] 9)).cell? (a.add j)=some u:=fun j u hj=>by
  have h1:=hc j u hj;rw[World.cell?_of_block (heap_alloc_old w _ (World.block_lt_of_cell? w _ h1))];exact h1
 have hmx:0+xs.length<=maxLen:=by unfold maxLen;omega
 have HL:=zh (z5r xs);obtain⟨n,hn⟩:∃ n,xs.length=n:=⟨_,rfl⟩;rw[hn]at hmx HL hb ⊢;clear hc hn;have hsn:=fun (w:World)=>Lib.run_eql_slice_nil (P:=Tryz.prog) w 220 9 (some a) n c 0 0 zaj.und
 go_enter Tryz.func241,Tryz.ntmps241;go_wp2_with (at_builtin;refine z08 rfl _ _ 220 220 rfl zaj zaj _ 0 [] rfl hown _ n _ (strs xs) rfl (by rw[HL.out];omega) hc' (zbi xs) hmx (by omega) ?_);intro v' w' hA;go_wp2;go_ret;have hO:=hA.own;refine⟨_,rfl,?_,?_,?_⟩
 ·rw[HL.out];simpa using hO
 ·exact((Fr.refl _ w).alloc _).grown hA.grown (fun k hk=>by simp[Value.ownBlock]at hk;exact .inl (by omega))
 ·intro k hk;rcases hA.block k hk with h | h
  ·simp[Value.ownBlock]at h;omega
  ·simp at h;omega
def Blk.At(w:World)(x:Blk):Prop:=x.keys≠[]/\Own w 9 1 x.val x.keys.length (strs x.keys)
def kids(bv:Value)(bs:List Blk):List Nat:=bv.ownBlock.toList++bs.map Blk.g
structure KRep (w:World) (bv:Value) (bs:List Blk):Prop where
 row:Own w 220 1 bv bs.length (bs.map Blk.val)
 rows:∀ x∈bs,x.At w
 srt:z1p (z01 bs)
 nd:(kids bv bs).Nodup
theorem Blk.At.lt{w:World}{x:Blk}(h:x.At w):x.g<w.heap.size:=h.2.lt x.g rfl
theorem KRep.lt{w:World}{bv:Value}{bs:List Blk}(h:KRep w bv bs):∀ k∈kids bv bs,k<w.heap.size:=by
 intro k hk;rcases List.mem_append.1 hk with hk | hk
 ·exact h.row.lt k (by simpa using hk)
 ·obtain⟨x,hx,rfl⟩:=List.mem_map.1 hk;exact(h.rows x hx).lt
theorem Blk.At.frame{w w':World}{x:Blk}(h:x.At w)(hb:w'.heap[x.g]?=w.heap[x.g]?):x.At w':=
 ⟨h.1,h.2.frame fun k hk=>by simp[Blk.val,Value.ownBlock]at hk;subst hk;exact hb⟩
theorem KRep.frame{w w':World}{bv:Value}{bs:List Blk}(h:KRep w bv bs)(hb:∀ k∈kids bv bs,w'.heap[k]?=w.heap[k]?):KRep w' bv bs:=
 ⟨h.row.frame fun k hk=>hb k (by simp[kids,hk]),fun x hx=>(h.rows x hx).frame (hb _ (List.mem_append.2 (.inr (List.mem_map.2 ⟨x,hx,rfl⟩)))),h.srt,h.nd⟩
theorem KRep.ne{w:World}{bv:Value}{bs:List Blk}(h:KRep w bv bs):∀ x∈bs,x.keys≠[]:=fun x hx=>(h.rows x hx).1
theorem KRep.lasts{w:World}{g c:Nat}{bs:List Blk}(h:KRep w (.slice (some ⟨g,0,none⟩) bs.length c) bs)(hb:(z01 bs).length<1099511627776):ziv w g bs:=by
 have hc:=h.row.cells (g:=g) rfl;refine⟨fun j hj => ?_,fun j hj => ?_⟩
 ·have:=hc j bs[j].val (by simp[List.getElem?_eq_getElem hj])
  rwa [Addr.add_lit,Nat.zero_add]at this
 ·have hx:=h.rows _ (List.getElem_mem hj);have hl:=z6s (List.getElem_mem hj);obtain⟨n,hn⟩:∃ n,bs[j].keys.length=n+1:=⟨bs[j].keys.length-1,by have:=List.length_pos_iff.2 hx.1;omega⟩;refine⟨n,hn,by omega,?_⟩;have:=hx.2.cells (g:=bs[j].g) rfl n (.string bs[j].last) (by simp[strs,Blk.znc hn])
  rwa [Addr.add_lit,Nat.zero_add]at this
theorem Own.setCell{w:World}{e:TypeId}{g n c:Nat}{xs:List Value}(h:Own w e 1 (.slice (some ⟨g,0,none⟩) n c) n xs)(i:Nat)(u:Value):Own (w.setCell ⟨g,i,none⟩ u) e 1 (.slice (some ⟨g,0,none⟩) n c) n (xs.set i u):=by
 refine⟨by simpa using h.1,?_⟩;rcases h.2 with⟨h1,_⟩ | ⟨g',c',cur,h1,hg,hnc,hcm,hcs,hx⟩
 ·cases h1
 ·cases h1;refine .inr ⟨g,c,cur.setIfInBounds i u,rfl,?_,hnc,hcm,by simpa using hcs,?_⟩
  ·rw[setCell_eq_setRow w g i cur e (0,0) u hg];exact setRow_heap w g cur _ e _ hg
  ·rw[<- hx,Array.toList_setIfInBounds];exact List.take_set
theorem Own.inv{w:World}{e:TypeId}{v:Value}{n:Nat}{xs:List Value}(h:Own w e 1 v n xs)(hn:0<n):∃ g c,v= .slice (some ⟨g,0,none⟩) n c:=by
 rcases h.2 with⟨_,h1⟩ | ⟨g,c,cur,h1,_⟩
 ·omega
 ·exact⟨g,c,h1⟩
theorem Own.cut{w:World}{e:TypeId}{g n c:Nat}{xs:List Value}(h:Own w e 1 (.slice (some ⟨g,0,none⟩) n c) n xs)(k:Nat)(hk:k<=n):Own w e 1 (.slice (some ⟨g,0,none⟩) k k) k (xs.take k):=by
 rcases h.2 with⟨h1,_⟩ | ⟨g',c',cur,h1,hg,hnc,hcm,hcs,hx⟩
 ·cases h1
 ·cases h1;have hl:=h.1;refine⟨by simp;omega,.inr ⟨g,k,cur,rfl,hg,Nat.le_refl _,by omega,by omega,?_⟩⟩;rw[<- hx,List.take_take];congr 1;omega
theorem zet{w:World}{e:TypeId}{size g n c:Nat}{xs:List Value}(h:Own w e size (.slice (some ⟨g,0,none⟩) n c) n xs)(i:Nat):w.frozen? ⟨g,i,none⟩=false:=by
 rcases h.2 with⟨h1,_⟩ | ⟨g',c',cur,h1,hg,hnc,hcm,hcs,hx⟩
 ·cases h1
 ·cases h1;exact frozen_of_row w g i cur e hg
def z1e(m:Bool)(mv bv pv:Value):Obj:=.cells #[.bool m,mv,bv,pv] 93 (0,0)
theorem zcd{w:World}{b:Nat}{m:Bool}{mv bv pv:Value}(h:w.heap[b]?=some (z1e m mv bv pv))(v:Value):(w.setCell ⟨b,2,none⟩ v).heap[b]?=some (z1e m mv v pv):=by
 rw[setCell_eq_setRow w b 2 _ _ _ v h];exact setRow_heap w b _ _ _ _ h
theorem zhh{w:World}{b:Nat}{m:Bool}{mv bv pv:Value}(h:w.heap[b]?=some (z1e m mv bv pv))(v:Value):(w.setCell ⟨b,3,none⟩ v).heap[b]?=some (z1e m mv bv v):=by
 rw[setCell_eq_setRow w b 3 _ _ _ v h];exact setRow_heap w b _ _ _ _ h
theorem z0q{w:World}{b:Nat}{m:Bool}{mv bv pv:Value}(h:w.heap[b]?=some (z1e m mv bv pv)) :
  w.cell? ⟨b,0,none⟩=some (.bool m)/\w.cell? ⟨b,1,none⟩=some mv/\w.cell? ⟨b,2,none⟩=some bv/\w.cell? ⟨b,3,none⟩=some pv/\∀ j,w.frozen? ⟨b,j,none⟩=false:=by
 refine⟨?_,?_,?_,?_,fun j=>frozen_of_row w b j _ _ h⟩
 all_goals rw[cell_of_row w b _ _ _ _ h];rfl
structure Keyed (w:World) (b:Nat) (bv:Value) (bs:List Blk) (mv pv:Value) (ks:List ByteArray) (w':World):Prop where
 ex:∃ bv' bs',w'.heap[b]?=some (z1e true mv bv' pv)/\KRep w' bv' bs'/\z01 bs'=ks/\(∀ k∈kids bv' bs',k∈kids bv bs\/w.heap.size<=k)
 fr:Fr (fun k=>k=b\/k∈kids bv bs) w w'
def z9g(w:World)(b:Nat)(bv:Value)(bs:List Blk)(mv pv:Value)(ks:List ByteArray)(e:Ending)(w':World):Prop:=e= .returned (.tuple #[])/\Keyed w b bv bs mv pv ks w'
theorem zjg(w:World)(b:Nat)(bv mv pv:Value)(k:ByteArray)(hh:w.heap[b]?=some (z1e true mv bv pv))(hK:KRep w bv []) :
  Calls Tryz.prog 206 #[.pointer (some ⟨b,0,none⟩),.string k] w (z9g w b bv [] mv pv [k]):=by
 have hbw:=z02 hh;obtain⟨_,_,hb2,_,hfz⟩:=z0q hh;have hfz2:=hfz 2;obtain⟨a,c,hbv⟩:∃ a c,bv= .slice a 0 c:=by
  rcases hK.row.2 with⟨h1,_⟩ | ⟨g,c,cur,h1,_⟩
  ·exact⟨none,0,h1⟩
  ·exact⟨_,_,h1⟩
 have HH:=zh hh;have HK:=zh hK;have HB:=zh hbv;rw[hbv]at hb2;clear hh hK hbv hfz;go_enter Tryz.func206,Tryz.ntmps206;go_wp2
 go_returns
 have h1:=zcd HH.out (.slice (some ⟨w.heap.size+1,0,none⟩) 1 1);have hF:Fr (fun j=>j=b\/j∈kids bv []) w (w.setCell ⟨b,2,none⟩ (.slice (some ⟨w.heap.size+1,0,none⟩) 1 1)):=(Fr.refl _ w).setCell _ _ (.inr (.inl rfl));have hs:(w.setCell ⟨b,2,none⟩ (.slice (some ⟨w.heap.size+1,0,none⟩) 1 1)).heap.size=w.heap.size:=by simp
 generalize hw1:w.setCell ⟨b,2,none⟩ (.slice (some ⟨w.heap.size+1,0,none⟩) 1 1)=w1 at *
 have hbw1:=z02 h1;simp only[<- hs]at h1 ⊢;refine⟨rfl,⟨⟨.slice (some ⟨w1.heap.size+1,0,none⟩) 1 1,[⟨w1.heap.size,1,[k]⟩],?_,⟨?_,?_,?_,?_⟩,rfl,?_⟩,?_⟩⟩
 ·rw[heap_alloc_old (w1.alloc _) _ (by simp;omega),heap_alloc_old w1 _ hbw1];exact h1
 ·exact Own.whole (xs:=[.slice (some ⟨w1.heap.size,0,none⟩) 1 1]) rfl (heap_alloc2_new w1 _ _) (by decide)
 ·intro x hx;rw[List.mem_singleton.1 hx];exact⟨by simp,Own.whole (xs:=[.string k]) rfl (heap_alloc2_old w1 _ _) (by show 1<=maxLen;decide)⟩
 ·simp[z01,z1p]
 ·simp[kids,Value.ownBlock]
 ·intro j hj;simp[kids,Value.ownBlock]at hj
  right;omega
 ·exact(hF.alloc _).alloc _
end Go.Proofs.YtnkilceibkkjlaaGreat
