/- What is proved here: what a withdrawal that is added leaves: the states on the way, and that they lea -/
import Derived.Test.YtnkilceibkkjlaaGreatGExG
import Derived.Test.YtnkilceibkkjlaaGreatGExHat
import Derived.Test.YtnkilceibkkjlaaGreatGRCell
import Derived.Test.YtnkilceibkkjlaaGreatGRHistP
set_option maxRecDepth 100000
set_option maxHeartbeats 16000000
namespace Go.Proofs.YtnkilceibkkjlaaGreat
open Go.RowKit
theorem z4f(b:Nat)(a:W4):ptB b a≠z0d:=fun h=>by
 have h1:=congrArg ByteArray.size h
 unfold ptB at h1
 rw[ByteArray.size_append]at h1
 have h8:(numB b).size=8:=rfl
 have h0:z0d.size=0:=rfl
 rw[h8,h0]at h1
 omega
theorem z5l(s:St){k v:ByteArray}(hk:k≠z0d)(hv:v≠z0d):s.set k v=s.put k v:=by
 unfold St.put;rw[if_neg hv,if_neg hk]
theorem Und.z7a{s s':St}(h:Und s s'/\Sorted s'.ents)(k v:ByteArray):Und s (s'.put k v)/\Sorted (s'.put k v).ents:=⟨h.1.put h.2 k v,z6o h.2 k v⟩
theorem zka{s:St}(hs:Sorted s.ents)(t:Nat){l:List Int}(hpos:∀ x∈l,0<=x)(b:Nat)(a:W4):Und s (s.hnew t l b a)/\Sorted (s.hnew t l b a).ents:=by
 unfold St.hnew;rw[z5l _ (kpos t hpos (by omega)) (z4f _ _)];exact Und.z7a (Und.z7a ⟨Und.refl s,hs⟩ _ _) _ _
theorem zx3{s:St}(hs:Sorted s.ents)(t:Nat){l:List Int}(hpos:∀ x∈l,0<=x)(b:Nat)(a:W4):Und s (z6x s t l b a)/\Sorted (z6x s t l b a).ents:=by
 unfold z6x;split
 ·split
  ·exact⟨Und.refl s,hs⟩
  ·split
   ·rename_i h0 _ _;rw[z5l _ (kpos t hpos (by omega)) (z4f _ _)];exact Und.z7a ⟨Und.refl s,hs⟩ _ _
   ·split
    ·exact⟨Und.refl s,hs⟩
    ·exact zka hs t hpos b a
 ·exact zka hs t hpos b a
theorem zu8{s:St}{t:Nat}{l:List Int}{b:Nat}{a:W4}(h:hpuE s t l b≠0):z6x s t l b a=s:=by
 unfold hpuE at h;split at h
 ·rename_i h1;unfold z6x;rw[if_pos h1.1,if_pos h1.2]
 ·exact absurd rfl h
theorem znd{s:St}{f:Nat}(hf:s.Fit f)(t:Nat)(l:List Int)(b:Nat)(a:W4):(z6x s t l b a).Fit (f+4):=by
 have h40:∀ b a,(ptB b a).size<=1000000:=fun b a=>by
  unfold ptB;rw[ByteArray.size_append,show(numB b).size=8 from rfl,show(amtB a).size=32 by show(amtL a).toArray.size=32;simp[amtL]]
  omega
 have hn:(s.hnew t l b a).Fit (f+4):=(hf.z0m _ _).set _ (h40 _ _);unfold z6x;split
 ·split
  ·exact hf.mono (by omega)
  ·split
   ·exact(hf.set _ (h40 _ _)).mono (by omega)
   ·split
    ·exact hf.mono (by omega)
    ·exact hn
 ·exact hn
theorem Ex.z4v{x:Ex}(h:x.good=true):1<=x.st/\1<=x.sg/\0<=x.op/\0<=x.bl/\x.bl<=1099511627776/\uN x.wo<M128/\uCmp x.mx oneW<=0:=by
 unfold Ex.good at h;simp only[Bool.and_eq_true,decide_eq_true_eq]at h;exact h
theorem zki{s:St}(hs:Sorted s.ents){x:Ex}(hop:0<=x.op)(hsg:0<=x.sg):Und s (z1w s x)/\Sorted (z1w s x).ents:=by
 unfold z1w;split
 ·exact⟨Und.refl s,hs⟩
 ·split
  ·refine zx3 hs _ (fun y hy => ?_) _ _;simp only[List.mem_cons,List.not_mem_nil,or_false]at hy;rcases hy with rfl | rfl
   ·exact hop
   ·exact hsg
  ·exact⟨Und.refl s,hs⟩
theorem zrp{s:St}{x:Ex}(h:z3n s x≠0):z1w s x=s:=by
 unfold z3n at h;unfold z1w
 by_cases h0:x.op=0
 ·rw[if_pos h0]
 ·rw[if_neg h0]at h ⊢
  by_cases h1:z3m (s.hlast 16 [x.op,x.sg]) (sdW x.wo x.mx)=0
  ·rw[if_pos h1]at h ⊢;exact zu8 h
  ·rw[if_neg h1]
theorem z8d{s:St}{f:Nat}(hf:s.Fit f)(x:Ex):(z1w s x).Fit (f+4):=by
 unfold z1w;split
 ·exact hf.mono (by omega)
 ·split
  ·exact znd hf _ _ _ _
  ·exact hf.mono (by omega)
def Hand.ad2(h:Hand)(s:St)(x:Ex):St:=h.z5s (z1w s x) (keyL 19 [x.sg]) x.wo
def Hand.adN(h:Hand)(s:St)(x:Ex):Int:=(((h.ad2 s x).int (keyL 14 []):Nat):Int)+1
def Hand.ad3(h:Hand)(s:St)(x:Ex):St:=(h.ad2 s x).z0m (keyL 14 []) (h.adN s x)
def Hand.ad4(h:Hand)(s:St)(x:Ex):St:=(h.ad3 s x).put (keyL 15 [h.adN s x]) (rowB [x.st,x.op,x.sg,x.bl])
def Hand.ad5(h:Hand)(s:St)(x:Ex):St:=(h.ad4 s x).z15 (keyL 17 [h.adN s x]) x.wo
def Hand.ad6(h:Hand)(s:St)(x:Ex):St:=(h.ad5 s x).z15 (keyL 18 [h.adN s x]) x.mx
def Hand.ad7(h:Hand)(s:St)(x:Ex):St:=(h.ad6 s x).z0m (keyL 20 [x.st]) ((((h.ad6 s x).int (keyL 20 [x.st]):Nat):Int)+1)
def xadE(s:St)(x:Ex):Int:=if x.good=false then 2 else if 16<=s.int (keyL 20 [x.st])then 7 else if z3n s x=0 then z2j ((z1w s x).amt (keyL 19 [x.sg])) x.wo else z3n s x
def Hand.xadN(h:Hand)(s:St)(x:Ex):Int:=if xadE s x=0 then h.adN s x else 0
def Hand.z4o(h:Hand)(s:St)(x:Ex):St:=if xadE s x=0 then h.ad7 s x else s
theorem zjr{h:Hand}{s:St}{x:Ex}(hg:x.good=false):xadE s x=2/\h.xadN s x=0/\h.z4o s x=s:=by
 have he:xadE s x=2:=by unfold xadE;rw[if_pos hg]
 unfold Hand.xadN Hand.z4o;rw[he,if_neg (by decide),if_neg (by decide)];exact⟨rfl,rfl,rfl⟩
theorem zkd{h:Hand}{s:St}{x:Ex}(hg:x.good=true)(hn:16<=s.int (keyL 20 [x.st])):xadE s x=7/\h.xadN s x=0/\h.z4o s x=s:=by
 have he:xadE s x=7:=by unfold xadE;rw[if_neg (by rw[hg];decide),if_pos hn]
 unfold Hand.xadN Hand.z4o;rw[he,if_neg (by decide),if_neg (by decide)];exact⟨rfl,rfl,rfl⟩
theorem zt7{h:Hand}{s:St}{x:Ex}(hg:x.good=true)(hn:¬ 16<=s.int (keyL 20 [x.st]))(h1:z3n s x≠0):xadE s x=z3n s x/\h.xadN s x=0/\h.z4o s x=s:=by
 have he:xadE s x=z3n s x:=by unfold xadE;rw[if_neg (by rw[hg];decide),if_neg hn,if_neg h1]
 unfold Hand.xadN Hand.z4o;rw[he,if_neg h1,if_neg h1];exact⟨rfl,rfl,rfl⟩
theorem zsy{h:Hand}{s:St}{x:Ex}(hg:x.good=true)(hn:¬ 16<=s.int (keyL 20 [x.st]))(h1:z3n s x=0){m:Int}(hm:z2j ((z1w s x).amt (keyL 19 [x.sg])) x.wo=m)(h2:m≠0):xadE s x=m/\h.xadN s x=0/\h.z4o s x=s:=by
 have he:xadE s x=m:=by unfold xadE;rw[if_neg (by rw[hg];decide),if_neg hn,if_pos h1,hm]
 unfold Hand.xadN Hand.z4o;rw[he,if_neg h2,if_neg h2];exact⟨rfl,rfl,rfl⟩
theorem zzh{h:Hand}{s:St}{x:Ex}(hg:x.good=true)(hn:¬ 16<=s.int (keyL 20 [x.st]))(h1:z3n s x=0)(hm:z2j ((z1w s x).amt (keyL 19 [x.sg])) x.wo=0):xadE s x=0/\h.xadN s x=h.adN s x/\h.z4o s x=h.ad7 s x:=by
 have he:xadE s x=0:=by unfold xadE;rw[if_neg (by rw[hg];decide),if_neg hn,if_pos h1,hm]
 unfold Hand.xadN Hand.z4o;rw[he,if_pos rfl,if_pos rfl];exact⟨rfl,rfl,rfl⟩
theorem zs8{h:Hand}{s:St}{x:Ex}(hs:Sorted s.ents)(hon:h.on=true)(hg:x.good=true)(hm:z2j ((z1w s x).amt (keyL 19 [x.sg])) x.wo≠0):h.st (h.ad2 s x) ((h.ad2 s x).undo s.past.length)=s/\s.past.length<=(h.ad2 s x).past.length:=by
 obtain⟨_,g2,g3,_⟩:=Ex.z4v hg;have hU:=(zki hs g3 (Int.le_trans (by decide) g2)).1;unfold Hand.ad2 Hand.z5s Hand.st;rw[if_neg hm,if_pos hon];exact⟨hU.2,hU.1⟩
theorem Hand.znr{h:Hand}{s:St}{f:Nat}(hf:s.Fit f)(x:Ex):(h.ad2 s x).Fit (f+6):=by
 unfold Hand.ad2 Hand.z5s;split
 ·exact Hand.zhe ((z8d hf x).mono (by omega)) ((z8d hf x).z15 _ _)
 ·exact(z8d hf x).mono (by omega)
theorem zhw(a b c d:Int):(rowB [a,b,c,d]).size<=1000000:=by
 show(z4h [a,b,c,d]).toArray.size<=_
 have h8:∀ n,(be8 n).length=8:=fun n=>rfl
 simp[z4h,h8]
theorem Hand.zqe{h:Hand}{s:St}{f:Nat}(hf:s.Fit f)(x:Ex):(h.ad3 s x).Fit (f+8):=(Hand.znr hf x).z0m _ _
theorem Hand.zpm{h:Hand}{s:St}{f:Nat}(hf:s.Fit f)(x:Ex):(h.ad4 s x).Fit (f+10):=(Hand.zqe hf x).put _ (zhw _ _ _ _)
theorem Hand.zoi{h:Hand}{s:St}{f:Nat}(hf:s.Fit f)(x:Ex):(h.ad5 s x).Fit (f+12):=(Hand.zpm hf x).z15 _ _
theorem Hand.zpl{h:Hand}{s:St}{f:Nat}(hf:s.Fit f)(x:Ex):(h.ad6 s x).Fit (f+14):=(Hand.zoi hf x).z15 _ _
theorem Hand.zht{h:Hand}{s:St}{f:Nat}(hf:s.Fit f)(x:Ex):(h.z4o s x).Fit (f+16):=by
 unfold Hand.z4o;split
 ·exact(Hand.zpl hf x).z0m _ _
 ·exact hf.mono (by omega)
theorem zhp{s:St}(hs:Sorted s.ents)(t:Nat){l:List Int}(hpos:∀ x∈l,0<=x)(b:Nat)(a:W4):Und s (s.zb8 t l b a)/\Sorted (s.zb8 t l b a).ents:=by
 unfold St.zb8;rw[z5l _ (kpos t hpos (by omega)) (z4f _ _)];exact Und.z7a (Und.z7a ⟨Und.refl s,hs⟩ _ _) _ _
theorem ztc{s:St}(hs:Sorted s.ents)(t:Nat){l:List Int}(hpos:∀ x∈l,0<=x)(b:Nat)(a:W4):Und s (z4x s t l b a)/\Sorted (z4x s t l b a).ents:=by
 unfold z4x;split
 ·split
  ·exact⟨Und.refl s,hs⟩
  ·split
   ·rename_i h0 _ _;rw[z5l _ (kpos t hpos (by omega)) (z4f _ _)];exact Und.z7a ⟨Und.refl s,hs⟩ _ _
   ·split
    ·exact⟨Und.refl s,hs⟩
    ·exact zhp hs t hpos b a
 ·exact zhp hs t hpos b a
theorem zrk{s:St}{t:Nat}{l:List Int}{b:Nat}{a:W4}(h:hpuE s t l b≠0):z4x s t l b a=s:=by
 unfold hpuE at h;split at h
 ·rename_i h1;unfold z4x;rw[if_pos h1.1,if_pos h1.2]
 ·exact absurd rfl h
theorem zkq(b:Nat)(a:W4):(ptB b a).size<=1000000:=by
 unfold ptB;rw[ByteArray.size_append,show(numB b).size=8 from rfl,show(amtB a).size=32 by show(amtL a).toArray.size=32;simp[amtL]]
 omega
theorem zm0{s:St}{f:Nat}(hf:s.Fit f)(t:Nat)(l:List Int)(b:Nat)(a:W4):(z4x s t l b a).Fit (f+4):=by
 have hn:(s.zb8 t l b a).Fit (f+4):=(hf.set _ (zkq _ _)).z0m _ _;unfold z4x;split
 ·split
  ·exact hf.mono (by omega)
  ·split
   ·exact(hf.set _ (zkq _ _)).mono (by omega)
   ·split
    ·exact hf.mono (by omega)
    ·exact hn
 ·exact hn
def z2f(s:St)(x:Ex):St:=if x.op=0 then s else if z3m (s.hlast 16 [x.op,x.sg]) (sdW x.wo x.mx)=0 then z4x s 16 [x.op,x.sg] x.bl.toNat (z4s (s.hlast 16 [x.op,x.sg]) (sdW x.wo x.mx))else s
theorem zp0{s:St}(hs:Sorted s.ents){x:Ex}(hop:0<=x.op)(hsg:0<=x.sg):Und s (z2f s x)/\Sorted (z2f s x).ents:=by
 unfold z2f;split
 ·exact⟨Und.refl s,hs⟩
 ·split
  ·refine ztc hs _ (fun y hy => ?_) _ _;simp only[List.mem_cons,List.not_mem_nil,or_false]at hy;rcases hy with rfl | rfl
   ·exact hop
   ·exact hsg
  ·exact⟨Und.refl s,hs⟩
theorem zmp{s:St}{x:Ex}(h:z3n s x≠0):z2f s x=s:=by
 unfold z3n at h;unfold z2f
 by_cases h0:x.op=0
 ·rw[if_pos h0]
 ·rw[if_neg h0]at h ⊢
  by_cases h1:z3m (s.hlast 16 [x.op,x.sg]) (sdW x.wo x.mx)=0
  ·rw[if_pos h1]at h ⊢;exact zrk h
  ·rw[if_neg h1]
theorem z6w{s:St}{f:Nat}(hf:s.Fit f)(x:Ex):(z2f s x).Fit (f+4):=by
 unfold z2f;split
 ·exact hf.mono (by omega)
 ·split
  ·exact zm0 hf _ _ _ _
  ·exact hf.mono (by omega)
def rad2(s:St)(x:Ex):St:=H1.z5s (z2f s x) (keyL 19 [x.sg]) x.wo
def radN(s:St)(x:Ex):Int:=(((rad2 s x).int (keyL 14 []):Nat):Int)+1
def rad3(s:St)(x:Ex):St:=(rad2 s x).z0m (keyL 14 []) (radN s x)
def rad4(s:St)(x:Ex):St:=(rad3 s x).put (keyL 15 [radN s x]) (rowB [x.st,x.op,x.sg,x.bl])
def rad5(s:St)(x:Ex):St:=(rad4 s x).z15 (keyL 17 [radN s x]) x.wo
def rad6(s:St)(x:Ex):St:=(rad5 s x).z15 (keyL 18 [radN s x]) x.mx
def rad7(s:St)(x:Ex):St:=(rad6 s x).z0m (keyL 20 [x.st]) ((((rad6 s x).int (keyL 20 [x.st]):Nat):Int)+1)
def z5r(s:St)(x:Ex):Int:=if x.good=false then 2 else if 16<=s.int (keyL 20 [x.st])then 7 else if z3n s x=0 then z2j ((z2f s x).amt (keyL 19 [x.sg])) x.wo else z3n s x
def z9s(s:St)(x:Ex):Int:=if z5r s x=0 then radN s x else 0
def z3j(s:St)(x:Ex):St:=if z5r s x=0 then rad7 s x else s
theorem zlc{s:St}{x:Ex}(hg:x.good=false):z5r s x=2/\z9s s x=0/\z3j s x=s:=by
 have he:z5r s x=2:=by unfold z5r;rw[if_pos hg]
 unfold z9s z3j;rw[he,if_neg (by decide),if_neg (by decide)];exact⟨rfl,rfl,rfl⟩
theorem zr3{s:St}{x:Ex}(hg:x.good=true)(hn:16<=s.int (keyL 20 [x.st])):z5r s x=7/\z9s s x=0/\z3j s x=s:=by
 have he:z5r s x=7:=by unfold z5r;rw[if_neg (by rw[hg];decide),if_pos hn]
 unfold z9s z3j;rw[he,if_neg (by decide),if_neg (by decide)];exact⟨rfl,rfl,rfl⟩
theorem znx{s:St}{x:Ex}(hg:x.good=true)(hn:¬ 16<=s.int (keyL 20 [x.st]))(h1:z3n s x≠0):z5r s x=z3n s x/\z9s s x=0/\z3j s x=s:=by
 have he:z5r s x=z3n s x:=by unfold z5r;rw[if_neg (by rw[hg];decide),if_neg hn,if_neg h1]
 unfold z9s z3j;rw[he,if_neg h1,if_neg h1];exact⟨rfl,rfl,rfl⟩
theorem zqj{s:St}{x:Ex}(hg:x.good=true)(hn:¬ 16<=s.int (keyL 20 [x.st]))(h1:z3n s x=0){m:Int}(hm:z2j ((z2f s x).amt (keyL 19 [x.sg])) x.wo=m)(h2:m≠0):z5r s x=m/\z9s s x=0/\z3j s x=s:=by
 have he:z5r s x=m:=by unfold z5r;rw[if_neg (by rw[hg];decide),if_neg hn,if_pos h1,hm]
 unfold z9s z3j;rw[he,if_neg h2,if_neg h2];exact⟨rfl,rfl,rfl⟩
theorem zwv{s:St}{x:Ex}(hg:x.good=true)(hn:¬ 16<=s.int (keyL 20 [x.st]))(h1:z3n s x=0)(hm:z2j ((z2f s x).amt (keyL 19 [x.sg])) x.wo=0):z5r s x=0/\z9s s x=radN s x/\z3j s x=rad7 s x:=by
 have he:z5r s x=0:=by unfold z5r;rw[if_neg (by rw[hg];decide),if_neg hn,if_pos h1,hm]
 unfold z9s z3j;rw[he,if_pos rfl,if_pos rfl];exact⟨rfl,rfl,rfl⟩
theorem zqd{s:St}{x:Ex}(hs:Sorted s.ents)(hg:x.good=true)(hm:z2j ((z2f s x).amt (keyL 19 [x.sg])) x.wo≠0):(rad2 s x).undo s.past.length=s/\s.past.length<=(rad2 s x).past.length:=by
 obtain⟨_,g2,g3,_⟩:=Ex.z4v hg;have hU:=(zp0 hs g3 (Int.le_trans (by decide) g2)).1;unfold rad2 Hand.z5s;rw[if_neg hm];exact⟨hU.2,hU.1⟩
theorem zlb{s:St}{f:Nat}(hf:s.Fit f)(x:Ex):(rad2 s x).Fit (f+6):=by
 unfold rad2 Hand.z5s;split
 ·exact Hand.zhe ((z6w hf x).mono (by omega)) ((z6w hf x).z15 _ _)
 ·exact(z6w hf x).mono (by omega)
theorem zkx{s:St}{f:Nat}(hf:s.Fit f)(x:Ex):(rad3 s x).Fit (f+8):=(zlb hf x).z0m _ _
theorem zl3{s:St}{f:Nat}(hf:s.Fit f)(x:Ex):(rad4 s x).Fit (f+10):=(zkx hf x).put _ (zhw _ _ _ _)
theorem zle{s:St}{f:Nat}(hf:s.Fit f)(x:Ex):(rad5 s x).Fit (f+12):=(zl3 hf x).z15 _ _
theorem zkj{s:St}{f:Nat}(hf:s.Fit f)(x:Ex):(rad6 s x).Fit (f+14):=(zle hf x).z15 _ _
theorem zlw{s:St}{f:Nat}(hf:s.Fit f)(x:Ex):(z3j s x).Fit (f+16):=by
 unfold z3j;split
 ·exact(zkj hf x).z0m _ _
 ·exact hf.mono (by omega)
end Go.Proofs.YtnkilceibkkjlaaGreat
