/- What is proved here: what the comparing functions of stri -/
import Derived.Test.YtnkilceibkkjlaaGreatKBase
import Derived.Lib.Bytealg
import Derived.Lib.Split
import Derived.Lib.AppendZerosOnto
import Derived.Lib.Overlaps
set_option maxRecDepth 100000
set_option maxHeartbeats 16000000
namespace Go.Proofs.YtnkilceibkkjlaaGreat
open Go.RowKit
def cmpB(a b:ByteArray):Int:=Lib.compareBytes a.data.toList b.data.toList
theorem z7g:∀ a b:List UInt8,(Lib.compareBytes a b<0↔a<b)/\(Lib.compareBytes a b=0↔a=b)
 | [],[]=>by simp[Lib.compareBytes]
 | [],_::_=>by simp[Lib.compareBytes]
 | _::_,[]=>by simp[Lib.compareBytes]
 | a::ar,b::br=>by
  have ih:=z7g ar br
  simp only[Lib.compareBytes,List.cons_lt_cons_iff]
  by_cases h1:a<b
  ·have h2:a≠b:=fun e=>by subst e;exact absurd h1 (Nat.lt_irrefl _)
   simp[h1,h2]
  ·by_cases h2:b<a
   ·have h3:a≠b:=fun e=>by subst e;exact absurd h2 (Nat.lt_irrefl _)
    simp[h1,h2,h3]
   ·have h3:a=b:=UInt8.le_antisymm (UInt8.not_lt.1 h2) (UInt8.not_lt.1 h1)
    subst h3
    simp[h1,ih]
theorem zoq(a b:ByteArray):cmpB a b<0↔KLt a b:=(z7g _ _).1
theorem zar(a b:ByteArray)(w:World):Calls Tryz.prog 245 #[.string a,.string b] w fun e w'=>e= .returned (.int .i64 (cmpB a b))/\w=w':=by
 have hc:∀ w:World,(callFunc 263 #[.string a,.string b]).run Tryz.prog w= .ok (.value (.int .i64 (cmpB a b))) w:=fun w=>by
  rw[run_callFunc_extern Tryz.func263 (by kernel_rfl) (by kernel_rfl) (by kernel_rfl) (e:=Extern.BytealgCompare.compare) (by kernel_rfl),Lib.run_compareString];rfl
 go_enter Tryz.func245,Tryz.ntmps245;go_wp2;go_ret;exact⟨rfl,rfl⟩
theorem zjo(a b:ByteArray)(w:World):Calls Tryz.prog 216 #[.string a,.string b] w fun e w'=>e= .returned (.int .i64 (cmpB a b))/\w=w':=by
 go_enter Tryz.func216,Tryz.ntmps216;go_wp2_with (go_at_call 245;refine(zar _ _ _).mono ?_;rintro e w' ⟨rfl,rfl⟩);go_ret;exact⟨rfl,rfl⟩
theorem zi3(x:ByteArray)(w:World):Calls Tryz.prog 277 #[.string x] w fun e w'=>e= .returned (.bool false)/\w=w':=by
 go_enter Tryz.func277,Tryz.ntmps277;go_wp2;go_ret;exact⟨by simp,rfl⟩
theorem z7u(x:ByteArray)(w:World):Calls Tryz.prog 258 #[.string x] w fun e w'=>e= .returned (.bool false)/\w=w':=by
 go_enter Tryz.func258,Tryz.ntmps258;go_wp2;go_ret;exact⟨by simp,rfl⟩
theorem zcu(a b:ByteArray)(w:World):Calls Tryz.prog 257 #[.string a,.string b] w fun e w'=>e= .returned (.bool (decide (KLt a b)))/\w=w':=by
 go_enter Tryz.func257,Tryz.ntmps257;go_wp2_with (go_at_call 277;refine(zi3 _ _).mono ?_;rintro e w' ⟨rfl,rfl⟩);go_ret;exact⟨by rw[<- z4a];rfl,rfl⟩
def z2k(b a:ByteArray):Bool:=b.data.toList.isPrefixOf a.data.toList
theorem zoo(b:ByteArray):b.size=b.data.toList.length:=rfl
theorem zdj(a b:ByteArray):((a.extract 0 b.size).toList==b.toList)=z2k b a:=by
 rw[ByteArray.toList_eq,ByteArray.toList_eq,Lib.extract_from_zero,Bool.eq_iff_iff];unfold z2k;rw[beq_iff_eq,List.isPrefixOf_iff_prefix,zoo,List.prefix_iff_eq_take];exact eq_comm
theorem zdh{a b:ByteArray}(h:¬ b.size<=a.size):z2k b a=false:=by
 unfold z2k;rw[Bool.eq_false_iff];intro e;exact h (List.isPrefixOf_iff_prefix.1 e).length_le
theorem zdz(a b:ByteArray)(w:World):Calls Tryz.prog 217 #[.string a,.string b] w fun e w'=>e= .returned (.bool (z2k b a))/\w=w':=by
 by_cases h:b.size<=a.size
 ·have h2:decide ((b.size:Int)<=(a.size:Int))=true:=by simpa using h
  go_enter Tryz.func217,Tryz.ntmps217;go_wp2;go_ret;exact⟨zk2 (zdj a b),rfl⟩
 ·have h2:decide ((b.size:Int)<=(a.size:Int))=false:=by simpa using h
  go_enter Tryz.func217,Tryz.ntmps217;go_wp2;go_ret;exact⟨zk2 (zdh h).symm,rfl⟩
theorem zg1(a b:ByteArray)(w:World):Calls Tryz.prog 170 #[.string a,.string b] w fun e w'=>e= .returned (.bool (z2k b a))/\w=w':=by
 go_enter Tryz.func170,Tryz.ntmps170;go_wp2_with (go_at_call 217;refine(zdz _ _ _).mono ?_;rintro e w' ⟨rfl,rfl⟩);go_ret;exact⟨rfl,rfl⟩
def zuq(m:Nat)(w:World)(e:Ending)(w':World):Prop:=(∃ f,e= .returned (.tuple #[.int .i64 m,.bool f]))/\w=w'
theorem zbu(w:World)(g c:Nat)(keys:List ByteArray)(k:ByteArray)(hs:z1p keys)(hn:keys.length<4611686018427387904)
  (hc:∀ j x,keys[j]?=some x->w.cell? ⟨g,j,none⟩=some (.string x)) :
  Calls Tryz.prog 238 #[.slice (some ⟨g,0,none⟩) keys.length c,.string k] w (zuq (lb keys k) w):=by
 have hle:=zae keys k;obtain⟨n,hn'⟩:∃ n,keys.length=n:=⟨_,rfl⟩;obtain⟨m,hm'⟩:∃ m,lb keys k=m:=⟨_,rfl⟩;have hlt:∀ i (h:i<keys.length),KLt keys[i] k↔i<m:=fun i h=>by rw[<- hm'];exact z2d hs k i h
 have HC:Hid (∀ j x,keys[j]?=some x->w.cell? ⟨g,j,none⟩=some (.string x)):=hc;have HL:Hid (∀ i (h:i<keys.length),KLt keys[i] k↔i<m):=hlt;rw[hm',hn']at hle;rw[hn']at hn ⊢;rw[hm'];have HN:Hid (keys.length=n):=hn';clear hc hlt hs hn' hm';go_enter Tryz.func238,Tryz.ntmps238;go_wp2
 go_loop [7,8] (fun s7 s8=>∃ lo hi:Nat,s7= .int .i64 lo/\s8= .int .i64 hi/\lo<=m/\m<=hi/\hi<=n) (fun s7 s8=>(intOf s8).toNat-(intOf s7).toNat)
 case atStart=>exact⟨0,n,rfl,rfl,by omega,hle,by omega⟩
 case round =>
  obtain⟨lo,hi,rfl,rfl,h1,h2,h3⟩:=hrel
  by_cases hlt:lo<hi
  ·have hmid:(lo+hi)/2<n:=by omega
   have hmk:(lo+hi)/2<keys.length:=by rw[HN.out];exact hmid
   have cm:w.cell? ⟨g,(lo+hi)/2,none⟩=some (.string keys[(lo+hi)/2]):=HC.out _ _ (List.getElem?_eq_getElem hmk);have hl:=HL.out _ hmk;obtain⟨y,hy⟩:∃ y,keys[(lo+hi)/2]=y:=⟨_,rfl⟩;rw[hy]at cm hl;clear hy
   by_cases hk:KLt y k
   ·have hk1:decide (KLt y k)=true:=by simpa using hk
    have hl2:=hl.1 hk;clear hl hk;go_wp2_with (go_at_call 257;refine(zcu _ _ _).mono ?_;rintro e w' ⟨rfl,rfl⟩)
    go_round
    case rel=>exact⟨(lo+hi)/2+1,hi,by go_num,rfl,by omega,by omega,by omega⟩
    case measure=>simp[intOf];omega
   ·have hk1:decide (KLt y k)=false:=by simpa using hk
    have hl2:¬ (lo+hi)/2<m:=fun e=>hk (hl.2 e)
    clear hl hk;go_wp2_with (go_at_call 257;refine(zcu _ _ _).mono ?_;rintro e w' ⟨rfl,rfl⟩)
    go_round
    case rel=>exact⟨lo,(lo+hi)/2,rfl,by go_num,by omega,by omega,by omega⟩
    case measure=>simp[intOf];omega
  ·obtain rfl:lo=m:=by omega
   obtain rfl:hi=lo:=by omega
   by_cases hn2:hi<n
   ·have hmk:hi<keys.length:=by rw[HN.out];exact hn2
    have cm:w.cell? ⟨g,hi,none⟩=some (.string keys[hi]):=HC.out _ _ (List.getElem?_eq_getElem hmk);obtain⟨y,hy⟩:∃ y,keys[hi]=y:=⟨_,rfl⟩;rw[hy]at cm;clear hy
    by_cases hk:(y.toList==k.toList)=true
    ·go_wp2_with (go_at_call 258;refine(z7u _ _).mono ?_;rintro e w' ⟨rfl,rfl⟩)
     go_ret2
     exact⟨⟨_,rfl⟩,rfl⟩
    ·have hk2:(y.toList==k.toList)=false:=by simpa using hk
     clear hk;go_wp2_with (go_at_call 258;refine(z7u _ _).mono ?_;rintro e w' ⟨rfl,rfl⟩)
     go_ret2
     exact⟨⟨_,rfl⟩,rfl⟩
   ·go_wp2
    go_ret2
    exact⟨⟨_,rfl⟩,rfl⟩
structure Blk where
 g:Nat
 cap:Nat
 keys:List ByteArray
def Blk.val(x:Blk):Value:=.slice (some ⟨x.g,0,none⟩) x.keys.length x.cap
def Blk.last(x:Blk):ByteArray:=x.keys.getLastD z05
theorem z8g(w:World)(g n c:Nat)(y k:ByteArray)(hn:n<4611686018427387904)(hc:w.cell? ⟨g,n,none⟩=some (.string y)) :
  Calls Tryz.prog 215 #[.slice (some ⟨g,0,none⟩) (n+1) c,.string k] w fun e w'=>e= .returned (.int .i64 (cmpB y k))/\w=w':=by
 go_enter Tryz.func215,Tryz.ntmps215;go_wp2_with (go_at_call 216;refine(zjo _ _ _).mono ?_;rintro e w' ⟨rfl,rfl⟩);go_ret;exact⟨rfl,rfl⟩
structure ziv (w:World) (g:Nat) (bs:List Blk):Prop where
 row:∀ (j:Nat) (h:j<bs.length),w.cell? ⟨g,j,none⟩=some bs[j].val
 key:∀ (j:Nat) (h:j<bs.length),∃ n,bs[j].keys.length=n+1/\n<4611686018427387904/\w.cell? ⟨bs[j].g,n,none⟩=some (.string bs[j].last)
theorem zhd(w:World)(g c:Nat)(bs:List Blk)(k:ByteArray)(hs:z1p (bs.map Blk.last))(hn:bs.length<4611686018427387904)(hc:ziv w g bs) :
  Calls Tryz.prog 214 #[.slice (some ⟨g,0,none⟩) bs.length c,.string k,.func (.func 215) #[] #[]] w
   (zuq (lb (bs.map Blk.last) k) w):=by
 have hle:=zae (bs.map Blk.last) k;rw[List.length_map]at hle;obtain⟨n,hn'⟩:∃ n,bs.length=n:=⟨_,rfl⟩;obtain⟨m,hm'⟩:∃ m,lb (bs.map Blk.last) k=m:=⟨_,rfl⟩;have hlt:∀ i (h:i<bs.length),KLt bs[i].last k↔i<m:=fun i h=>by
  rw[<- hm',<- z2d hs k i (by simpa using h),List.getElem_map]
 have HL:Hid (∀ i (h:i<bs.length),KLt bs[i].last k↔i<m):=hlt;rw[hm',hn']at hle;rw[hn']at hn ⊢;rw[hm'];have HN:Hid (bs.length=n):=hn';clear hlt hs hn' hm';go_enter Tryz.func214,Tryz.ntmps214;go_wp2
 go_loop [9,10] (fun s7 s8=>∃ lo hi:Nat,s7= .int .i64 lo/\s8= .int .i64 hi/\lo<=m/\m<=hi/\hi<=n) (fun s7 s8=>(intOf s8).toNat-(intOf s7).toNat)
 case atStart=>exact⟨0,n,rfl,rfl,by omega,hle,by omega⟩
 case round =>
  obtain⟨lo,hi,rfl,rfl,h1,h2,h3⟩:=hrel
  by_cases hlt:lo<hi
  ·have hmid:(lo+hi)/2<n:=by omega
   have hmk:(lo+hi)/2<bs.length:=by rw[HN.out];exact hmid
   have cm:=hc.row _ hmk;obtain⟨q,e1,e2,cq⟩:=hc.key _ hmk;have hl:=HL.out _ hmk;simp only[Blk.val,e1]at cm;clear e1;generalize bs[(lo+hi)/2].last=y at *
   generalize bs[(lo+hi)/2].g=bg at *
   generalize bs[(lo+hi)/2].cap=bc at *
   by_cases hk:KLt y k
   ·have hk1:cmpB y k<0:=(zoq _ _).2 hk;have hl2:=hl.1 hk;clear hl hk;go_wp2_with (go_at_call 215;refine(z8g _ _ _ _ _ _ e2 cq).mono ?_;rintro e w' ⟨rfl,rfl⟩)
    go_round
    case rel=>exact⟨(lo+hi)/2+1,hi,by go_num,rfl,by omega,by omega,by omega⟩
    case measure=>simp[intOf];omega
   ·have hk1:¬ cmpB y k<0:=fun e=>hk ((zoq _ _).1 e)
    have hl2:¬ (lo+hi)/2<m:=fun e=>hk (hl.2 e)
    clear hl hk;go_wp2_with (go_at_call 215;refine(z8g _ _ _ _ _ _ e2 cq).mono ?_;rintro e w' ⟨rfl,rfl⟩)
    go_round
    case rel=>exact⟨lo,(lo+hi)/2,rfl,by go_num,by omega,by omega,by omega⟩
    case measure=>simp[intOf];omega
  ·obtain rfl:hi=m:=by omega
   obtain rfl:lo=hi:=by omega
   by_cases hn2:lo<n
   ·have hmk:lo<bs.length:=by rw[HN.out];exact hn2
    have cm:=hc.row _ hmk;obtain⟨q,e1,e2,cq⟩:=hc.key _ hmk;simp only[Blk.val,e1]at cm;clear e1 HL;generalize bs[lo].last=y at *
    generalize bs[lo].g=bg at *
    generalize bs[lo].cap=bc at *
    by_cases hk:(cmpB y k==0)=true
    ·go_wp2_with (go_at_call 215;refine(z8g _ _ _ _ _ _ e2 cq).mono ?_;rintro e w' ⟨rfl,rfl⟩)
     go_ret2
     exact⟨⟨_,rfl⟩,rfl⟩
    ·have hk2:(cmpB y k==0)=false:=by simpa using hk
     clear hk;go_wp2_with (go_at_call 215;refine(z8g _ _ _ _ _ _ e2 cq).mono ?_;rintro e w' ⟨rfl,rfl⟩)
     go_ret2
     exact⟨⟨_,rfl⟩,rfl⟩
   ·go_wp2
    go_ret2
    exact⟨⟨_,rfl⟩,rfl⟩
theorem zgl(w:World)(b g c:Nat)(bs:List Blk)(k:ByteArray)(hs:z1p (bs.map Blk.last))(hn:bs.length<4611686018427387904)(h0:0<bs.length)(hb:w.cell? ⟨b,2,none⟩=some (.slice (some ⟨g,0,none⟩) bs.length c))(hc:ziv w g bs) :
  Calls Tryz.prog 169 #[.pointer (some ⟨b,0,none⟩),.string k] w fun e w'=>e= .returned (.int .i64 (min (lb (bs.map Blk.last) k) (bs.length-1):Nat))/\w=w':=by
 have HS:=zh (zhd w g c bs k hs hn hc);obtain⟨n,hn'⟩:∃ n,bs.length=n:=⟨_,rfl⟩;obtain⟨m,hm'⟩:∃ m,lb (bs.map Blk.last) k=m:=⟨_,rfl⟩;rw[hn',hm']at HS;rw[hn']at hn h0 hb ⊢;rw[hm'];clear hn' hm' hc;have e1:((n:Int)-1)=((n-1:Nat):Int):=by omega
 go_enter Tryz.func169,Tryz.ntmps169;go_wp2_with (go_at_call 214;refine HS.out.mono ?_;rintro e w' ⟨⟨f,rfl⟩,rfl⟩)
 all_goals (go_ret;exact⟨zvz (by omega),rfl⟩)
def z01(bs:List Blk):List ByteArray:=bs.flatMap Blk.keys
theorem z6y:z01 [] = []:=rfl
theorem z0y(x:Blk)(bs:List Blk):z01 (x::bs)=x.keys++z01 bs:=rfl
theorem z0r(A B:List Blk):z01 (A++B)=z01 A++z01 B:=List.flatMap_append
theorem z5x{bs:List Blk}(h:∀ x∈bs,x.keys≠[]):bs.length<=(z01 bs).length:=by
 induction bs with
 | nil=>simp
 | cons x r ih =>
  have h1:0<x.keys.length:=List.length_pos_iff.2 (h x (by simp));have h2:=ih (fun y hy=>h y (by simp[hy]));simp only[z0y,List.length_append,List.length_cons];omega
theorem z6s{bs:List Blk}{x:Blk}(h:x∈bs):x.keys.length<=(z01 bs).length:=by
 obtain⟨A,C,rfl⟩:=List.append_of_mem h;simp only[z0r,z0y,List.length_append];omega
theorem Blk.zbm{x:Blk}(h:x.keys≠[]):x.last∈x.keys:=by
 unfold Blk.last;rw[List.getLastD_eq_getLast?,List.getLast?_eq_some_getLast h];exact List.getLast_mem h
theorem Blk.znc{x:Blk}{n:Nat}(h:x.keys.length=n+1):x.keys[n]?=some x.last:=by
 have hne:x.keys≠[]:=by intro e;rw[e]at h;simp at h
 unfold Blk.last;rw[List.getLastD_eq_getLast?,List.getLast?_eq_getElem?,h];simp[List.getElem?_eq_getElem (show n<x.keys.length by omega)]
theorem zx5{x:Blk}(hs:z1p x.keys){y:ByteArray}(h:y∈x.keys):¬ KLt x.last y:=by
 have hne:x.keys≠[]:=by intro e;rw[e]at h;simp at h
 obtain⟨n,hn⟩:∃ n,x.keys.length=n+1:=⟨x.keys.length-1,by have:=List.length_pos_iff.2 hne;omega⟩;obtain⟨i,hi,rfl⟩:=List.getElem_of_mem h;have hl:=Blk.znc hn;rw[List.getElem?_eq_getElem (show n<x.keys.length by omega),Option.some.injEq]at hl;rw[<- hl];rcases Nat.eq_or_lt_of_le (show i<=n by omega)with e | e
 ·subst e;exact KLt.irrefl _
 ·exact(List.pairwise_iff_getElem.1 hs i n hi (by omega) e).asymm
theorem z3x{bs:List Blk}(hs:z1p (z01 bs)){x:Blk}(h:x∈bs):z1p x.keys:=by
 obtain⟨A,C,rfl⟩:=List.append_of_mem h;rw[z0r,z0y]at hs;exact(List.pairwise_append.1 (List.pairwise_append.1 hs).2.1).1
theorem z4o{bs:List Blk}(hne:∀ x∈bs,x.keys≠[])(hs:z1p (z01 bs)):z1p (bs.map Blk.last):=by
 induction bs with
 | nil=>exact List.Pairwise.nil
 | cons x r ih =>
  rw[z0y]at hs;have hp:=List.pairwise_append.1 hs;refine List.pairwise_cons.2 ⟨fun y hy => ?_,ih (fun z hz=>hne z (by simp[hz])) hp.2.1⟩;obtain⟨z,hz,rfl⟩:=List.mem_map.1 hy;exact hp.2.2 _ (Blk.zbm (hne x (by simp))) _ (List.mem_flatMap.2 ⟨z,hz,Blk.zbm (hne z (by simp[hz]))⟩)
theorem place{bs:List Blk}(hne:∀ x∈bs,x.keys≠[])(hs:z1p (z01 bs))(k:ByteArray)(h0:0<bs.length) :
  ∃ A x C,bs=A++x::C/\A.length=min (lb (bs.map Blk.last) k) (bs.length-1)/\lb (z01 bs) k=(z01 A).length+lb x.keys k:=by
 have hls:=z4o hne hs;obtain⟨i,hi⟩:∃ i,i=min (lb (bs.map Blk.last) k) (bs.length-1):=⟨_,rfl⟩;have hib:i<bs.length:=by omega
 have hsplit:bs=bs.take i++bs[i]::bs.drop (i+1):=by
  rw[<- List.drop_eq_getElem_cons hib,List.take_append_drop]
 refine⟨bs.take i,bs[i],bs.drop (i+1),hsplit,by rw[List.length_take];omega,?_⟩;have hA:∀ y∈z01 (bs.take i),KLt y k:=by
  intro y hy;obtain⟨z,hz,hyz⟩:=List.mem_flatMap.1 hy;obtain⟨j,hj,rfl⟩:=List.getElem_of_mem hz;rw[List.length_take]at hj;have hjb:j<bs.length:=by omega
  rw[List.getElem_take]at hyz;have h1:=(z2d hls k j (by simpa using hjb)).2 (by omega);rw[List.getElem_map]at h1;exact KLt.zu3 (zx5 (z3x hs (List.getElem_mem hjb)) hyz) h1
 have e:lb (z01 bs) k=lb (z01 (bs.take i)++(bs[i].keys++z01 (bs.drop (i+1)))) k:=by
  rw[<- z0y,<- z0r,<- hsplit]
 rw[e,zbt hA];congr 1;have hle:=zae bs[i].keys k;rcases Nat.lt_or_eq_of_le hle with h | h
 ·exact zdv h
 ·have hall:∀ y∈bs[i].keys,KLt y k:=by
   intro y hy;obtain⟨j,hj,rfl⟩:=List.getElem_of_mem hy;exact(z2d (z3x hs (List.getElem_mem hib)) k j hj).2 (by omega)
  have hl:=hall _ (Blk.zbm (hne _ (List.getElem_mem hib)));have h1:=(z2d hls k i (by simpa using hib)).1 (by rw[List.getElem_map];exact hl);have h2:i+1=bs.length:=by omega
  rw[List.drop_of_length_le (by omega),z6y,List.append_nil]
theorem zak(A C:List Blk)(x:Blk)(k:ByteArray)(n:Nat)(hn:n<=x.keys.length) :
  (z01 (A++x::C)).take ((z01 A).length+n)++k::(z01 (A++x::C)).drop ((z01 A).length+n)=z01 A++((x.keys.take n++k::x.keys.drop n)++z01 C):=by
 rw[z0r,z0y,List.take_length_add_append,List.drop_length_add_append,List.take_append_of_le_length hn,List.drop_append_of_le_length hn];simp
theorem zer(A C:List Blk)(x:Blk)(n:Nat)(hn:n<x.keys.length) :
  (z01 (A++x::C)).take ((z01 A).length+n)++(z01 (A++x::C)).drop ((z01 A).length+n+1)=z01 A++((x.keys.take n++x.keys.drop (n+1))++z01 C):=by
 rw[z0r,z0y,List.take_length_add_append,Nat.add_assoc,List.drop_length_add_append,List.take_append_of_le_length (by omega),List.drop_append_of_le_length (by omega)];simp
theorem insert_sorted{l:List ByteArray}(hs:z1p l){k:ByteArray}(hk:k∉l):z1p (l.take (lb l k)++k::l.drop (lb l k)):=by
 have h1:∀ y∈l.take (lb l k),KLt y k:=by
  intro y hy;obtain⟨j,hj,rfl⟩:=List.getElem_of_mem hy;rw[List.length_take]at hj;rw[List.getElem_take];exact(z2d hs k j (by omega)).2 (by omega)
 have h2:∀ y∈l.drop (lb l k),KLt k y:=by
  intro y hy;obtain⟨j,hj,rfl⟩:=List.getElem_of_mem hy;rw[List.length_drop]at hj;rw[List.getElem_drop];have h3:¬ KLt l[lb l k+j] k:=fun h=>by
   have:=(z2d hs k _ (by omega)).1 h;omega
  by_cases h4:KLt k l[lb l k+j]
  ·exact h4
  ·exact absurd (by rw[KLt.eq h4 h3];exact List.getElem_mem _) hk
 refine List.pairwise_append.2 ⟨hs.sublist (List.take_sublist _ _),List.pairwise_cons.2 ⟨h2,hs.sublist (List.drop_sublist _ _)⟩,fun a ha b hb => ?_⟩;rcases List.mem_cons.1 hb with rfl | hb
 ·exact h1 a ha
 ·exact(h1 a ha).trans (h2 b hb)
theorem za3{l:List ByteArray}(hs:z1p l)(n:Nat):z1p (l.take n++l.drop (n+1)):=by
 rw[<- List.eraseIdx_eq_take_drop_succ];exact hs.sublist (List.eraseIdx_sublist _ _)
theorem zr3{bs A C:List Blk}{x:Blk}{k:ByteArray}(hs:z1p (z01 bs))(e:bs=A++x::C)(hl:lb (z01 bs) k=(z01 A).length+lb x.keys k)(hk:k∈z01 bs)(hne:∀ x∈bs,x.keys≠[])(hA:A.length=min (lb (bs.map Blk.last) k) (bs.length-1)):lb x.keys k<x.keys.length:=by
 have hle:=zae x.keys k;rcases Nat.lt_or_eq_of_le hle with h | h
 ·exact h
 ·exfalso;obtain⟨hlt,_⟩:=zvr hs hk;have hx:x∈bs:=by rw[e];simp
  have hlast:KLt x.last k:=by
   have hm:=Blk.zbm (hne x hx);obtain⟨j,hj,hj2⟩:=List.getElem_of_mem hm;rw[<- hj2];exact(z2d (z3x hs hx) k j hj).2 (by omega)
  have hAb:A.length<bs.length:=by rw[e];simp
  have h1:=(z2d (z4o hne hs) k A.length (by simpa using hAb)).1 (by simp only[e,List.map_append,List.map_cons];rw[List.getElem_append_right (by simp)];simpa using hlast);have h2:A.length+1=bs.length:=by omega
  have h3:C = []:=by
   have:=congrArg List.length e;simp only[List.length_append,List.length_cons]at this;exact List.eq_nil_of_length_eq_zero (by omega)
  rw[hl,h,e,h3,z0r,z0y]at hlt;simp[z6y]at hlt
theorem zkz{A:Type}(xs zs:List A)(x:A)(i:Nat)(hi:i<=xs.length) :
  (((((xs.take i++zs).take i ++ [x]++(xs.take i++zs).drop (i+1)).take (i+1))++xs.drop i++((xs.take i++zs).take i ++ [x]++(xs.take i++zs).drop (i+1)).drop (i+1+(xs.drop i).length)).take (xs.length+1))=xs.take i++x::xs.drop i:=by
 have h1:(xs.take i++zs).take i=xs.take i:=by
  rw[List.take_append_of_le_length (by simp;omega),List.take_take];simp
 have h2:(xs.take i ++ [x]++(xs.take i++zs).drop (i+1)).take (i+1)=xs.take i ++ [x]:=by
  rw[List.take_append_of_le_length (by simp;omega)];exact List.take_of_length_le (by simp;omega)
 rw[h1,h2,List.take_append_of_le_length (by simp;omega),List.take_of_length_le (by simp;omega)];simp
theorem zjy{A:Type}(cur xs:List A)(x:A)(i:Nat)(hi:i<=xs.length)(hc:cur.take xs.length=xs)(hl:xs.length<cur.length) :
  (((cur.take (i+1)++xs.drop i++cur.drop (i+1+(xs.drop i).length)).take i ++ [x]++(cur.take (i+1)++xs.drop i++cur.drop (i+1+(xs.drop i).length)).drop (i+1)).take (xs.length+1))=xs.take i++x::xs.drop i:=by
 have h0:(cur.take (i+1)).length=i+1:=by simp;omega
 have h1:(cur.take (i+1)++xs.drop i++cur.drop (i+1+(xs.drop i).length)).take i=xs.take i:=by
  rw[List.append_assoc,List.take_append_of_le_length (by omega),List.take_take,<- hc,List.take_take];congr 1;omega
 have h2:(cur.take (i+1)++xs.drop i++cur.drop (i+1+(xs.drop i).length)).drop (i+1)=xs.drop i++cur.drop (i+1+(xs.drop i).length):=by
  rw[List.append_assoc,List.drop_append_of_le_length (by omega),List.drop_of_length_le (by omega)];rfl
 rw[h1,h2];rw[show xs.take i ++ [x]++(xs.drop i++cur.drop (i+1+(xs.drop i).length))=(xs.take i++x::xs.drop i)++cur.drop (i+1+(xs.drop i).length)by simp]
 rw[List.take_append_of_le_length (by simp;omega),List.take_of_length_le (by simp;omega)]
structure z9e (w:World) (e:TypeId) (g i:Nat) (x:Value) (xs:List Value) (v':Value) (w':World):Prop where
 own:Own w' e 1 v' (xs.length+1) (xs.take i++x::xs.drop i)
 fr:Fr (· = g) w w'
 block:∀ k,v'.ownBlock=some k->k=g\/w.heap.size<=k
def zaw(w:World)(e:TypeId)(g i:Nat)(x:Value)(xs:List Value)(en:Ending)(w':World):Prop:=∃ v',en= .returned v'/\z9e w e g i x xs v' w'
theorem zdb{w w':World}{v:Value}{g:Nat}(h:w.grownBy w' v.ownBlock)(hv:v.ownBlock=some g):Fr (· = g) w w':=
 ⟨h.os,h.tape,h.output,h.size,fun k hk hn=>h.block k hk (fun e=>hn (by rw[hv]at e;exact Option.some.inj e))⟩
theorem cells_one{w:World}{vb:Nat}{e:TypeId}{x:Value}(hv:w.heap[vb]?=some (.cells #[x] e (0,0))):∀ j u,[x][j]?=some u->w.cell? ((⟨vb,0,none⟩:Addr).add j)=some u:=by
 intro j u hj;rw[Addr.add_lit,cell_of_row w vb (0+j) _ _ _ hv]
 simpa using hj
theorem cells_from{w:World}{g:Nat}{e:TypeId}{cur:Array Value}(hg:w.heap[g]?=some (.cells cur e (0,0)))(xs:List Value)(n i:Nat)(hx:cur.toList.take n=xs):∀ j u,(xs.drop i)[j]?=some u->w.cell? ((⟨g,i,none⟩:Addr).add j)=some u:=by
 intro j u hj;rw[Addr.add_lit,cell_of_row w g (i+j) _ _ _ hg];rw[List.getElem?_drop,<- hx,List.getElem?_take]at hj;split at hj
 ·simpa using hj
 ·cases hj
theorem zaj:z1j Tryz.prog 220 9 (.string ⟨#[]⟩) 1 16:=⟨by kernel_rfl,by kernel_rfl,rfl,by decide⟩
theorem zva:z1j Tryz.prog 219 9 (.string ⟨#[]⟩) 1 16:=⟨by kernel_rfl,by kernel_rfl,rfl,by decide⟩
theorem zrd(w:World)(g c:Nat)(cur:Array Value)(xs:List Value)(vb:Nat)(x:Value)(n:Nat)(hn:n=xs.length)
  (hg:w.heap[g]?=some (.cells cur 9 (0,0))) (hnc:n<=c) (hcm:c<=maxLen) (hcs:c<=cur.size) (hx:cur.toList.take n=xs)
  (hv:w.heap[vb]?=some (.cells #[x] 9 (0,0))) (hox:x.oneCell'=true) (hb:n<1099511627776) :
  Calls Tryz.prog 239 #[.slice (some ⟨g,0,none⟩) n c,.int .i64 n,.slice (some ⟨vb,0,none⟩) 1 1] w (zaw w 9 g n x xs):=by
 have hown:Own w 9 1 (.slice (some ⟨g,0,none⟩) n c) n xs:=⟨by omega,.inr ⟨g,c,cur,rfl,hg,hnc,hcm,by omega,by simpa using hx⟩⟩;have hnews:=cells_one hv;have hmx:n+1<=maxLen:=by unfold maxLen;omega
 have HX:Hid (n=xs.length):=hn;have hcm':c<=9223372036854775807:=hcm;clear hx hv hcs hcm hn hg;go_enter Tryz.func239,Tryz.ntmps239;go_wp2_with (at_builtin;refine z08 rfl _ _ 220 219 rfl zaj zva _ n xs rfl hown _ 1 _ [x] rfl (by simp) hnews (by simpa using hox) hmx (by omega) ?_)
 all_goals
  intro v' w' hA;go_wp2;go_ret;have hO:=hA.own;have hX:=HX.out;subst hX
  exact⟨_,rfl,by simpa using hO,zdb hA.grown rfl,fun k hk=>by
   rcases hA.block k hk with h | h
   ·simp[Value.ownBlock]at h;exact .inl h.symm
   ·exact .inr h⟩
theorem zoe(w:World)(g c:Nat)(cur:Array Value)(xs:List Value)(vb:Nat)(x:Value)(n i:Nat)(hn:n=xs.length)(hi:i<n)
  (hg:w.heap[g]?=some (.cells cur 9 (0,0))) (hnc:n<=c) (hcm:c<=maxLen) (_hcs:c<=cur.size) (hx:cur.toList.take n=xs) (hroom:c<n+1)
  (hv:w.heap[vb]?=some (.cells #[x] 9 (0,0))) (hox:x.oneCell'=true) (hoxs:∀ u∈xs,u.oneCell'=true) (hb:n<1099511627776) :
  Calls Tryz.prog 239 #[.slice (some ⟨g,0,none⟩) n c,.int .i64 i,.slice (some ⟨vb,0,none⟩) 1 1] w (zaw w 9 g i x xs):=by
 obtain⟨i0,hi0,hz0,hzs,hzb⟩:=info_parts zaj.info;have hci:¬ c=i:=by omega
 have hold:(Builtin.firstCells i0.size i (.slice (some ⟨g,0,none⟩) i c)).run Tryz.prog w.drew= .ok (xs.take i).toArray w.drew:=by
  rw[hzs];refine run_firstCells_some w.drew 1 i _ i c (xs.take i) (by simp;omega) (fun j v hj => ?_);have:=cells_from hg xs n 0 hx j v (by rw[List.getElem?_take]at hj;by_cases h:j<i<;>simp[h]at hj;simpa using hj);exact this
 obtain⟨d,hd⟩:∃ d,d=n+1-i:=⟨_,rfl⟩;have hid:i+d=n+1:=by omega
 have hgrow:∃ c2 w2 cur2,(∀ ty,(Builtin.append_ #[220,3] ty #[.slice (some ⟨g,0,none⟩) i c,.int .i64 d]).run Tryz.prog w= .ok (.slice (some ⟨w.heap.size,0,none⟩) (n+1) c2) w2) /\
   n+1<=c2/\c2<=maxLen/\w2.heap[w.heap.size]?=some (.cells cur2 9 (0,0))/\(∃ zs,cur2.toList=xs.take i++zs)/\c2<=cur2.size/\Fr (fun _=>False) w w2:=by
  have hge:=grownCap_ge w (n+1) c 9;have hcm2:=grownCap_le_maxLen w (n+1) c 9 (by unfold maxLen;omega);refine⟨grownCap w (n+1) c 9,_,(xs.take i).toArray++Builtin.zeroCells (Value.cells (.string ⟨#[]⟩)) d++Builtin.zeroCells (Value.cells (.string ⟨#[]⟩)) (grownCap w (n+1) c 9-(n+1)),fun ty => ?_,hge,hcm2,heap_alloc_new w.drew _,⟨(Builtin.zeroCells (Value.cells (.string ⟨#[]⟩)) d++Builtin.zeroCells (Value.cells (.string ⟨#[]⟩)) (grownCap w (n+1) c 9-(n+1))).toList,?_⟩,?_,((Fr.refl _ w).drew).alloc _⟩
  ·have:=Lib.run_append_grow_zeros w 220 3 ty 9 i0 _ .i64 .i64 zaj.und (by kernel_rfl) hi0 hz0 _ i c (xs.take i) hold d (by omega) (by omega) (by omega) (by omega) (by rw[hzb];omega) (by rw[hzb];exact growslice_fits (by omega) (by omega));rw[hid]at this;exact this
  ·simp only[Array.toList_append,List.append_assoc]
  ·simp only[Array.size_append,List.size_toArray,size_zeroCells,List.length_take];have:(Value.cells (.string ⟨#[]⟩)).size=1:=rfl;rw[this];omega
 obtain⟨c2,w2,cur2,hrun,hc2,hc2m,hg2,⟨zs,hz2⟩,hcs2,hf2⟩:=hgrow;have hd':((n:Int)+1-(i:Int))=(d:Int):=by omega
 have hvw:vb<w.heap.size:=z02 hv;have hgw:g<w.heap.size:=z02 hg;have hl2:n+1<=cur2.size:=by omega
 have hl2':n+1<=cur2.toList.length:=hl2;have hcp1:∀ ty,(Builtin.copy_ #[220,219] ty #[.slice (some ⟨w.heap.size,i,none⟩) (n+1-i) (c2-i),.slice (some ⟨vb,0,none⟩) 1 1]).run Tryz.prog w2=_:=fun ty =>
  z4s zaj ty [x] hg2 (by show 1=Nat.min 1 _;simp only[Nat.min_def];split<;>omega) (cells_one (hf2.at hv id)) (by simp;omega) (by simpa using hox)
 obtain⟨cur3,hcur3⟩:∃ cur3:Array Value,cur3=(cur2.toList.take i ++ [x]++cur2.toList.drop (i + [x].length)).toArray:=⟨_,rfl⟩;rw[<- hcur3]at hcp1;have hl3:cur3.size=cur2.size:=by rw[hcur3];simp;omega
 have hg3:(w2.setRow w.heap.size cur3).heap[w.heap.size]?=some (.cells cur3 9 (0,0)):=setRow_heap _ _ _ _ _ _ hg2;have hgo3:(w2.setRow w.heap.size cur3).heap[g]?=some (.cells cur 9 (0,0)):=by rw[setRow_other _ _ _ _ (by omega)];exact hf2.at hg id
 have hld:(xs.drop i).length=n-i:=by simp;omega
 have hcp2:∀ ty,(Builtin.copy_ #[220,220] ty #[.slice (some ⟨w.heap.size,i+1,none⟩) (n-i) (c2-(i+1)),.slice (some ⟨g,i,none⟩) (n-i) (c-i)]).run Tryz.prog (w2.setRow w.heap.size cur3).drew=_:=fun ty =>
  z4s (w:=(w2.setRow w.heap.size cur3).drew) zaj ty (xs.drop i) hg3 (by rw[hld];simp only[Nat.min_def];split<;>omega) (cells_from (w:=(w2.setRow w.heap.size cur3).drew) hgo3 xs n i hx) (by rw[hld];omega) (fun u hu=>hoxs u (List.mem_of_mem_drop hu))
 have hfin:=zkz xs zs x i (by omega);rw[<- hz2]at hfin;have HR:=zh hrun;have H1:=zh hcp1;have H2:=zh hcp2;have HF:=zh hfin;have H3:=zh hcur3;have H4:=zh hg3;have H5:=zh hf2;have HN:=zh hn;have HL:=zh hl3;have HS:=zh hcs2;have hin:i<=n:=by omega
 have hcm':c<=9223372036854775807:=hcm;have hcm2':c2<=9223372036854775807:=hc2m;have hci2:¬ c2=i:=by omega
 have hci3:¬ c2=i+1:=by omega
 have HM:=zh hc2m;have HD:=zh hld;clear hold hrun hid hn hx hg hv hi0 hz0 hzs hzb hd _hcs hcm hoxs hcp1 hcp2 hfin hcur3 hl3 hg3 hgo3 hf2 hg2 hz2 hl2 hl2' hld hc2m hcs2 hgw hvw;go_enter Tryz.func239,Tryz.ntmps239;go_wp2_with (first | (at_builtin;refine z0c rfl _ _ (z16 rfl rfl rfl (HR.out _)) ?_)|(refine z0c (o:=⟨some 45,_,_,_,_,_⟩) rfl _ _ (z4p rfl rfl rfl (H1.out _)) ?_));have e0:0<=(i:Int)+1:=by omega
 have et:((i:Int)+1).toNat=i+1:=by omega
 have el:(i:Int)<=(n:Int):=by omega
 have ew:IntKind.i64.wrap ((i:Int)+1)=(i:Int)+1:=IntWalk.i64_in _ (by omega)
 go_still_tail 8,(by kernel_rfl)
 clear ew e0 et el;refine z0c rfl _ _ (z4p rfl rfl rfl (H2.out _)) ?_;go_wp2;go_ret;have hN:=HN.out;subst hN;refine⟨_,rfl,?_,?_,?_⟩
 ·refine⟨by simp;omega,.inr ⟨w.heap.size,c2,_,rfl,setRow_heap (w:=(w2.setRow w.heap.size cur3).drew) _ _ _ _ _ H4.out,hc2,HM.out,?_,?_⟩⟩
  ·have h1:=HL.out;have h2:=HS.out;have h3:=HD.out;simp;omega
  ·have h3:=H3.out;have hF:=HF.out;rw[h3]
   simpa using hF
 ·have hF:=H5.out;exact((hF.mono (fun _ _ e=>e.elim)).setRow _ _ (.inl (Nat.le_refl _))).drew.setRow _ _ (.inl (Nat.le_refl _))
 ·intro k hk;simp[Value.ownBlock]at hk;exact .inr (by omega)
theorem zdx:z1j Tryz.prog 90 220 (.slice none 0 0) 1 24:=⟨by kernel_rfl,by kernel_rfl,rfl,by decide⟩
theorem zvs:z1j Tryz.prog 90 220 (.slice none 0 0) 1 24:=⟨by kernel_rfl,by kernel_rfl,rfl,by decide⟩
theorem zrb(w:World)(g c:Nat)(cur:Array Value)(xs:List Value)(vb:Nat)(x:Value)(n:Nat)(hn:n=xs.length)
  (hg:w.heap[g]?=some (.cells cur 220 (0,0))) (hnc:n<=c) (hcm:c<=maxLen) (hcs:c<=cur.size) (hx:cur.toList.take n=xs)
  (hv:w.heap[vb]?=some (.cells #[x] 220 (0,0))) (hox:x.oneCell'=true) (hb:n<1099511627776) :
  Calls Tryz.prog 240 #[.slice (some ⟨g,0,none⟩) n c,.int .i64 n,.slice (some ⟨vb,0,none⟩) 1 1] w (zaw w 220 g n x xs):=by
 have hown:Own w 220 1 (.slice (some ⟨g,0,none⟩) n c) n xs:=⟨by omega,.inr ⟨g,c,cur,rfl,hg,hnc,hcm,by omega,by simpa using hx⟩⟩;have hnews:=cells_one hv;have hmx:n+1<=maxLen:=by unfold maxLen;omega
 have HX:Hid (n=xs.length):=hn;have hcm':c<=9223372036854775807:=hcm;clear hx hv hcs hcm hn hg;go_enter Tryz.func240,Tryz.ntmps240;go_wp2_with (at_builtin;refine z08 rfl _ _ 90 90 rfl zdx zvs _ n xs rfl hown _ 1 _ [x] rfl (by simp) hnews (by simpa using hox) hmx (by omega) ?_)
 all_goals
  intro v' w' hA;go_wp2;go_ret;have hO:=hA.own;have hX:=HX.out;subst hX
  exact⟨_,rfl,by simpa using hO,zdb hA.grown rfl,fun k hk=>by
   rcases hA.block k hk with h | h
   ·simp[Value.ownBlock]at h;exact .inl h.symm
   ·exact .inr h⟩
theorem zp2(w:World)(g c:Nat)(cur:Array Value)(xs:List Value)(vb:Nat)(x:Value)(n i:Nat)(hn:n=xs.length)(hi:i<n)
  (hg:w.heap[g]?=some (.cells cur 220 (0,0))) (hnc:n<=c) (hcm:c<=maxLen) (_hcs:c<=cur.size) (hx:cur.toList.take n=xs) (hroom:c<n+1)
  (hv:w.heap[vb]?=some (.cells #[x] 220 (0,0))) (hox:x.oneCell'=true) (hoxs:∀ u∈xs,u.oneCell'=true) (hb:n<1099511627776) :
  Calls Tryz.prog 240 #[.slice (some ⟨g,0,none⟩) n c,.int .i64 i,.slice (some ⟨vb,0,none⟩) 1 1] w (zaw w 220 g i x xs):=by
 obtain⟨i0,hi0,hz0,hzs,hzb⟩:=info_parts zdx.info;have hci:¬ c=i:=by omega
 have hold:(Builtin.firstCells i0.size i (.slice (some ⟨g,0,none⟩) i c)).run Tryz.prog w.drew= .ok (xs.take i).toArray w.drew:=by
  rw[hzs];refine run_firstCells_some w.drew 1 i _ i c (xs.take i) (by simp;omega) (fun j v hj => ?_);have:=cells_from hg xs n 0 hx j v (by rw[List.getElem?_take]at hj;by_cases h:j<i<;>simp[h]at hj;simpa using hj);exact this
 obtain⟨d,hd⟩:∃ d,d=n+1-i:=⟨_,rfl⟩;have hid:i+d=n+1:=by omega
 have hgrow:∃ c2 w2 cur2,(∀ ty,(Builtin.append_ #[90,3] ty #[.slice (some ⟨g,0,none⟩) i c,.int .i64 d]).run Tryz.prog w= .ok (.slice (some ⟨w.heap.size,0,none⟩) (n+1) c2) w2) /\
   n+1<=c2/\c2<=maxLen/\w2.heap[w.heap.size]?=some (.cells cur2 220 (0,0))/\(∃ zs,cur2.toList=xs.take i++zs)/\c2<=cur2.size/\Fr (fun _=>False) w w2:=by
  have hge:=grownCap_ge w (n+1) c 220;have hcm2:=grownCap_le_maxLen w (n+1) c 220 (by unfold maxLen;omega);refine⟨grownCap w (n+1) c 220,_,(xs.take i).toArray++Builtin.zeroCells (Value.cells (.slice none 0 0)) d++Builtin.zeroCells (Value.cells (.slice none 0 0)) (grownCap w (n+1) c 220-(n+1)),fun ty => ?_,hge,hcm2,heap_alloc_new w.drew _,⟨(Builtin.zeroCells (Value.cells (.slice none 0 0)) d++Builtin.zeroCells (Value.cells (.slice none 0 0)) (grownCap w (n+1) c 220-(n+1))).toList,?_⟩,?_,((Fr.refl _ w).drew).alloc _⟩
  ·have:=Lib.run_append_grow_zeros w 90 3 ty 220 i0 _ .i64 .i64 zdx.und (by kernel_rfl) hi0 hz0 _ i c (xs.take i) hold d (by omega) (by omega) (by omega) (by omega) (by rw[hzb];omega) (by rw[hzb];exact growslice_fits (by omega) (by omega));rw[hid]at this;exact this
  ·simp only[Array.toList_append,List.append_assoc]
  ·simp only[Array.size_append,List.size_toArray,size_zeroCells,List.length_take];have:(Value.cells (.slice none 0 0)).size=1:=rfl;rw[this];omega
 obtain⟨c2,w2,cur2,hrun,hc2,hc2m,hg2,⟨zs,hz2⟩,hcs2,hf2⟩:=hgrow;have hd':((n:Int)+1-(i:Int))=(d:Int):=by omega
 have hvw:vb<w.heap.size:=z02 hv;have hgw:g<w.heap.size:=z02 hg;have hl2:n+1<=cur2.size:=by omega
 have hl2':n+1<=cur2.toList.length:=hl2;have hcp1:∀ ty,(Builtin.copy_ #[90,90] ty #[.slice (some ⟨w.heap.size,i,none⟩) (n+1-i) (c2-i),.slice (some ⟨vb,0,none⟩) 1 1]).run Tryz.prog w2=_:=fun ty =>
  z4s zdx ty [x] hg2 (by show 1=Nat.min 1 _;simp only[Nat.min_def];split<;>omega) (cells_one (hf2.at hv id)) (by simp;omega) (by simpa using hox)
 obtain⟨cur3,hcur3⟩:∃ cur3:Array Value,cur3=(cur2.toList.take i ++ [x]++cur2.toList.drop (i + [x].length)).toArray:=⟨_,rfl⟩;rw[<- hcur3]at hcp1;have hl3:cur3.size=cur2.size:=by rw[hcur3];simp;omega
 have hg3:(w2.setRow w.heap.size cur3).heap[w.heap.size]?=some (.cells cur3 220 (0,0)):=setRow_heap _ _ _ _ _ _ hg2;have hgo3:(w2.setRow w.heap.size cur3).heap[g]?=some (.cells cur 220 (0,0)):=by rw[setRow_other _ _ _ _ (by omega)];exact hf2.at hg id
 have hld:(xs.drop i).length=n-i:=by simp;omega
 have hcp2:∀ ty,(Builtin.copy_ #[90,90] ty #[.slice (some ⟨w.heap.size,i+1,none⟩) (n-i) (c2-(i+1)),.slice (some ⟨g,i,none⟩) (n-i) (c-i)]).run Tryz.prog (w2.setRow w.heap.size cur3).drew=_:=fun ty =>
  z4s (w:=(w2.setRow w.heap.size cur3).drew) zdx ty (xs.drop i) hg3 (by rw[hld];simp only[Nat.min_def];split<;>omega) (cells_from (w:=(w2.setRow w.heap.size cur3).drew) hgo3 xs n i hx) (by rw[hld];omega) (fun u hu=>hoxs u (List.mem_of_mem_drop hu))
 have hfin:=zkz xs zs x i (by omega);rw[<- hz2]at hfin;have HR:=zh hrun;have H1:=zh hcp1;have H2:=zh hcp2;have HF:=zh hfin;have H3:=zh hcur3;have H4:=zh hg3;have H5:=zh hf2;have HN:=zh hn;have HL:=zh hl3;have HS:=zh hcs2;have hin:i<=n:=by omega
 have hcm':c<=9223372036854775807:=hcm;have hcm2':c2<=9223372036854775807:=hc2m;have hci2:¬ c2=i:=by omega
 have hci3:¬ c2=i+1:=by omega
 have HM:=zh hc2m;have HD:=zh hld;clear hold hrun hid hn hx hg hv hi0 hz0 hzs hzb hd _hcs hcm hoxs hcp1 hcp2 hfin hcur3 hl3 hg3 hgo3 hf2 hg2 hz2 hl2 hl2' hld hc2m hcs2 hgw hvw;go_enter Tryz.func240,Tryz.ntmps240;go_wp2_with (first | (at_builtin;refine z0c rfl _ _ (z16 rfl rfl rfl (HR.out _)) ?_)|(refine z0c (o:=⟨some 45,_,_,_,_,_⟩) rfl _ _ (z4p rfl rfl rfl (H1.out _)) ?_));have e0:0<=(i:Int)+1:=by omega
 have et:((i:Int)+1).toNat=i+1:=by omega
 have el:(i:Int)<=(n:Int):=by omega
 have ew:IntKind.i64.wrap ((i:Int)+1)=(i:Int)+1:=IntWalk.i64_in _ (by omega)
 go_still_tail 8,(by kernel_rfl)
 clear ew e0 et el;refine z0c rfl _ _ (z4p rfl rfl rfl (H2.out _)) ?_;go_wp2;go_ret;have hN:=HN.out;subst hN;refine⟨_,rfl,?_,?_,?_⟩
 ·refine⟨by simp;omega,.inr ⟨w.heap.size,c2,_,rfl,setRow_heap (w:=(w2.setRow w.heap.size cur3).drew) _ _ _ _ _ H4.out,hc2,HM.out,?_,?_⟩⟩
  ·have h1:=HL.out;have h2:=HS.out;have h3:=HD.out;simp;omega
  ·have h3:=H3.out;have hF:=HF.out;rw[h3]
   simpa using hF
 ·have hF:=H5.out;exact((hF.mono (fun _ _ e=>e.elim)).setRow _ _ (.inl (Nat.le_refl _))).drew.setRow _ _ (.inl (Nat.le_refl _))
 ·intro k hk;simp[Value.ownBlock]at hk;exact .inr (by omega)
theorem zly(w:World)(g c:Nat)(cur:Array Value)(xs:List Value)(vb:Nat)(x:Value)(n i:Nat)(hn:n=xs.length)(hi:i<n)
  (hg:w.heap[g]?=some (.cells cur 9 (0,0))) (hnc:n<=c) (hcm:c<=maxLen) (hcs:c<=cur.size) (hx:cur.toList.take n=xs) (hroom:n+1<=c)
  (hv:w.heap[vb]?=some (.cells #[x] 9 (0,0))) (hvg:vb≠g) (hox:x.oneCell'=true) (hoxs:∀ u∈xs,u.oneCell'=true) (hb:n<1099511627776) :
  Calls Tryz.prog 239 #[.slice (some ⟨g,0,none⟩) n c,.int .i64 i,.slice (some ⟨vb,0,none⟩) 1 1] w (zaw w 9 g i x xs):=by
 have hov:∀ (w:World) lb cb,w.heap[vb]?=some (.cells #[x] 9 (0,0))->w.heap[g]?=some (.cells cur 9 (0,0))->(callFunc 259 #[.slice (some ⟨vb,0,none⟩) 1 1,.slice (some ⟨g,i+1,none⟩) lb cb]).run Tryz.prog w= .ok (.value (.bool false)) w:=fun w lb cb h1 h2=>by
  rw[run_callFunc_extern Tryz.func259 (by kernel_rfl) (by kernel_rfl) (by kernel_rfl) (e:=Extern.SlicesOverlaps.overlaps #[219,219] #[4]) (by kernel_rfl),
   Lib.run_overlaps_apart w 219 4 9 zva.und 1 (fun w=>by obtain⟨i,hi,hz0,hz1,hz2⟩:=info_parts zva.info;simp[sizeOf,typeInfo,hi,hz1]) ⟨vb,0,none⟩ ⟨g,i+1,none⟩ 1 1 lb cb hvg 9 9 1 cur.size
   (by simp[World.shape?,h1]) (by simp[World.shape?,h2]) (by omega) (by simp[World.frozen?,h1]) (by simp[World.frozen?,h1])]
  rfl
 have hlen:cur.toList.length=cur.size:=rfl;have hci:¬ c=i:=by omega
 have hci1:¬ c=i+1:=by omega
 have hld:(xs.drop i).length=n-i:=by simp;omega
 have hcp1:∀ ty,(Builtin.copy_ #[220,220] ty #[.slice (some ⟨g,i+1,none⟩) (n-i) (c-(i+1)),.slice (some ⟨g,i,none⟩) (n+1-i) (c-i)]).run Tryz.prog w.drew=_:=fun ty =>
  z4s (w:=w.drew) zaj ty (xs.drop i) hg (by rw[hld];simp only[Nat.min_def];split<;>omega) (cells_from (w:=w.drew) hg xs n i hx) (by rw[hld];omega) (fun u hu=>hoxs u (List.mem_of_mem_drop hu))
 obtain⟨cur3,hcur3⟩:∃ cur3:Array Value,cur3=(cur.toList.take (i+1)++xs.drop i++cur.toList.drop (i+1+(xs.drop i).length)).toArray:=⟨_,rfl⟩;rw[<- hcur3]at hcp1;have hl3:cur3.size=cur.size:=by rw[hcur3];simp;omega
 have hg3:(w.drew.setRow g cur3).heap[g]?=some (.cells cur3 9 (0,0)):=setRow_heap w.drew _ _ _ _ _ hg;have hfr3:Fr (· = g) w (w.drew.setRow g cur3):=((Fr.refl _ w).drew).setRow _ _ (.inr rfl);have hv3:(w.drew.setRow g cur3).heap[vb]?=some (.cells #[x] 9 (0,0)):=by rw[setRow_other _ _ _ _ hvg];exact hv
 generalize w.drew.setRow g cur3=w3 at hcp1 hg3 hv3 hfr3;have hcp2:∀ ty,(Builtin.copy_ #[220,219] ty #[.slice (some ⟨g,i,none⟩) (n+1-i) (c-i),.slice (some ⟨vb,0,none⟩) 1 1]).run Tryz.prog w3=_:=fun ty =>
  z4s zaj ty [x] hg3 (by show 1=Nat.min 1 _;simp only[Nat.min_def];split<;>omega) (cells_one hv3) (by rw[hl3];simp;omega) (by simpa using hox)
 have hfin:=zjy cur.toList xs x i (by omega) (by rw[<- hn];exact hx) (by omega);obtain⟨w4,hw4⟩:∃ w4,w4=w3.setRow g (cur3.toList.take i ++ [x]++cur3.toList.drop (i + [x].length)).toArray:=⟨_,rfl⟩;rw[<- hw4]at hcp2;have hg4:=setRow_heap w3 g cur3 (cur3.toList.take i ++ [x]++cur3.toList.drop (i + [x].length)).toArray 9 (0,0) hg3;rw[<- hw4]at hg4;have hfr4:Fr (· = g) w w4:=by rw[hw4];exact hfr3.setRow _ _ (.inr rfl)
 have HG4:=zh hg4;have HF4:=zh hfr4;clear hw4 hg4 hfr4 hfr3;have HOV:Hid (∀ lb cb,(callFunc 259 #[.slice (some ⟨vb,0,none⟩) 1 1,.slice (some ⟨g,i+1,none⟩) lb cb]).run Tryz.prog w= .ok (.value (.bool false)) w):=fun lb cb=>hov w lb cb hv hg
 have H1:=zh hcp1;have H2:=zh hcp2;have HF:=zh hfin;have H3:=zh hcur3;have HN:=zh hn;have HL:=zh hl3;have HS:=zh hcs;have HM:=zh hcm;have HD:=zh hld;have hin:i<=n:=by omega
 have hcm':c<=9223372036854775807:=hcm;clear hov hcp1 hcp2 hfin hcur3 hg3 hn hl3 hcs hcm hld hoxs hx hg hv hv3 hlen;have hovw:=HOV.out;go_enter Tryz.func239,Tryz.ntmps239;go_wp2;clear hovw;have e0:0<=(i:Int)+1:=by omega
 have et:((i:Int)+1).toNat=i+1:=by omega
 have el:(i:Int)<=(n:Int):=by omega
 have ew:IntKind.i64.wrap ((i:Int)+1)=(i:Int)+1:=IntWalk.i64_in _ (by omega);have el2:(i:Int)<=(n:Int)+1:=by clear ew;omega
 go_still_tail 8,(by kernel_rfl)
 clear ew e0 et el el2;refine z0c rfl _ _ (z4p rfl rfl rfl (H1.out _)) ?_;go_wp2_with (refine z0c (o:=⟨some 82,_,_,_,_,_⟩) rfl _ _ (z4p rfl rfl rfl (H2.out _)) ?_);go_ret;have hN:=HN.out;subst hN;refine⟨_,rfl,?_,?_,?_⟩
 ·refine⟨by simp;omega,.inr ⟨g,c,_,rfl,HG4.out,hroom,HM.out,?_,?_⟩⟩
  ·have h1:=HL.out;have h2:=HS.out;have h3:=HD.out;simp;omega
  ·have h3:=H3.out;have hF:=HF.out;rw[h3]
   simpa using hF
 ·exact HF4.out
 ·intro k hk;simp[Value.ownBlock]at hk;exact .inl hk.symm
theorem zm2(w:World)(g c:Nat)(cur:Array Value)(xs:List Value)(vb:Nat)(x:Value)(n i:Nat)(hn:n=xs.length)(hi:i<n)
  (hg:w.heap[g]?=some (.cells cur 220 (0,0))) (hnc:n<=c) (hcm:c<=maxLen) (hcs:c<=cur.size) (hx:cur.toList.take n=xs) (hroom:n+1<=c)
  (hv:w.heap[vb]?=some (.cells #[x] 220 (0,0))) (hvg:vb≠g) (hox:x.oneCell'=true) (hoxs:∀ u∈xs,u.oneCell'=true) (hb:n<1099511627776) :
  Calls Tryz.prog 240 #[.slice (some ⟨g,0,none⟩) n c,.int .i64 i,.slice (some ⟨vb,0,none⟩) 1 1] w (zaw w 220 g i x xs):=by
 have hov:∀ (w:World) lb cb,w.heap[vb]?=some (.cells #[x] 220 (0,0))->w.heap[g]?=some (.cells cur 220 (0,0))->(callFunc 261 #[.slice (some ⟨vb,0,none⟩) 1 1,.slice (some ⟨g,i+1,none⟩) lb cb]).run Tryz.prog w= .ok (.value (.bool false)) w:=fun w lb cb h1 h2=>by
  rw[run_callFunc_extern Tryz.func261 (by kernel_rfl) (by kernel_rfl) (by kernel_rfl) (e:=Extern.SlicesOverlaps.overlaps #[90,90] #[4]) (by kernel_rfl),
   Lib.run_overlaps_apart w 90 4 220 zvs.und 1 (fun w=>by obtain⟨i,hi,hz0,hz1,hz2⟩:=info_parts zvs.info;simp[sizeOf,typeInfo,hi,hz1]) ⟨vb,0,none⟩ ⟨g,i+1,none⟩ 1 1 lb cb hvg 220 220 1 cur.size
   (by simp[World.shape?,h1]) (by simp[World.shape?,h2]) (by omega) (by simp[World.frozen?,h1]) (by simp[World.frozen?,h1])]
  rfl
 have hlen:cur.toList.length=cur.size:=rfl;have hci:¬ c=i:=by omega
 have hci1:¬ c=i+1:=by omega
 have hld:(xs.drop i).length=n-i:=by simp;omega
 have hcp1:∀ ty,(Builtin.copy_ #[90,90] ty #[.slice (some ⟨g,i+1,none⟩) (n-i) (c-(i+1)),.slice (some ⟨g,i,none⟩) (n+1-i) (c-i)]).run Tryz.prog w.drew=_:=fun ty =>
  z4s (w:=w.drew) zdx ty (xs.drop i) hg (by rw[hld];simp only[Nat.min_def];split<;>omega) (cells_from (w:=w.drew) hg xs n i hx) (by rw[hld];omega) (fun u hu=>hoxs u (List.mem_of_mem_drop hu))
 obtain⟨cur3,hcur3⟩:∃ cur3:Array Value,cur3=(cur.toList.take (i+1)++xs.drop i++cur.toList.drop (i+1+(xs.drop i).length)).toArray:=⟨_,rfl⟩;rw[<- hcur3]at hcp1;have hl3:cur3.size=cur.size:=by rw[hcur3];simp;omega
 have hg3:(w.drew.setRow g cur3).heap[g]?=some (.cells cur3 220 (0,0)):=setRow_heap w.drew _ _ _ _ _ hg;have hfr3:Fr (· = g) w (w.drew.setRow g cur3):=((Fr.refl _ w).drew).setRow _ _ (.inr rfl);have hv3:(w.drew.setRow g cur3).heap[vb]?=some (.cells #[x] 220 (0,0)):=by rw[setRow_other _ _ _ _ hvg];exact hv
 generalize w.drew.setRow g cur3=w3 at hcp1 hg3 hv3 hfr3;have hcp2:∀ ty,(Builtin.copy_ #[90,90] ty #[.slice (some ⟨g,i,none⟩) (n+1-i) (c-i),.slice (some ⟨vb,0,none⟩) 1 1]).run Tryz.prog w3=_:=fun ty =>
  z4s zdx ty [x] hg3 (by show 1=Nat.min 1 _;simp only[Nat.min_def];split<;>omega) (cells_one hv3) (by rw[hl3];simp;omega) (by simpa using hox)
 have hfin:=zjy cur.toList xs x i (by omega) (by rw[<- hn];exact hx) (by omega);obtain⟨w4,hw4⟩:∃ w4,w4=w3.setRow g (cur3.toList.take i ++ [x]++cur3.toList.drop (i + [x].length)).toArray:=⟨_,rfl⟩;rw[<- hw4]at hcp2;have hg4:=setRow_heap w3 g cur3 (cur3.toList.take i ++ [x]++cur3.toList.drop (i + [x].length)).toArray 220 (0,0) hg3;rw[<- hw4]at hg4;have hfr4:Fr (· = g) w w4:=by rw[hw4];exact hfr3.setRow _ _ (.inr rfl)
 have HG4:=zh hg4;have HF4:=zh hfr4;clear hw4 hg4 hfr4 hfr3;have HOV:Hid (∀ lb cb,(callFunc 261 #[.slice (some ⟨vb,0,none⟩) 1 1,.slice (some ⟨g,i+1,none⟩) lb cb]).run Tryz.prog w= .ok (.value (.bool false)) w):=fun lb cb=>hov w lb cb hv hg
 have H1:=zh hcp1;have H2:=zh hcp2;have HF:=zh hfin;have H3:=zh hcur3;have HN:=zh hn;have HL:=zh hl3;have HS:=zh hcs;have HM:=zh hcm;have HD:=zh hld;have hin:i<=n:=by omega
 have hcm':c<=9223372036854775807:=hcm;clear hov hcp1 hcp2 hfin hcur3 hg3 hn hl3 hcs hcm hld hoxs hx hg hv hv3 hlen;have hovw:=HOV.out;go_enter Tryz.func240,Tryz.ntmps240;go_wp2;clear hovw;have e0:0<=(i:Int)+1:=by omega
 have et:((i:Int)+1).toNat=i+1:=by omega
 have el:(i:Int)<=(n:Int):=by omega
 have ew:IntKind.i64.wrap ((i:Int)+1)=(i:Int)+1:=IntWalk.i64_in _ (by omega);have el2:(i:Int)<=(n:Int)+1:=by clear ew;omega
 go_still_tail 8,(by kernel_rfl)
 clear ew e0 et el el2;refine z0c rfl _ _ (z4p rfl rfl rfl (H1.out _)) ?_;go_wp2_with (refine z0c (o:=⟨some 82,_,_,_,_,_⟩) rfl _ _ (z4p rfl rfl rfl (H2.out _)) ?_);go_ret;have hN:=HN.out;subst hN;refine⟨_,rfl,?_,?_,?_⟩
 ·refine⟨by simp;omega,.inr ⟨g,c,_,rfl,HG4.out,hroom,HM.out,?_,?_⟩⟩
  ·have h1:=HL.out;have h2:=HS.out;have h3:=HD.out;simp;omega
  ·have h3:=H3.out;have hF:=HF.out;rw[h3]
   simpa using hF
 ·exact HF4.out
 ·intro k hk;simp[Value.ownBlock]at hk;exact .inl hk.symm
end Go.Proofs.YtnkilceibkkjlaaGreat
