/- What is proved here: keys.Num: the eight bytes of a numbe -/
import Derived.Test.YtnkilceibkkjlaaGreatKBase
import Derived.Lib.Builder
import Derived.Lib.AppendStr
import Derived.Lib.UnsafeStr
set_option maxRecDepth 100000
set_option maxHeartbeats 16000000
namespace Go.Proofs.YtnkilceibkkjlaaGreat
open Go.RowKit
def oct8(n:Nat):List Nat:=[n/72057594037927936,n/281474976710656%256,n/1099511627776%256,n/4294967296%256,n/16777216%256,n/65536%256,n/256%256,n%256]
def be8(n:Nat):List UInt8:=(oct8 n).map UInt8.ofNat
def numB(n:Nat):ByteArray:=⟨(be8 n).toArray⟩
theorem zi9:∀ (l:List Nat) (s:ByteArray),(l.map (fun (n:Nat)=>(n:Int))).foldl (fun r n=>r.push (UInt8.ofNat n.toNat)) s=⟨(s.data.toList++l.map UInt8.ofNat).toArray⟩
 | [],s=>by cases s;simp
 | x::l,s=>by
  simp only[List.map_cons,List.foldl_cons]
  rw[zi9 l]
  cases s
  simp[ByteArray.push]
theorem zrl(n:Nat)(w:World) :
  (convert 209 9 (.slice (some ⟨w.heap.size,0,none⟩) 8 8)).run Tryz.prog (w.alloc (.cells #[.int .u8 ((n:Int)/72057594037927936),.int .u8 ((n:Int)/281474976710656%256),.int .u8 ((n:Int)/1099511627776%256),.int .u8 ((n:Int)/4294967296%256),.int .u8 ((n:Int)/16777216%256),.int .u8 ((n:Int)/65536%256),.int .u8 ((n:Int)/256%256),.int .u8 ((n:Int)%256)] 254)) =
   .ok (.string (numB n)) (w.alloc (.cells #[.int .u8 ((n:Int)/72057594037927936),.int .u8 ((n:Int)/281474976710656%256),.int .u8 ((n:Int)/1099511627776%256),.int .u8 ((n:Int)/4294967296%256),.int .u8 ((n:Int)/16777216%256),.int .u8 ((n:Int)/65536%256),.int .u8 ((n:Int)/256%256),.int .u8 ((n:Int)%256)] 254)):=by
 rw[run_convert_bytes_string _ _ _ 5 _ _ _ (by kernel_rfl) (by kernel_rfl) (by kernel_rfl)];have h1:∀ c:Nat,(n:Int)/(c:Int)=((n/c:Nat):Int):=fun c=>by simp
 rw[run_bytesToString _ _ 8 8 ((oct8 n).map (fun (n:Nat)=>(n:Int)))]
 ·rw[zi9];simp[numB,be8]
 ·have:=run_loadCells_list (P:=Tryz.prog) (w.alloc (.cells #[.int .u8 ((n:Int)/72057594037927936),.int .u8 ((n:Int)/281474976710656%256),.int .u8 ((n:Int)/1099511627776%256),.int .u8 ((n:Int)/4294967296%256),.int .u8 ((n:Int)/16777216%256),.int .u8 ((n:Int)/65536%256),.int .u8 ((n:Int)/256%256),.int .u8 ((n:Int)%256)] 254)) ⟨w.heap.size,0,none⟩
   [.int .u8 ((n:Int)/72057594037927936),.int .u8 ((n:Int)/281474976710656%256),.int .u8 ((n:Int)/1099511627776%256),.int .u8 ((n:Int)/4294967296%256),.int .u8 ((n:Int)/16777216%256),.int .u8 ((n:Int)/65536%256),.int .u8 ((n:Int)/256%256),.int .u8 ((n:Int)%256)]
   (fun j v hj=>by rw[Addr.add_lit,cell_of_row _ _ _ _ _ _ (heap_alloc_new w _)];simpa using hj)
  simpa [oct8]using this
theorem zjq(n:Nat)(w:World)(hn:n<9223372036854775808) :
  Calls Tryz.prog 162 #[.int .i64 n] w fun e w'=>e= .returned (.string (numB n))/\Below w.heap.size w w':=by
 have hcv:=zrl n w;have hb:∀ o,Below w.heap.size w (w.alloc o):=fun o=>(Below.refl _ w).alloc (Nat.le_refl _) o
 have HB:=zh hb;clear hb;go_enter Tryz.func162,Tryz.ntmps162;go_wp2
 go_rounds 9
 go_ret;exact⟨rfl,HB.out _⟩
theorem znk(w:World):Calls Tryz.prog 147 #[.string z05] w fun e w'=>e= .returned (.tuple #[.slice none 0 0,.bool true])/\w=w':=by
 unfold z05;go_enter Tryz.func147,Tryz.ntmps147;go_wp2
 go_rounds 1
 go_ret2
 exact⟨rfl,rfl⟩
theorem zos(x b:Nat)(hx:x<72057594037927936)(hb:b<256):bits BinOp.or IntKind.u64 ((x:Int)*256) (IntKind.u64.wrap (b:Int))=((x*256+b:Nat):Int):=by
 have h1:((x:Int)*256)=((x*256:Nat):Int):=by omega
 have h2:IntKind.u64.wrap (b:Int)=(b:Int):=by rw[IntKind.wrap_u64];omega
 rw[h1,h2,bits_or_u64_nat _ _ (by omega) (by omega)];congr 1;have:=Nat.two_pow_add_eq_or_of_lt (i:=8) (b:=b) hb x;rw[Nat.mul_comm]at this;exact this.symm
theorem intT:z1j Tryz.prog 75 3 (.int .i64 0) 1 8:=⟨by kernel_rfl,by kernel_rfl,rfl,by decide⟩
def be(l:List UInt8):Nat:=l.foldl (fun x b=>x*256+b.toNat) 0
theorem zxa(l:List UInt8)(b:UInt8):be (l ++ [b])=be l*256+b.toNat:=by simp[be,List.foldl_append]
theorem zuv:∀ (l:List UInt8) (x m:Nat),x<m->l.foldl (fun x b=>x*256+b.toNat) x<m*256 ^ l.length
 | [],x,m,h=>by simpa using h
 | b::l,x,m,h=>by
  have:=zuv l (x*256+b.toNat) (m*256) (by have:=b.toNat_lt;omega)
  rw[List.foldl_cons,List.length_cons,Nat.pow_succ,Nat.mul_comm (256 ^ l.length),<- Nat.mul_assoc]
  exact this
theorem zy6(l:List UInt8):be l<256 ^ l.length:=by
 have:=zuv l 0 1 (by omega)
 simpa [be]using this
def numsL:List UInt8->Option (List Nat)
 | []=>some []
 | a::b::c::d::e::f::g::h::r=>if be [a,b,c,d,e,f,g,h]<9223372036854775808 then(numsL r).map (be [a,b,c,d,e,f,g,h] :: ·)else none
 | _=>none
theorem z3q(l:List UInt8)(h:8<=l.length):numsL l=if be (l.take 8)<9223372036854775808 then(numsL (l.drop 8)).map (be (l.take 8) :: ·)else none:=by
 match l,h with
 | a::b::c::d::e::f::g::h::r,_=>rw[numsL];rfl
theorem zcq:∀ (n:Nat) (l:List UInt8) (ns:List Nat),l.length<=n->numsL l=some ns->l.length=8*ns.length:=by
 intro n
 induction n with
 | zero=>intro l ns hl h;have:l = []:=List.eq_nil_of_length_eq_zero (by omega);subst this;simp[numsL]at h;subst h;rfl
 | succ n ih =>
  intro l ns hl h
  match l with
  | []=>simp[numsL]at h;subst h;rfl
  | [_] | [_,_] | [_,_,_] | [_,_,_,_] | [_,_,_,_,_] | [_,_,_,_,_,_] | [_,_,_,_,_,_,_]=>simp[numsL]at h
  | a::b::c::d::e::f::g::x::r =>
   rw[z3q _ (by simp)]at h;split at h
   ·simp only[List.drop_succ_cons,List.drop_zero,Option.map_eq_some_iff]at h;obtain⟨ms,h1,rfl⟩:=h;have:=ih r ms (by simp at hl;omega) h1;simp;omega
   ·cases h
theorem zi7(l:List UInt8)(h:l.length%8≠0):numsL l=none:=by
 cases hn:numsL l with
 | none=>rfl
 | some ns=>have:=zcq l.length l ns (Nat.le_refl _) hn;omega
theorem take_snoc'(l:List UInt8)(k:Nat)(h:k<l.length):l.take (k+1)=l.take k ++ [l[k]]:=by
 rw[List.take_succ_eq_append_getElem h]
theorem znj(l:List UInt8)(k i:Nat)(h:8*k+i<l.length):be ((l.drop (8*k)).take (i+1))=be ((l.drop (8*k)).take i)*256+(l[8*k+i]'h).toNat:=by
 rw[take_snoc' _ _ (by rw[List.length_drop];omega),zxa,List.getElem_drop]
theorem zk3(l:List UInt8)(i:Nat)(h:i<8):be (l.take i)<72057594037927936:=by
 have h1:=zy6 (l.take i);have h2:(l.take i).length<=7:=by rw[List.length_take];omega
 have h3:(256:Nat) ^ (l.take i).length<=256 ^ 7:=Nat.pow_le_pow_right (by omega) h2;have h4:(256:Nat) ^ 7=72057594037927936:=by decide
 omega
theorem zgr(l:List UInt8):be (l.take 8)<18446744073709551616:=by
 have h1:=zy6 (l.take 8);have h2:(l.take 8).length<=8:=by rw[List.length_take];omega
 have h3:(256:Nat) ^ (l.take 8).length<=256 ^ 8:=Nat.pow_le_pow_right (by omega) h2;have h4:(256:Nat) ^ 8=18446744073709551616:=by decide
 omega
def z7d(l:List UInt8)(R:Option (List Nat))(k:Nat)(ns:List Nat):Prop:=ns.length=k/\8*k<=l.length/\R=(numsL (l.drop (8*k))).map (ns ++ ·)
theorem z7d.start(l:List UInt8):z7d l (numsL l) 0 []:=⟨rfl,by omega,by simp⟩
theorem z7d.more{l:List UInt8}{R:Option (List Nat)}{k:Nat}{ns:List Nat}(h:z7d l R k ns)(hl:8*k+8<=l.length) (hb:be ((l.drop (8*k)).take 8)<9223372036854775808):z7d l R (k+1) (ns ++ [be ((l.drop (8*k)).take 8)]):=by
 refine⟨by simp[h.1],by omega,?_⟩;rw[h.2.2,z3q _ (by rw[List.length_drop];omega),if_pos hb,List.drop_drop,show 8*k+8=8*(k+1)by omega]
 cases numsL (l.drop (8*(k+1)))<;>simp
theorem z7d.bad{l:List UInt8}{R:Option (List Nat)}{k:Nat}{ns:List Nat}(h:z7d l R k ns)(hl:8*k+8<=l.length) (hb:¬ be ((l.drop (8*k)).take 8)<9223372036854775808):R=none:=by
 rw[h.2.2,z3q _ (by rw[List.length_drop];omega),if_neg hb];rfl
theorem z7d.done{l:List UInt8}{R:Option (List Nat)}{k:Nat}{ns:List Nat}(h:z7d l R k ns)(hl:l.length<=8*k):R=some ns:=by
 rw[h.2.2,List.drop_of_length_le hl];simp[numsL]
def z1w(w:World)(R:Option (List Nat))(e:Ending)(w':World):Prop:=Below w.heap.size w w' /\
 match R with
 | some ns=>∃ v,e= .returned (.tuple #[v,.bool true])/\Own w' 3 1 v ns.length (ns.map fun (n:Nat)=>Value.int .i64 n)/\∀ k,v.ownBlock=some k->w.heap.size<=k
 | none=>e= .returned (.tuple #[.slice none 0 0,.bool false])
theorem z1w.no{w w':World}{R:Option (List Nat)}(h:R=none)(hb:Below w.heap.size w w'):z1w w R (.returned (.tuple #[.slice none 0 0,.bool false])) w':=by
 subst h;exact⟨hb,rfl⟩
theorem z1w.yes{w w':World}{R:Option (List Nat)}{ns:List Nat}{v:Value}{k:Nat}(h:R=some ns)(hk:ns.length=k)(hb:Below w.heap.size w w')(ho:Own w' 3 1 v k (ns.map fun (n:Nat)=>Value.int .i64 n))(hv:∀ k,v.ownBlock=some k->w.heap.size<=k):z1w w R (.returned (.tuple #[v,.bool true])) w':=by
 subst h;subst hk;exact⟨hb,v,rfl,ho,hv⟩
theorem z6b(n:Nat)(hn:n<9223372036854775808):numsL (numB n).data.toList=some [n]:=by
 have hb:be (numB n).data.toList=n:=by
  have e:∀ k:Nat,(UInt8.ofNat k).toNat=k%256:=fun k=>by simp
  have:(numB n).data.toList = [UInt8.ofNat (n/72057594037927936),UInt8.ofNat (n/281474976710656%256),UInt8.ofNat (n/1099511627776%256),UInt8.ofNat (n/4294967296%256),UInt8.ofNat (n/16777216%256),UInt8.ofNat (n/65536%256),UInt8.ofNat (n/256%256),UInt8.ofNat (n%256)]:=rfl;rw[this];simp only[be,List.foldl_cons,List.foldl_nil,e,Nat.zero_mul,Nat.zero_add,Nat.mod_mod];omega
 have hl:(numB n).data.toList.length=8:=rfl;rw[z3q _ (by omega),List.take_of_length_le (by omega),List.drop_of_length_le (by omega),hb,if_pos hn];rfl
def z7i(w:World)(l:List UInt8)(R:Option (List Nat))(k:Nat)(v:Value)(wr:World):Prop:=
 ∃ ns,z7d l R k ns/\Own wr 3 1 v k (ns.map fun (n:Nat)=>Value.int .i64 n)/\(∀ g,v.ownBlock=some g->w.heap.size<=g)/\Below w.heap.size w wr
theorem z7i.no{w:World}{l:List UInt8}{R:Option (List Nat)}{k:Nat}{v:Value}{wr:World}(h:z7i w l R k v wr)(hl:8*k+8<=l.length) (hb:¬ be ((l.drop (8*k)).take 8)<9223372036854775808):z1w w R (.returned (.tuple #[.slice none 0 0,.bool false])) wr:=by
 obtain⟨ns,h1,h2,h3,h4⟩:=h;exact z1w.no (h1.bad hl hb) h4
theorem z7i.yes{w:World}{l:List UInt8}{R:Option (List Nat)}{k:Nat}{v:Value}{wr:World}(h:z7i w l R k v wr)(hl:l.length<=8*k):z1w w R (.returned (.tuple #[v,.bool true])) wr:=by
 obtain⟨ns,h1,h2,h3,h4⟩:=h;exact z1w.yes (h1.done hl) h1.1 h4 h2 h3
theorem z7i.own{w:World}{l:List UInt8}{R:Option (List Nat)}{k:Nat}{v:Value}{wr:World}(h:z7i w l R k v wr):∃ xs,Own (wr.alloc (.cells #[.int .i64 (be ((l.drop (8*k)).take 8))] 3)) 3 1 v k xs /\
  ∀ v' w',be ((l.drop (8*k)).take 8)<9223372036854775808->8*k+8<=l.length->z0s (wr.alloc (.cells #[.int .i64 (be ((l.drop (8*k)).take 8))] 3)) 3 1 v k 1 xs [.int .i64 (be ((l.drop (8*k)).take 8))] v' w'->z7i w l R (k+1) v' w':=by
 obtain⟨ns,h1,h2,h3,h4⟩:=h;refine⟨_,h2.fr ((Fr.refl (fun _=>False) wr).alloc _) (fun _ _=>id),fun v' w' hb hl hA=>⟨_,h1.more hl hb,?_,?_,?_⟩⟩
 ·have:=hA.own
  simpa using this
 ·intro g hg;rcases hA.block g hg with h | h
  ·exact h3 g h
  ·have:=h4.size;simp at h;omega
 ·exact(h4.alloc h4.size _).grown hA.grown (Nat.le_trans h4.size (by simp)) h3
theorem za8(s:ByteArray)(hs:s.size<1000000000000)(w:World):Calls Tryz.prog 147 #[.string s] w (z1w w (numsL s.data.toList)):=by
 have h0:z7i w s.data.toList (numsL s.data.toList) 0 (.slice none 0 0) w:=⟨[],z7d.start _,Own.nil _ _ _,fun g hg=>by simp[Value.ownBlock]at hg,Below.refl _ _⟩;have hl:s.data.toList.length=s.size:=rfl;have hm:=zi7 s.data.toList
 by_cases hmod:s.size%8=0
 ·have HL:=zh hl;clear hl;have HE:Hid (∀ e w',z1w w (numsL s.data.toList) e w'->z1w w (numsL s.data.toList) e w'):=fun _ _ h=>h
  generalize numsL s.data.toList=R at *
  have H0:=zh h0;clear h0 HE;have hmd:(((s.size:Int)%8) != 0)=false:=by rw[bne_eq_false_iff_eq];omega
  go_enter Tryz.func147,Tryz.ntmps147;go_wp2_with fail
  go_loopw [4,5] (fun v a wr=>∃ k:Nat,a= .int .i64 (8*(k:Int))/\8*k<=s.size/\z7i w s.data.toList R k v wr) (fun _ a _=>s.size-(intOf a).toNat)
  case atStart=>exact⟨0,rfl,by omega,H0.out⟩
  case round =>
   obtain⟨k,rfl,hk,hN⟩:=hrel;have HN:=zh hN;clear hN H0
   by_cases hlt:8*k<s.size
   ·have hk8:8*k+8<=s.size:=by omega
    have hdk:decide (8*(k:Int)<(s.size:Int))=true:=by simp;omega
    go_wp2_with fail
    go_loop [6,7,18] (fun x _ c=>∃ i:Nat,i<=8/\c= .int .i64 i/\x= .int .u64 (be ((s.data.toList.drop (8*k)).take i):Nat)) (fun _ _ c=>8-(intOf c).toNat)
    case atStart=>exact⟨0,by omega,rfl,rfl⟩
    case round =>
     obtain⟨i,hi,rfl,rfl⟩:=hrel
     by_cases hi8:i<8
     ·have HS:=zh (znj s.data.toList k i (by rw[HL.out];omega));have hsm:=zk3 (s.data.toList.drop (8*k)) i hi8;generalize be ((s.data.toList.drop (8*k)).take i)=x at *
      have hlti:8*k+i<s.size:=by omega
      go_wp2
      go_round
      case rel=>exact⟨i+1,by omega,by go_num,by rw[zos x _ hsm (UInt8.toNat_lt _),HS.out];rfl⟩
      case measure=>simp[intOf];omega
     ·obtain rfl:i=8:=by omega
      have hx64:=zgr (s.data.toList.drop (8*k));obtain⟨xs,ho,hstep⟩:=HN.out.own;have hno:=HN.out.no (by rw[HL.out];omega);have hl8:8*k+8<=s.data.toList.length:=by rw[HL.out];omega
      generalize be ((s.data.toList.drop (8*k)).take 8)=x at *
      have HO:=zh ho;have HST:=zh hstep;have HNO:=zh hno;have HL8:=zh hl8;clear ho hstep hno hl8;have hone:∀ u∈[Value.int .i64 (x:Int)],u.oneCell'=true:=by intro u hu;rw[List.mem_singleton.1 hu];rfl
      have hks:k<1000000000000:=by omega
      have hmx:k+1<=maxLen:=by unfold maxLen;omega
      by_cases hx:x<9223372036854775808
      ·have hsh:(((x:Int)/9223372036854775808) != 0)=false:=by rw[bne_eq_false_iff_eq];omega
       go_wp2_with (at_builtin;refine z08 rfl _ _ 75 75 rfl intT intT _ k xs rfl HO.out _ 1 _ [.int .i64 x] rfl rfl ?hnews hone hmx (by omega) ?_);intro v' w' hA;have HR:=zh (HST.out v' w' hx HL8.out hA);clear hA;go_wp2;go_roundw
       case rel=>exact⟨k+1,by go_num,by omega,HR.out⟩
       case measure=>simp[intOf];omega
      ·have hsh:(((x:Int)/9223372036854775808) != 0)=true:=by rw[bne_iff_ne];omega
       have hR:=HNO.out hx;have HR:=zh hR;clear hR;go_wp2
       go_ret2
       exact HR.out
   ·have hdk:decide (8*(k:Int)<(s.size:Int))=false:=by simp;omega
    have HR:=zh (HN.out.yes (by rw[HL.out];omega));go_wp2
    go_ret2
    exact HR.out
 ·have HR:=zh (z1w.no (hm (by rw[hl];exact hmod)) (Below.refl w.heap.size w));have hmd:(((s.size:Int)%8) != 0)=true:=by rw[bne_iff_ne];omega
  generalize numsL s.data.toList=R at *
  clear hm h0 hl;go_enter Tryz.func147,Tryz.ntmps147;go_wp2
  go_ret2
  exact HR.out
abbrev IsB(w:World)(B b:Nat)(l:List UInt8):Prop:=Lib.IsBuilder 211 5 B b (Lib.byteCells l) w
abbrev IsBU(w:World)(B b:Nat)(l:List UInt8):Prop:=Lib.BuilderAt 211 5 B b (.pointer (some ⟨b,0,none⟩)) (Lib.byteCells l) w
theorem ze3(b:Nat)(w:World)(h0:w.cell? ⟨b,0,none⟩=some (.pointer (some ⟨b,0,none⟩))) :
  Calls Tryz.prog 211 #[.pointer (some ⟨b,0,none⟩)] w fun e w'=>e= .returned (.tuple #[])/\w=w':=by
 obtain⟨j,hj,_⟩:=Option.map_eq_some_iff.1 (show(Tryz.prog.info? 211).map (·.size)=some 2 by kernel_rfl);go_enter Tryz.func211,Tryz.ntmps211;go_wp2;rw[Lib.run_neq_ptr_same w _ (by kernel_rfl) hj];go_wp2
 go_end0
 exact⟨rfl,rfl⟩
theorem zc3(b:Nat)(w:World)(h0:w.cell? ⟨b,0,none⟩=some (.pointer none))(hsh:w.shape? b=some (211,2))(hfz:w.frozen? ⟨b,0,none⟩=false) :
  Calls Tryz.prog 211 #[.pointer (some ⟨b,0,none⟩)] w fun e w'=>e= .returned (.tuple #[])/\w.setCell ⟨b,0,none⟩ (.pointer (some ⟨b,0,none⟩))=w':=by
 obtain⟨j,hj,hjs⟩:=Option.map_eq_some_iff.1 (show(Tryz.prog.info? 211).map (·.size)=some 2 by kernel_rfl);go_enter Tryz.func211,Tryz.ntmps211;go_wp2;rw[Lib.run_to_unsafe w ⟨b,0,none⟩ (by kernel_rfl) (by kernel_rfl) hj (by rw[hjs];decide) hsh (Nat.zero_lt_succ 1)];simp only[Result.andThen];rw[Oper.upon_value];go_wp2;rw[run_callFunc_extern Tryz.func244 (by kernel_rfl) (by kernel_rfl) (by kernel_rfl) (e:=Extern.AbiNoEscape.same) (by kernel_rfl)];rw[Lib.run_noEscape];simp only[Result.andThen];rw[Oper.upon_value];go_wp2;rw[Lib.run_from_unsafe w ⟨b,0,none⟩ (by kernel_rfl) (by kernel_rfl) hj hsh (by kernel_rfl)];simp only[Result.andThen];rw[Oper.upon_value];go_wp2
 go_end0
 exact⟨rfl,rfl⟩
def zyc(B b:Nat)(l:List UInt8)(w:World)(e:Ending)(w':World):Prop:=e= .returned (.tuple #[])/\IsBU w' B b l/\Below B w w'
theorem z9u(B b:Nat)(l:List UInt8)(w:World)(h:IsB w B b l) :
  Calls Tryz.prog 211 #[.pointer (some ⟨b,0,none⟩)] w (zyc B b l w):=by
 rcases h with h | h
 ·refine(zc3 b w h.cell0 h.shape (by obtain⟨_,v,hb,_⟩:=h;exact frozen_of_row w b 0 _ _ hb)).mono fun e w' ⟨he,hw⟩=>⟨he,?_,?_⟩
  ·obtain⟨hB,v,hb,ho,hne⟩:=h;subst hw;refine⟨hB,v,by rw[setCell_eq_setRow w b 0 _ _ _ _ hb];exact setRow_heap w b _ _ _ _ hb,?_,hne⟩;exact ho.kept (row:=some b) ⟨rfl,rfl,rfl,by simp,fun k _ hk=>Below.heap_setCell _ _ _ _ (fun e=>hk (by rw[e]))⟩ (.inr hne)
  ·subst hw;exact(Below.refl B w).setCell h.1 _
 ·refine(ze3 b w h.cell0).mono fun e w' ⟨he,hw⟩ => ?_
  subst hw;exact⟨he,h,Below.refl _ _⟩
def zxl(B b:Nat)(l:List UInt8)(w:World)(v:Value)(e:Ending)(w':World):Prop:=e= .returned v/\IsB w' B b l/\Below B w w'
theorem zfv(l l2:List UInt8):Lib.byteCells (l++l2)=Lib.byteCells l++Lib.byteCells l2:=by simp[Lib.byteCells]
theorem zoc{w w2:World}{B b:Nat}{l l2:List UInt8}{v':Value}(h:IsBU w B b l)(ho:w2.ownsRow B 5 1 v' (l.length+l2.length) (Lib.byteCells l++Lib.byteCells l2))
  (hb:w2.heap[b]?=w.heap[b]?) (hne:v'.ownBlock≠some b):IsB (w2.setCell ⟨b,1,none⟩ v') B b (l++l2):=by
 obtain⟨hBb,v,hbk,_⟩:=h;rw[<- hb]at hbk;refine .inr ⟨hBb,v',by rw[setCell_eq_setRow w2 b 1 _ _ _ _ hbk];exact setRow_heap w2 b _ _ _ _ hbk,?_,hne⟩;rw[zfv,List.length_append,Lib.byteCells_length,Lib.byteCells_length];exact ho.kept (row:=some b) ⟨rfl,rfl,rfl,by simp,fun k _ hk=>Below.heap_setCell _ _ _ _ (fun e=>hk (by rw[e]))⟩ (.inr hne)
theorem zfs(B b:Nat)(l:List UInt8)(c:UInt8)(w:World)(h:IsB w B b l)(hl:l.length<1000000000000)(hB:B<=w.heap.size) :
  Calls Tryz.prog 160 #[.pointer (some ⟨b,0,none⟩),.int .u8 c.toNat] w (zxl B b (l ++ [c]) w .nilIface):=by
 have HC:=zh (z9u B b l w h)
 have HP:Hid (∀ w1,IsBU w1 B b l->Below B w w1->b<w1.heap.size/\∃ v,w1.cell? ⟨b,1,none⟩=some v/\∃ g c' w2,(∀ ty,(Builtin.append_ #[209,209] ty #[v,.slice (some ⟨w1.heap.size,0,none⟩) 1 1]).run Tryz.prog (w1.alloc (.cells #[.int .u8 c.toNat] 5))= .ok (.slice (some ⟨g,0,none⟩) (l.length+1) c') w2) /\
   w2.cell? ⟨b,1,none⟩=some v/\w2.frozen? ⟨b,1,none⟩=false/\IsB (w2.setCell ⟨b,1,none⟩ (.slice (some ⟨g,0,none⟩) (l.length+1) c')) B b (l ++ [c])/\Below B w (w2.setCell ⟨b,1,none⟩ (.slice (some ⟨g,0,none⟩) (l.length+1) c'))):=fun w1 h1 hb1=>by
  have h1':=h1;obtain⟨hBb,v,hbk,ho,hne⟩:=h1;have hbw:=z02 hbk;have hB1:B<=w1.heap.size:=Nat.le_trans hB hb1.size;refine⟨hbw,v,by rw[cell_of_row w1 b 1 _ _ _ hbk];rfl,?_⟩;obtain⟨i,hi,hz0,hz1,hz2⟩:=info_parts (show(Tryz.prog.info? 5).map (fun i=>(i.zero,i.size,i.bytes))=some (some (.int .u8 0),1,1)by kernel_rfl);rw[Lib.byteCells_length]at ho;obtain⟨v',w2,hr,ho2,hg2,hnil⟩:=run_append_own (P:=Tryz.prog) (w1.alloc (.cells #[.int .u8 c.toNat] 5)) B 209 0 5 i _ 1 1 (by kernel_rfl) hi hz0 hz1 hz2 rfl (by decide) v l.length (Lib.byteCells l) (ho.alloc _)
   ⟨w1.heap.size,0,none⟩ 1 1 [.int .u8 c.toNat] rfl (fun j u hj=>by rw[Addr.add_lit,cell_of_row _ _ _ _ _ _ (heap_alloc_new w1 _)];simpa using hj) (by intro u hu;rw[List.mem_singleton.1 hu];rfl) (by unfold maxLen;omega) (by omega) (by simp;omega)
  obtain⟨g,c',cur,hv',hgB,hgc,hnc,hcm,hcs,ht⟩:∃ g c' cur,v' = .slice (some ⟨g,0,none⟩) (l.length+1) c'/\B<=g/\w2.heap[g]?=some (.cells cur 5 (0,0))/\l.length+1<=c'/\c'<=maxLen/\cur.size=c'*1/\cur.toList.take ((l.length+1)*1)=Lib.byteCells l ++ [.int .u8 c.toNat]:=by
   rcases ho2.2 with⟨_,h0⟩ | h
   ·omega
   ·exact h
  subst hv';have hgb:g≠b:=by
   intro e;subst e;have hbk2:w2.heap[g]?=some (.cells #[.pointer (some ⟨g,0,none⟩),v] 211 (0,0)):=by
    rw[hg2.block g (by simp;omega) (fun e=>hne e.symm),heap_alloc_old w1 _ hbw];exact hbk
   rw[hgc]at hbk2;simp at hbk2
  have hb2:w2.heap[b]?=w1.heap[b]?:=by rw[hg2.block b (by simp;omega) (fun e=>hne e.symm),heap_alloc_old w1 _ hbw]
  have hbk2:=hbk;rw[<- hb2]at hbk2;refine⟨g,c',w2,fun ty=>hr,by rw[cell_of_row w2 b 1 _ _ _ hbk2];rfl,frozen_of_row w2 b 1 _ _ hbk2,?_,?_⟩
  ·exact zoc h1' (by simpa [Lib.byteCells]using ho2) hb2 (by simpa [Value.ownBlock]using hgb)
  ·refine Below.setCell ((hb1.alloc hB1 _).grown hg2 (by simp;omega) (fun k hk => ?_)) hBb _;exact(ho.lt k hk).1
 clear h;go_enter Tryz.func160,Tryz.ntmps160;go_wp2_with fail;refine HC.out.mono ?_;rintro e w1 ⟨rfl,hU,hbl⟩;obtain⟨hbw,v,hc1,g,c',w2,hr,hc2,hf2,hQ1,hQ2⟩:=HP.out w1 hU hbl;have HR:=zh hr;have HQ1:=zh hQ1;have HQ2:=zh hQ2;clear hr hQ1 hQ2 hU hbl;go_wp2_with (at_builtin;refine z0c rfl _ _ (z16 rfl rfl rfl (HR.out _)) ?_);go_ret;exact⟨rfl,HQ1.out,HQ2.out⟩
theorem zez(B b:Nat)(l:List UInt8)(w:World)(h:IsB w B b l)(h0:l≠[]) :
  Calls Tryz.prog 163 #[.pointer (some ⟨b,0,none⟩)] w fun e w'=>e= .returned (.string ⟨l.toArray⟩)/\Below B w w':=by
 obtain⟨p,hB,v,hbk,hown,hne⟩:∃ p,Lib.BuilderAt 211 5 B b p (Lib.byteCells l) w:=by
  rcases h with h | h
  ·exact⟨_,h⟩
  ·exact⟨_,h⟩
 have hl0:l.length≠0:=by simpa using h0
 rw[Lib.byteCells_length]at hown;obtain⟨g,cap,cur,rfl,hbg,hg,hnc,hcm,hcs,htake⟩:∃ g cap cur,v= .slice (some ⟨g,0,none⟩) l.length cap/\B<=g/\w.heap[g]?=some (.cells cur 5 (0,0))/\l.length<=cap/\cap<=maxLen/\cur.size=cap*1/\cur.toList.take (l.length*1)=Lib.byteCells l:=by
  rcases hown.2 with⟨_,hz⟩ | ⟨g,cap,cur,hv,r⟩
  ·exact absurd hz hl0
  ·exact⟨g,cap,cur,hv,r⟩
 have c1:w.drew.cell? ⟨b,1,none⟩=some (.slice (some ⟨g,0,none⟩) l.length cap):=by
  have:w.drew.heap[b]?=some (.cells #[p,.slice (some ⟨g,0,none⟩) l.length cap] 211 (0,0)):=hbk;rw[cell_of_row _ _ _ _ _ _ this];rfl
 have hSD:(Builtin.unsafeSliceData_ #[209] 255 #[.slice (some ⟨g,0,none⟩) l.length cap]).run Tryz.prog w.drew= .ok (.pointer (some ⟨g,0,none⟩)) w.drew:=
  Lib.run_unsafeSliceData_row _ _ _ _ _ _ (by omega)
 have hUS:(Builtin.unsafeString_ #[255,3] 9 #[.pointer (some ⟨g,0,none⟩),.int .i64 l.length]).run Tryz.prog w.drew= .ok (.string ⟨l.toArray⟩) (w.drew.freeze ⟨g,0,none⟩ l.length):=by
  refine Lib.run_unsafeString_row w.drew 255 3 9 5 (by kernel_rfl) (by kernel_rfl) g cur.size (by have hg':w.drew.heap[g]?=some (.cells cur 5 (0,0)):=hg;simp[World.shape?,hg']) l h0 (by omega) (by unfold maxLen at hcm;omega) ?_;intro j x hx;have:=hown.cells (g:=g) rfl j (.int .u8 x.toNat) (by simp[Lib.byteCells,hx]);exact this
 have HE:Hid (Below B w (w.drew.freeze ⟨g,0,none⟩ l.length)):=by
  refine⟨?_,?_,?_,?_,fun k hk => ?_⟩
  ·unfold World.freeze;split<;>rfl
  ·unfold World.freeze;split<;>rfl
  ·unfold World.freeze;split<;>rfl
  ·unfold World.freeze;split
   ·exact Nat.le_refl _
   ·show w.heap.size<=(w.heap.modify g _).size
    simp
  ·unfold World.freeze;split
   ·rfl
   ·simp only[Array.getElem?_modify];rw[if_neg (by omega)];rfl
 clear h hbk hown hne hg hcs htake hcm hnc;go_enter Tryz.func163,Tryz.ntmps163;go_wp2
 go_region
 all_goals (go_wp2;go_ret;exact⟨rfl,HE.out⟩)
theorem zft(s:ByteArray):Lib.byteCells s.data.toList=Lib.strCells s:=rfl
theorem zb5(B b:Nat)(l:List UInt8)(s:ByteArray)(w:World)(h:IsB w B b l)(hl:l.length+s.size<1000000000000)(h0:0<l.length+s.size)(hB:B<=w.heap.size) :
  Calls Tryz.prog 161 #[.pointer (some ⟨b,0,none⟩),.string s] w (zxl B b (l++s.data.toList) w (.tuple #[.int .i64 s.size,.nilIface])):=by
 have HC:=zh (z9u B b l w h)
 have HP:Hid (∀ w1,IsBU w1 B b l->Below B w w1->b<w1.heap.size/\∃ v,w1.cell? ⟨b,1,none⟩=some v/\∃ g c' w2,(∀ ty,(Builtin.append_ #[209,9] ty #[v,.string s]).run Tryz.prog w1= .ok (.slice (some ⟨g,0,none⟩) (l.length+s.size) c') w2) /\
   w2.cell? ⟨b,1,none⟩=some v/\w2.frozen? ⟨b,1,none⟩=false/\IsB (w2.setCell ⟨b,1,none⟩ (.slice (some ⟨g,0,none⟩) (l.length+s.size) c')) B b (l++s.data.toList)/\Below B w (w2.setCell ⟨b,1,none⟩ (.slice (some ⟨g,0,none⟩) (l.length+s.size) c'))):=fun w1 h1 hb1=>by
  have h1':=h1;obtain⟨hBb,v,hbk,ho,hne⟩:=h1;have hbw:=z02 hbk;have hB1:B<=w1.heap.size:=Nat.le_trans hB hb1.size;refine⟨hbw,v,by rw[cell_of_row w1 b 1 _ _ _ hbk];rfl,?_⟩;obtain⟨i,hi,hz0,hz1,hz2⟩:=info_parts (show(Tryz.prog.info? 5).map (fun i=>(i.zero,i.size,i.bytes))=some (some (.int .u8 0),1,1)by kernel_rfl);rw[Lib.byteCells_length]at ho;obtain⟨v',w2,hr,ho2,hg2,hnil⟩:=Lib.run_append_own_string (P:=Tryz.prog) w1 B 209 9 0 5 i (by kernel_rfl) (by kernel_rfl) hi hz0 hz1 hz2 v l.length (Lib.byteCells l) ho s
   (by unfold maxLen;omega) (by omega) hB1
  obtain⟨g,c',cur,hv',hgB,hgc,hnc,hcm,hcs,ht⟩:∃ g c' cur,v' = .slice (some ⟨g,0,none⟩) (l.length+s.size) c'/\B<=g/\w2.heap[g]?=some (.cells cur 5 (0,0))/\l.length+s.size<=c'/\c'<=maxLen/\cur.size=c'*1/\cur.toList.take ((l.length+s.size)*1)=Lib.byteCells l++Lib.strCells s:=by
   rcases ho2.2 with⟨_,h0⟩ | h
   ·omega
   ·exact h
  subst hv';have hgb:g≠b:=by
   intro e;subst e;have hbk2:w2.heap[g]?=some (.cells #[.pointer (some ⟨g,0,none⟩),v] 211 (0,0)):=by
    rw[hg2.block g hbw (fun e=>hne e.symm)];exact hbk
   rw[hgc]at hbk2;simp at hbk2
  have hb2:w2.heap[b]?=w1.heap[b]?:=hg2.block b hbw (fun e=>hne e.symm);have hbk2:=hbk;rw[<- hb2]at hbk2;refine⟨g,c',w2,fun ty=>hr,by rw[cell_of_row w2 b 1 _ _ _ hbk2];rfl,frozen_of_row w2 b 1 _ _ hbk2,?_,?_⟩
  ·exact zoc h1' (by simpa [zft]using ho2) hb2 (by simpa [Value.ownBlock]using hgb)
  ·refine Below.setCell (hb1.grown hg2 hB1 (fun k hk => ?_)) hBb _;exact(ho.lt k hk).1
 clear h;go_enter Tryz.func161,Tryz.ntmps161;go_wp2_with fail;refine HC.out.mono ?_;rintro e w1 ⟨rfl,hU,hbl⟩;obtain⟨hbw,v,hc1,g,c',w2,hr,hc2,hf2,hQ1,hQ2⟩:=HP.out w1 hU hbl;have HR:=zh hr;have HQ1:=zh hQ1;have HQ2:=zh hQ2;clear hr hQ1 hQ2 hU hbl;go_wp2_with (at_builtin;refine z0c rfl _ _ (z16 rfl rfl rfl (HR.out _)) ?_)
 go_ret2
 exact⟨rfl,HQ1.out,HQ2.out⟩
theorem zhb{w w':World}{B b:Nat}{l:List UInt8}(h:IsB w B b l)(hb:Below w.heap.size w w'):IsB w' B b l:=by
 have hg:w.grownBy w' none:=⟨hb.os,hb.tape,hb.output,hb.size,fun k hk _=>hb.block k hk⟩;rcases h with⟨h1,v,h2,h3,h4⟩ | ⟨h1,v,h2,h3,h4⟩
 ·exact .inl ⟨h1,v,by rw[hb.block b (z02 h2)];exact h2,h3.kept hg (by cases v.ownBlock<;>simp),h4⟩
 ·exact .inr ⟨h1,v,by rw[hb.block b (z02 h2)];exact h2,h3.kept hg (by cases v.ownBlock<;>simp),h4⟩
def z0w(w:World)(v:Value)(l:List Int):Prop:=
 (v= .slice none 0 0/\l = [])\/∃ a c,v= .slice (some a) l.length c/\∀ j x,l[j]?=some x->w.cell? (a.add j)=some (.int .i64 x)
theorem z0w.below{w w':World}{v:Value}{l:List Int}(h:z0w w v l)(hb:Below w.heap.size w w'):z0w w' v l:=by
 rcases h with h | ⟨a,c,h1,h3⟩
 ·exact .inl h
 ·exact .inr ⟨a,c,h1,fun j x hj=>by rw[hb.cell (p:=a.add j) (World.block_lt_of_cell? w _ (h3 j x hj))];exact h3 j x hj⟩
def keyBytes(t:Nat)(l:List Int):List UInt8:=UInt8.ofNat t::l.flatMap fun n=>be8 n.toNat
def keyL(t:Nat)(l:List Int):ByteArray:=if l.any (fun n=>decide (n<0))then⟨#[]⟩else⟨(keyBytes t l).toArray⟩
theorem z5z(n:Nat):(be8 n).length=8:=rfl
theorem z4q(t:Nat)(l:List Int):(keyBytes t l).length=1+8*l.length:=by
 unfold keyBytes
 induction l with
 | nil=>rfl
 | cons x l ih=>simp only[List.flatMap_cons,List.length_cons,List.length_append,z5z]at ih ⊢;omega
theorem z9o(t:Nat)(l:List Int)(n:Int):keyBytes t (l ++ [n])=keyBytes t l++be8 n.toNat:=by simp[keyBytes]
theorem zkn{t:Nat}{l:List Int}{n:Int}(hn:n∈l)(h:n<0):keyL t l=⟨#[]⟩:=by
 unfold keyL;rw[if_pos];exact List.any_eq_true.2 ⟨n,hn,by simpa using h⟩
theorem z9k{t:Nat}{l:List Int}(h:∀ n∈l,¬ n<0):keyL t l=⟨(keyBytes t l).toArray⟩:=by
 unfold keyL;rw[if_neg];intro hx;obtain⟨n,hn,h1⟩:=List.any_eq_true.1 hx;exact h n hn (by simpa using h1)
def zga(t:Nat)(l:List Int)(w:World)(k:Nat)(wr:World):Prop:=k<=l.length/\(∀ n∈l.take k,¬ n<0)/\IsB wr w.heap.size w.heap.size (keyBytes t (l.take k))/\Below w.heap.size w wr
theorem z2h{α:Type}(l:List α)(k:Nat)(x:α)(h:l[k]?=some x):l.take (k+1)=l.take k ++ [x]:=by
 rw[List.take_add_one,h];rfl
theorem zdm(n:Nat):(numB n).data.toList=be8 n:=rfl
theorem z5g(t:Nat)(ht1:1<=t)(ht2:t<=255)(v:Value)(l:List Int)(w:World)(hv:z0w w v l)(hl:l.length<1000000000)(hr:∀ n∈l,n<9223372036854775808) :
  Calls Tryz.prog 90 #[.int .i64 t,v] w fun e w'=>e= .returned (.string (keyL t l))/\Below w.heap.size w w':=by
 obtain⟨ad,c,hve⟩:∃ ad c,v= .slice ad l.length c:=by
  rcases hv with⟨rfl,rfl⟩ | ⟨a,c,h1,_⟩
  ·exact⟨none,0,rfl⟩
  ·exact⟨some a,c,h1⟩
 have HC:Hid (∀ wr k n,zga t l w k wr->l[k]?=some n->∃ a,ad=some a/\wr.cell? (a.add k)=some (.int .i64 n)):=fun wr k n hb0 hk=>by
  have hb:=hb0.2.2.2;rcases hv with⟨_,rfl⟩ | ⟨a,c',h1,h3⟩
  ·simp at hk
  ·have:ad=some a:=by rw[hve]at h1;cases h1;rfl
   exact⟨a,this,by rw[hb.cell (p:=a.add k) (World.block_lt_of_cell? w _ (h3 k n hk))];exact h3 k n hk⟩
 subst hve;clear hv;have htw:(UInt8.ofNat t).toNat=t:=by simp;omega
 have hB0:Hid (∀ w1,w1=w.alloc (.cells #[.pointer none,.slice none 0 0] 211)->IsB w1 w.heap.size w.heap.size []):=fun w1 hw=>by
  subst hw;exact .inl ⟨Nat.le_refl _,_,heap_alloc_new w _,⟨by simp[Lib.byteCells],.inl ⟨rfl,rfl⟩⟩,by simp[Value.ownBlock]⟩
 have hb0:Below w.heap.size w (w.alloc (.cells #[.pointer none,.slice none 0 0] 211)):=(Below.refl _ w).alloc (Nat.le_refl _) _;have HW:=zfs w.heap.size w.heap.size [] (UInt8.ofNat t) (w.alloc (.cells #[.pointer none,.slice none 0 0] 211)) (hB0.out _ rfl) (by simp) (by simp);rw[htw]at HW;have HW:=zh (HW.mono (R':=fun e w'=>e= .returned .nilIface/\zga t l w 0 w') fun e w' ⟨he,h1,h2⟩=>⟨he,by omega,by simp,by simpa [keyBytes]using h1,hb0.trans h2⟩);have HN:Hid (∀ wr k,zga t l w k wr->∀ n:Nat,l[k]?=some (n:Int)->Calls Tryz.prog 162 #[.int .i64 n] wr fun e w'=>e= .returned (.string (numB n))/\zga t l w k w'):=fun wr k hk n hn=>by
  have hmem:(n:Int)∈l:=List.mem_of_getElem? hn;have hn2:=hr _ hmem;refine(zjq n wr (by omega)).mono fun e w' ⟨he,hb⟩=>⟨he,hk.1,hk.2.1,zhb hk.2.2.1 hb,hk.2.2.2.trans (hb.mono hk.2.2.2.size)⟩
 have HS:Hid (∀ wr k,zga t l w k wr->∀ n:Nat,l[k]?=some (n:Int)->Calls Tryz.prog 161 #[.pointer (some ⟨w.heap.size,0,none⟩),.string (numB n)] wr fun e w'=>e= .returned (.tuple #[.int .i64 8,.nilIface])/\zga t l w (k+1) w'):=fun wr k hk n hn=>by
  have hkl:k<l.length:=(List.getElem?_eq_some_iff.1 hn).1;have hln:(keyBytes t (l.take k)).length+(numB n).size<1000000000000:=by
   rw[z4q,show(numB n).size=8 from rfl,List.length_take];omega
  refine(zb5 w.heap.size w.heap.size _ (numB n) wr hk.2.2.1 hln (by rw[show(numB n).size=8 from rfl];omega) hk.2.2.2.size).mono fun e w' ⟨he,h1,h2⟩=>⟨he,by omega,?_,?_,hk.2.2.2.trans h2⟩
  ·rw[z2h l k _ hn];intro m hm;rcases List.mem_append.1 hm with hm | hm
   ·exact hk.2.1 m hm
   ·rw[List.mem_singleton.1 hm];omega
  ·rw[z2h l k _ hn,z9o];exact h1
 have HT:Hid (∀ wr,zga t l w l.length wr->Calls Tryz.prog 163 #[.pointer (some ⟨w.heap.size,0,none⟩)] wr fun e w'=>e= .returned (.string (keyL t l))/\Below w.heap.size w w'):=fun wr hk=>by
  obtain⟨_,h1,h2,h3⟩:=hk;rw[List.take_length]at h1 h2;rw[z9k h1];exact(zez w.heap.size w.heap.size _ wr h2 (by unfold keyBytes;simp)).mono fun e w' ⟨he,hb⟩=>⟨he,h3.trans hb⟩
 have HNEG:Hid (∀ wr k n,zga t l w k wr->l[k]?=some n->n<0->(⟨#[]⟩:ByteArray)=keyL t l/\Below w.heap.size w wr):=fun wr k n hk hn h=>⟨(zkn (List.mem_of_getElem? hn) h).symm,hk.2.2.2⟩
 have hget:∀ k,k<l.length->∃ n,l[k]?=some n:=fun k hk=>⟨l[k],List.getElem?_eq_getElem hk⟩
 have HGET:=zh hget;have hln:(l.length:Int)<9223372036854775807:=by omega
 have d1:decide ((t:Int)<1)=false:=by simp;omega
 have d2:decide ((255:Int)<(t:Int))=false:=by simp;omega
 clear hB0 hb0 hget hr htw;generalize hm:l.length=m at *
 generalize keyL t l=key at *
 generalize hKT:zga t l w=KT at *
 clear hKT;have HM:=zh hm;clear hm;go_enter Tryz.func90,Tryz.ntmps90;go_wp2_with fail;refine HW.out.mono ?_;rintro e w1 ⟨rfl,hK0⟩;have HK0:=zh hK0;clear hK0;go_wp2_with fail
 go_loopw [19] (fun i wr=>∃ k:Nat,i= .int .i64 k/\k<=m/\KT k wr) (fun i _=>m-(intOf i).toNat)
 case atStart=>exact⟨0,rfl,by omega,HK0.out⟩
 case round =>
  obtain⟨k,rfl,hk,hN⟩:=hrel;have HK:=zh hN;clear hN HK0
  by_cases hlt:k<m
  ·obtain⟨n,hn⟩:=HGET.out k hlt;obtain⟨a,rfl,hc⟩:=HC.out wr k n HK.out hn;have HNk:=zh hn;clear hn
   by_cases hneg:n<0
   ·have hd:decide (n<0)=true:=by simpa using hneg
    have hE:=HNEG.out wr k n HK.out HNk.out hneg;have HE:=zh hE;clear hE;go_wp2;go_ret;exact⟨zis HE.out.1,HE.out.2⟩
   ·obtain⟨n,rfl⟩:=Int.eq_ofNat_of_zero_le (Int.not_lt.1 hneg);have hd:decide ((n:Int)<0)=false:=by simp
    clear hneg;go_wp2_with fail;refine(HN.out wr k HK.out n HNk.out).mono ?_;rintro e w2 ⟨rfl,hK2⟩;have HK2:=zh hK2;clear hK2;go_wp2_with fail;refine(HS.out w2 k HK2.out n HNk.out).mono ?_;rintro e w3 ⟨rfl,hK3⟩;have HK3:=zh hK3;clear hK3;go_wp2;go_roundw
    case rel=>exact⟨k+1,by go_num,by omega,HK3.out⟩
    case measure=>simp[intOf];omega
  ·obtain rfl:k=m:=by omega
   go_wp2_with (go_at_call 163;refine(HT.out _ HK.out).mono ?_;rintro e w' ⟨rfl,hb⟩);go_ret;exact⟨rfl,hb⟩
end Go.Proofs.YtnkilceibkkjlaaGreat
