/- What is proved here: the reference's Num: the eight bytes of a number that is not below nought. the reference's Nums at any text. the reference's Key of a table and whichever numbers. Its condition: fewer than 10^9 numbers, each below 2^63. keys.Key, and the reference's, of one, two or three numbers that the caller lays into a new slice. Their condition: each number below 2^63. cell.Row, cell.Int over a store that hol -/
import Derived.Test.YtpojljieakdgiaaGreatDNum
import Derived.Test.YtpojljieakdgiaaGreatDStore
import Derived.Test.YtpojljieakdgiaaGreatDRStore
set_option maxRecDepth 100000
set_option maxHeartbeats 16000000
namespace Go.Proofs.YtpojljieakdgiaaGreat
open Go.RowKit
theorem bytesT:SliceT Tryz.prog 188 5 (.int .u8 0) 1 1:=⟨by kernel_rfl,by kernel_rfl,rfl,by decide⟩
def bytesV (l:List UInt8):List Value:=l.map fun (b:UInt8)=>Value.int .u8 (b.toNat:Int)
theorem bytesV_len (l:List UInt8):(bytesV l).length=l.length:=List.length_map _
theorem fold_bytes:∀ (l:List UInt8) (s:ByteArray),(l.map (fun (b:UInt8)=>(b.toNat:Int))).foldl (fun r n=>r.push (UInt8.ofNat n.toNat)) s=⟨(s.data.toList ++ l).toArray⟩
 | [],s=>by cases s; simp
 | x :: l,s=>by
  simp only [List.map_cons,List.foldl_cons]
  rw [fold_bytes l]
  cases s
  simp [ByteArray.push]
theorem run_conv_own {w:World} {g n c:Nat} {l:List UInt8} (h:Own w 5 1 (.slice (some ⟨g,0,none⟩) n c) n (bytesV l)) :
  (convert 188 9 (.slice (some ⟨g,0,none⟩) n c)).run Tryz.prog w = .ok (.string ⟨l.toArray⟩) w:=by
 have hl:l.length=n:=by have:=h.1; rw [bytesV_len] at this; omega
 rw [run_convert_bytes_string _ _ _ 5 _ _ _ (by kernel_rfl) (by kernel_rfl) (by kernel_rfl)]
 rw [run_bytesToString _ _ n c (l.map (fun (b:UInt8)=>(b.toNat:Int)))]
 ·rw [fold_bytes]
  simp
 ·have:=run_loadCells_list (P:=Tryz.prog) w ⟨g,0,none⟩ (bytesV l) (fun j v hj=>h.cells (g:=g) rfl j v hj)
  rw [bytesV_len,hl] at this
  simpa [bytesV,Function.comp_def] using this
theorem news_one (w:World) (x:Value) (t:TypeId):∀ j u,[x][j]? = some u→(w.alloc (.cells #[x] t)).cell? ((⟨w.heap.size,0,none⟩:Addr).add j)=some u:=fun j u hj=>by
 rw [Addr.add_lit,cell_of_row _ _ _ _ _ _ (heap_alloc_new w _)]
 simpa using hj
theorem one_u8 (x:Int):∀ u∈[Value.int .u8 x],u.oneCell'=true:=by intro u hu; rw [List.mem_singleton.1 hu]; rfl
def NumTo (w:World) (n k:Nat) (v:Value) (wr:World):Prop:=Own wr 5 1 v k (bytesV ((be8 n).take k))∧(∀ g,v.ownBlock=some g→w.heap.size≤g)∧Below w.heap.size w wr
theorem NumTo.next {w:World} {n k:Nat} {v:Value} {wr:World} (h:NumTo w n k v wr) (b:Int) (hb:(be8 n)[k]?.map (fun (b:UInt8)=>(b.toNat:Int))=some b) :
  ∃ xs,Own (wr.alloc (.cells #[.int .u8 b] 5)) 5 1 v k xs∧∀ v' w',Appended (wr.alloc (.cells #[.int .u8 b] 5)) 5 1 v k 1 xs [.int .u8 b] v' w'→NumTo w n (k+1) v' w':=by
 obtain ⟨h1,h2,h3⟩:=h
 refine ⟨_,h1.fr ((Fr.refl (fun _=>False) wr).alloc _) (fun _ _=>id),fun v' w' hA=>⟨?_,?_,?_⟩⟩
 ·have:=hA.own
  obtain ⟨x,hx,rfl⟩:=Option.map_eq_some_iff.1 hb
  rw [List.take_add_one,hx]
  simpa [bytesV] using this
 ·intro g hg
  rcases hA.block g hg with h | h
  ·exact h2 g h
  ·have:=h3.size
   simp at h
   omega
 ·exact (h3.alloc h3.size _).grown hA.grown (Nat.le_trans h3.size (by simp)) h2
theorem NumTo.done {w:World} {n:Nat} {v:Value} {wr:World} (h:NumTo w n 8 v wr):∃ g c,v = .slice (some ⟨g,0,none⟩) 8 c∧(convert 188 9 (.slice (some ⟨g,0,none⟩) 8 c)).run Tryz.prog wr = .ok (.string (numB n)) wr∧Below w.heap.size w wr:=by
 obtain ⟨h1,h2,h3⟩:=h
 have h4:=h1
 rcases h1.2 with ⟨_,h0⟩ | ⟨g,c,cur,rfl,_⟩
 ·omega
 ·exact ⟨g,c,rfl,by rw [run_conv_own h4]; rfl,h3⟩
theorem rnum_any (n:Nat) (w:World) (hn:n < 9223372036854775808) :
  Calls Tryz.prog 163 #[.int .i64 n] w fun e w'=>e = .returned (.string (numB n))∧Below w.heap.size w w':=by
 have H0:Hid (NumTo w n 0 (.slice none 0 0) w):=⟨Own.nil _ _ _,fun g hg=>by simp [Value.ownBlock] at hg,Below.refl _ _⟩
 have hn0:decide ((n:Int) < 0)=false:=by simp
 go_enter Tryz.func163,Tryz.ntmps163
 go_wp2_with fail
 go_loopw [3,4] (fun v i wr=>∃ k:Nat,k≤8∧i = .int .i64 (7 - (k:Int))∧NumTo w n k v wr) (fun _ i _=>(intOf i+1).toNat)
 case atStart=>exact ⟨0,by omega,rfl,H0.out⟩
 case round =>
  obtain ⟨k,hk,rfl,hN⟩:=hrel
  have HN:=Lib.hid hN
  clear hN H0
  rcases (by omega:k=0∨k=1∨k=2∨k=3∨k=4∨k=5∨k=6∨k=7∨k=8) with rfl | rfl | rfl | rfl | rfl | rfl | rfl | rfl | rfl
  ·obtain ⟨xs,ho,hst⟩:=HN.out.next ((n:Int) / 72057594037927936) (by simp [be8,oct8] <;> omega)
   have HO:=Lib.hid ho
   have HST:=Lib.hid hst
   clear ho hst
   go_wp2_with (at_builtin; refine wpList_append_Own rfl _ _ 188 188 rfl bytesT bytesT _ 0 xs rfl HO.out _ 1 _ [.int .u8 ((n:Int) / 72057594037927936)] rfl rfl (news_one _ _ _) (one_u8 _) (by decide) (by decide) ?_)
   intro v' w' hA
   have HR:=Lib.hid (HST.out v' w' hA)
   clear hA
   go_wp2
   go_roundw
   case rel=>exact ⟨1,by omega,by first | rfl | go_num,HR.out⟩
   case measure=>simp [intOf]
  ·obtain ⟨xs,ho,hst⟩:=HN.out.next ((n:Int) / 281474976710656 % 256) (by simp [be8,oct8] <;> omega)
   have HO:=Lib.hid ho
   have HST:=Lib.hid hst
   clear ho hst
   go_wp2_with (at_builtin; refine wpList_append_Own rfl _ _ 188 188 rfl bytesT bytesT _ 1 xs rfl HO.out _ 1 _ [.int .u8 ((n:Int) / 281474976710656 % 256)] rfl rfl (news_one _ _ _) (one_u8 _) (by decide) (by decide) ?_)
   intro v' w' hA
   have HR:=Lib.hid (HST.out v' w' hA)
   clear hA
   go_wp2
   go_roundw
   case rel=>exact ⟨2,by omega,by first | rfl | go_num,HR.out⟩
   case measure=>simp [intOf]
  ·obtain ⟨xs,ho,hst⟩:=HN.out.next ((n:Int) / 1099511627776 % 256) (by simp [be8,oct8] <;> omega)
   have HO:=Lib.hid ho
   have HST:=Lib.hid hst
   clear ho hst
   go_wp2_with (at_builtin; refine wpList_append_Own rfl _ _ 188 188 rfl bytesT bytesT _ 2 xs rfl HO.out _ 1 _ [.int .u8 ((n:Int) / 1099511627776 % 256)] rfl rfl (news_one _ _ _) (one_u8 _) (by decide) (by decide) ?_)
   intro v' w' hA
   have HR:=Lib.hid (HST.out v' w' hA)
   clear hA
   go_wp2
   go_roundw
   case rel=>exact ⟨3,by omega,by first | rfl | go_num,HR.out⟩
   case measure=>simp [intOf]
  ·obtain ⟨xs,ho,hst⟩:=HN.out.next ((n:Int) / 4294967296 % 256) (by simp [be8,oct8] <;> omega)
   have HO:=Lib.hid ho
   have HST:=Lib.hid hst
   clear ho hst
   go_wp2_with (at_builtin; refine wpList_append_Own rfl _ _ 188 188 rfl bytesT bytesT _ 3 xs rfl HO.out _ 1 _ [.int .u8 ((n:Int) / 4294967296 % 256)] rfl rfl (news_one _ _ _) (one_u8 _) (by decide) (by decide) ?_)
   intro v' w' hA
   have HR:=Lib.hid (HST.out v' w' hA)
   clear hA
   go_wp2
   go_roundw
   case rel=>exact ⟨4,by omega,by first | rfl | go_num,HR.out⟩
   case measure=>simp [intOf]
  ·obtain ⟨xs,ho,hst⟩:=HN.out.next ((n:Int) / 16777216 % 256) (by simp [be8,oct8] <;> omega)
   have HO:=Lib.hid ho
   have HST:=Lib.hid hst
   clear ho hst
   go_wp2_with (at_builtin; refine wpList_append_Own rfl _ _ 188 188 rfl bytesT bytesT _ 4 xs rfl HO.out _ 1 _ [.int .u8 ((n:Int) / 16777216 % 256)] rfl rfl (news_one _ _ _) (one_u8 _) (by decide) (by decide) ?_)
   intro v' w' hA
   have HR:=Lib.hid (HST.out v' w' hA)
   clear hA
   go_wp2
   go_roundw
   case rel=>exact ⟨5,by omega,by first | rfl | go_num,HR.out⟩
   case measure=>simp [intOf]
  ·obtain ⟨xs,ho,hst⟩:=HN.out.next ((n:Int) / 65536 % 256) (by simp [be8,oct8] <;> omega)
   have HO:=Lib.hid ho
   have HST:=Lib.hid hst
   clear ho hst
   go_wp2_with (at_builtin; refine wpList_append_Own rfl _ _ 188 188 rfl bytesT bytesT _ 5 xs rfl HO.out _ 1 _ [.int .u8 ((n:Int) / 65536 % 256)] rfl rfl (news_one _ _ _) (one_u8 _) (by decide) (by decide) ?_)
   intro v' w' hA
   have HR:=Lib.hid (HST.out v' w' hA)
   clear hA
   go_wp2
   go_roundw
   case rel=>exact ⟨6,by omega,by first | rfl | go_num,HR.out⟩
   case measure=>simp [intOf]
  ·obtain ⟨xs,ho,hst⟩:=HN.out.next ((n:Int) / 256 % 256) (by simp [be8,oct8] <;> omega)
   have HO:=Lib.hid ho
   have HST:=Lib.hid hst
   clear ho hst
   go_wp2_with (at_builtin; refine wpList_append_Own rfl _ _ 188 188 rfl bytesT bytesT _ 6 xs rfl HO.out _ 1 _ [.int .u8 ((n:Int) / 256 % 256)] rfl rfl (news_one _ _ _) (one_u8 _) (by decide) (by decide) ?_)
   intro v' w' hA
   have HR:=Lib.hid (HST.out v' w' hA)
   clear hA
   go_wp2
   go_roundw
   case rel=>exact ⟨7,by omega,by first | rfl | go_num,HR.out⟩
   case measure=>simp [intOf]
  ·obtain ⟨xs,ho,hst⟩:=HN.out.next ((n:Int) % 256) (by simp [be8,oct8] <;> omega)
   have HO:=Lib.hid ho
   have HST:=Lib.hid hst
   clear ho hst
   go_wp2_with (at_builtin; refine wpList_append_Own rfl _ _ 188 188 rfl bytesT bytesT _ 7 xs rfl HO.out _ 1 _ [.int .u8 ((n:Int) % 256)] rfl rfl (news_one _ _ _) (one_u8 _) (by decide) (by decide) ?_)
   intro v' w' hA
   have HR:=Lib.hid (HST.out v' w' hA)
   clear hA
   go_wp2
   go_roundw
   case rel=>exact ⟨8,by omega,by first | rfl | go_num,HR.out⟩
   case measure=>simp [intOf]
  ·obtain ⟨g,c,rfl,hcv,hb⟩:=HN.out.done
   have HB:=Lib.hid hb
   clear hb
   go_wp2
   go_ret
   exact ⟨rfl,HB.out⟩
theorem rnums_any (s:ByteArray) (hs:s.size < 1000000000000) (w:World):Calls Tryz.prog 166 #[.string s] w (RetNumsG w (numsL s.data.toList)):=by
 have h0:NumsAt w s.data.toList (numsL s.data.toList) 0 (.slice none 0 0) w:=⟨[],NumsTo.start _,Own.nil _ _ _,fun g hg=>by simp [Value.ownBlock] at hg,Below.refl _ _⟩
 have hl:s.data.toList.length=s.size:=rfl
 have hm:=numsL_mod s.data.toList
 by_cases hmod:s.size % 8=0
 ·have HL:=Lib.hid hl
  clear hl
  have HE:Hid (∀ e w',RetNumsG w (numsL s.data.toList) e w'→RetNumsG w (numsL s.data.toList) e w'):=fun _ _ h=>h
  generalize numsL s.data.toList=R at *
  have H0:=Lib.hid h0
  clear h0 HE
  have hmd:(((s.size:Int) % 8) != 0)=false:=by rw [bne_eq_false_iff_eq]; omega
  go_enter Tryz.func166,Tryz.ntmps166
  go_wp2_with fail
  go_loopw [4,5] (fun v a wr=>∃ k:Nat,a = .int .i64 (8*(k:Int))∧8*k≤s.size∧NumsAt w s.data.toList R k v wr) (fun _ a _=>s.size - (intOf a).toNat)
  case atStart=>exact ⟨0,rfl,by omega,H0.out⟩
  case round =>
   obtain ⟨k,rfl,hk,hN⟩:=hrel
   have HN:=Lib.hid hN
   clear hN H0
   by_cases hlt:8*k < s.size
   ·have hk8:8*k+8≤s.size:=by omega
    have hdk:decide (8*(k:Int) < (s.size:Int))=true:=by simp; omega
    go_wp2_with fail
    go_loop [6,7] (fun x c=>∃ i:Nat,i≤8∧c = .int .i64 i∧x = .int .u64 (be ((s.data.toList.drop (8*k)).take i):Nat)) (fun _ c=>8 - (intOf c).toNat)
    case atStart=>exact ⟨0,by omega,rfl,rfl⟩
    case round =>
     obtain ⟨i,hi,rfl,rfl⟩:=hrel
     by_cases hi8:i < 8
     ·have HS:=Lib.hid (be_step s.data.toList k i (by rw [HL.out]; omega))
      have hsm:=be_small (s.data.toList.drop (8*k)) i hi8
      generalize be ((s.data.toList.drop (8*k)).take i)=x at *
      have hlti:8*k+i < s.size:=by omega
      go_wp2
      go_round
      case rel=>exact ⟨i+1,by omega,by go_num,by rw [or_step x _ hsm (UInt8.toNat_lt _),HS.out]; rfl⟩
      case measure=>simp [intOf]; omega
     ·obtain rfl:i=8:=by omega
      have hx64:=be_small8 (s.data.toList.drop (8*k))
      obtain ⟨xs,ho,hstep⟩:=HN.out.own
      have hno:=HN.out.no (by rw [HL.out]; omega)
      have hl8:8*k+8≤s.data.toList.length:=by rw [HL.out]; omega
      generalize be ((s.data.toList.drop (8*k)).take 8)=x at *
      have HO:=Lib.hid ho
      have HST:=Lib.hid hstep
      have HNO:=Lib.hid hno
      have HL8:=Lib.hid hl8
      clear ho hstep hno hl8
      have hone:∀ u∈[Value.int .i64 (x:Int)],u.oneCell'=true:=by intro u hu; rw [List.mem_singleton.1 hu]; rfl
      have hks:k < 1000000000000:=by omega
      have hmx:k+1≤maxLen:=by unfold maxLen; omega
      by_cases hx:x < 9223372036854775808
      ·have hsh:decide ((9223372036854775807:Int) < (x:Int))=false:=by simp; omega
       go_wp2_with (at_builtin; refine wpList_append_Own rfl _ _ 69 69 rfl intT intT _ k xs rfl HO.out _ 1 _ [.int .i64 x] rfl rfl ?hnews hone hmx (by omega) ?_)
       intro v' w' hA
       have HR:=Lib.hid (HST.out v' w' hx HL8.out hA)
       clear hA
       go_wp2
       go_roundw
       case rel=>exact ⟨k+1,by go_num,by omega,HR.out⟩
       case measure=>simp [intOf]; omega
      ·have hsh:decide ((9223372036854775807:Int) < (x:Int))=true:=by simp; omega
       have hR:=HNO.out hx
       have HR:=Lib.hid hR
       clear hR
       go_wp2
       go_ret2
       exact HR.out
   ·have hdk:decide (8*(k:Int) < (s.size:Int))=false:=by simp; omega
    have HR:=Lib.hid (HN.out.yes (by rw [HL.out]; omega))
    go_wp2
    go_ret2
    exact HR.out
 ·have HR:=Lib.hid (RetNumsG.no (hm (by rw [hl]; exact hmod)) (Below.refl w.heap.size w))
  have hmd:(((s.size:Int) % 8) != 0)=true:=by rw [bne_iff_ne]; omega
  generalize numsL s.data.toList=R at *
  clear hm h0 hl
  go_enter Tryz.func166,Tryz.ntmps166
  go_wp2
  go_ret2
  exact HR.out
def RKeyTo (t:Nat) (l:List Int) (w:World) (k:Nat) (s:ByteArray) (wr:World):Prop:=k≤l.length∧(∀ n∈l.take k,¬ n < 0)∧s=⟨(keyBytes t (l.take k)).toArray⟩∧Below w.heap.size w wr
theorem RKeyTo.next {t:Nat} {l:List Int} {w:World} {k:Nat} {s:ByteArray} {wr:World} (h:RKeyTo t l w k s wr) {n:Nat} (hn:l[k]? = some (n:Int)):RKeyTo t l w (k+1) (s ++ numB n) wr:=by
 obtain ⟨h1,h2,rfl,h4⟩:=h
 have hkl:k < l.length:=(List.getElem?_eq_some_iff.1 hn).1
 refine ⟨by omega,?_,?_,h4⟩
 ·rw [take_one_more l k _ hn]
  intro m hm
  rcases List.mem_append.1 hm with hm | hm
  ·exact h2 m hm
  ·rw [List.mem_singleton.1 hm]; omega
 ·rw [take_one_more l k _ hn,keyBytes_snoc]
  apply ba_ext
  rw [show ((⟨(keyBytes t (List.take k l)).toArray⟩:ByteArray) ++ numB n).data=(keyBytes t (List.take k l)).toArray ++ (numB n).data from ByteArray.data_append]
  simp [numB]
theorem conv_one (t:Nat) (ht:t≤255) (w:World):(convert 188 9 (.slice (some ⟨w.heap.size,0,none⟩) 1 1)).run Tryz.prog (w.alloc (.cells #[.int .u8 t] 5)) = .ok (.string ⟨#[UInt8.ofNat t]⟩) (w.alloc (.cells #[.int .u8 t] 5)):=by
 have e:(UInt8.ofNat t).toNat=t:=by simp; omega
 have h:Own (w.alloc (.cells #[.int .u8 t] 5)) 5 1 (.slice (some ⟨w.heap.size,0,none⟩) 1 1) 1 (bytesV [UInt8.ofNat t]):=by
  have:=Own.whole (w:=w.alloc (.cells #[.int .u8 t] 5)) (e:=5) (size:=1) (g:=w.heap.size) (n:=1) (xs:=[.int .u8 t]) rfl (heap_alloc_new w _) (by decide)
  simpa [bytesV,e] using this
 exact run_conv_own h
theorem rkey_any (t:Nat) (ht1:1≤t) (ht2:t≤255) (v:Value) (l:List Int) (w:World) (hv:IntsAt w v l) (hl:l.length < 1000000000) (hr:∀ n∈l,n < 9223372036854775808) :
  Calls Tryz.prog 89 #[.int .i64 t,v] w fun e w'=>e = .returned (.string (keyL t l))∧Below w.heap.size w w':=by
 obtain ⟨ad,c,hve⟩:∃ ad c,v = .slice ad l.length c:=by
  rcases hv with ⟨rfl,rfl⟩ | ⟨a,c,h1,_⟩
  ·exact ⟨none,0,rfl⟩
  ·exact ⟨some a,c,h1⟩
 have HC:Hid (∀ wr k n s,RKeyTo t l w k s wr→l[k]? = some n→∃ a,ad=some a∧wr.cell? (a.add k)=some (.int .i64 n)):=fun wr k n s hb0 hk=>by
  have hb:=hb0.2.2.2
  rcases hv with ⟨_,rfl⟩ | ⟨a,c',h1,h3⟩
  ·simp at hk
  ·have:ad=some a:=by rw [hve] at h1; cases h1; rfl
   exact ⟨a,this,by rw [hb.cell (p:=a.add k) (World.block_lt_of_cell? w _ (h3 k n hk))]; exact h3 k n hk⟩
 subst hve
 clear hv
 have hcv:=conv_one t ht2 w
 have H0:Hid (RKeyTo t l w 0 ⟨#[UInt8.ofNat t]⟩ (w.alloc (.cells #[.int .u8 t] 5))):=⟨by omega,by simp,by simp [keyBytes],(Below.refl _ w).alloc (Nat.le_refl _) _⟩
 have HN:Hid (∀ wr k s,RKeyTo t l w k s wr→∀ n:Nat,l[k]? = some (n:Int)→Calls Tryz.prog 163 #[.int .i64 n] wr fun e w'=>e = .returned (.string (numB n))∧RKeyTo t l w (k+1) (s ++ numB n) w'):=fun wr k s hk n hn=>by
  have hmem:(n:Int)∈l:=List.mem_of_getElem? hn
  have hn2:=hr _ hmem
  refine (rnum_any n wr (by omega)).mono fun e w' ⟨he,hb⟩=>⟨he,?_⟩
  have:=hk.next hn
  exact ⟨this.1,this.2.1,this.2.2.1,this.2.2.2.trans (hb.mono this.2.2.2.size)⟩
 have HT:Hid (∀ wr s,RKeyTo t l w l.length s wr→s=keyL t l∧Below w.heap.size w wr):=fun wr s hk=>by
  obtain ⟨_,h1,h2,h3⟩:=hk
  rw [List.take_length] at h1 h2
  rw [keyL_pos h1]
  exact ⟨h2,h3⟩
 have HNEG:Hid (∀ wr k s n,RKeyTo t l w k s wr→l[k]? = some n→n < 0→(⟨#[]⟩:ByteArray)=keyL t l∧Below w.heap.size w wr):=fun wr k s n hk hn h=>⟨(keyL_neg (List.mem_of_getElem? hn) h).symm,hk.2.2.2⟩
 have HSZ:Hid (∀ wr k s,RKeyTo t l w k s wr→s.size < 10000000000):=fun wr k s hk=>by
  rw [hk.2.2.1]
  show (keyBytes t (l.take k)).toArray.size < _
  rw [List.size_toArray,keyBytes_len,List.length_take]
  omega
 have hget:∀ k,k < l.length→∃ n,l[k]? = some n:=fun k hk=>⟨l[k],List.getElem?_eq_getElem hk⟩
 have HGET:=Lib.hid hget
 have hln:(l.length:Int) < 9223372036854775807:=by omega
 have d1:decide ((t:Int) < 1)=false:=by simp; omega
 have d2:decide ((255:Int) < (t:Int))=false:=by simp; omega
 have ht8:(t:Int) < 256:=by omega
 clear hget hr
 generalize hm:l.length=m at *
 generalize keyL t l=key at *
 generalize hKT:RKeyTo t l w=KT at *
 clear hKT
 have HM:=Lib.hid hm
 clear hm
 go_enter Tryz.func89,Tryz.ntmps89
 go_wp2_with fail
 go_loopw [5,20] (fun s i wr=>∃ (k:Nat) (b:ByteArray),i = .int .i64 k∧s = .string b∧k≤m∧KT k b wr) (fun _ i _=>m - (intOf i).toNat)
 case atStart=>exact ⟨0,_,rfl,rfl,by omega,H0.out⟩
 case round =>
  obtain ⟨k,b,rfl,rfl,hk,hN⟩:=hrel
  have HK:=Lib.hid hN
  have hsz:=HSZ.out _ _ _ hN
  clear hN H0
  by_cases hlt:k < m
  ·obtain ⟨n,hn⟩:=HGET.out k hlt
   obtain ⟨a,rfl,hc⟩:=HC.out wr k n b HK.out hn
   have HNk:=Lib.hid hn
   clear hn
   by_cases hneg:n < 0
   ·have hd:decide (n < 0)=true:=by simpa using hneg
    have hE:=HNEG.out wr k b n HK.out HNk.out hneg
    have HE:=Lib.hid hE
    clear hE
    go_wp2
    go_ret
    exact ⟨ret_str HE.out.1,HE.out.2⟩
   ·obtain ⟨n,rfl⟩:=Int.eq_ofNat_of_zero_le (Int.not_lt.1 hneg)
    have hd:decide ((n:Int) < 0)=false:=by simp
    clear hneg
    go_wp2_with fail
    refine (HN.out wr k b HK.out n HNk.out).mono ?_
    rintro e w2 ⟨rfl,hK2⟩
    have HK2:=Lib.hid hK2
    clear hK2 HSZ
    have hs8:(numB n).size=8:=rfl
    go_wp2_with fail
    refine ⟨⟨k+1,_,?_,rfl,?_,HK2.out⟩,?_⟩
    ·go_num
    ·omega
    ·simp [intOf]; omega
  ·obtain rfl:k=m:=by omega
   have hE:=HT.out _ _ HK.out
   have HE:=Lib.hid hE
   clear hE
   go_wp2
   go_ret
   exact ⟨ret_str HE.out.1,HE.out.2⟩
end Go.Proofs.YtpojljieakdgiaaGreat
namespace Go.Proofs.YtpojljieakdgiaaGreat
open Go.RowKit
def GetIs (w:World) (q:Option Addr) (k v:ByteArray) (ok:Bool):Prop:=Calls Tryz.prog 140 #[.pointer q,.string k] w fun e w'=>e = .returned (.tuple #[.string v,.bool ok])∧w=w'
theorem row_none (w:World) (q:Option Addr) (k:ByteArray) (hG:GetIs w q k emptyB false):Calls Tryz.prog 110 #[.pointer q,.string k] w fun e w'=>e = .returned (.slice none 0 0)∧w=w':=by
 have HN:=Lib.hid (nums_none w)
 generalize emptyB=v at *
 have HG:=Lib.hid hG
 clear hG
 go_enter Tryz.func110,Tryz.ntmps110
 go_wp2_with (first | (go_at_call 140; refine Calls.mono HG.out ?_; rintro e w' ⟨rfl,rfl⟩) | (go_at_call 160; refine HN.out.mono ?_; rintro e w' ⟨rfl,rfl⟩))
 go_ret
 exact ⟨rfl,rfl⟩
def RetInt (w:World) (n:Int) (e:Ending) (w':World):Prop:=e = .returned (.int .i64 n)∧Below w.heap.size w w'
theorem int_none (w:World) (q:Option Addr) (k:ByteArray) (hG:GetIs w q k emptyB false):Calls Tryz.prog 97 #[.pointer q,.string k] w fun e w'=>e = .returned (.int .i64 0)∧w=w':=by
 have HG:=Lib.hid (row_none w q k hG)
 clear hG
 go_enter Tryz.func97,Tryz.ntmps97
 go_wp2_with (go_at_call 110; refine HG.out.mono ?_; rintro e w' ⟨rfl,rfl⟩)
 go_ret
 exact ⟨rfl,rfl⟩
theorem RetSt.of_below {w w1:World} {b:Nat} {L:List Nat} {v:Value} {s':St} {e:Ending} {w':World} (hb:Below w.heap.size w w1) (h:RetSt w1 b L v s' e w'):RetSt w b L v s' e w':=by
 obtain ⟨he,L',h1,h2⟩:=h
 exact ⟨he,L',h1,(Step.mk (Fr.of_below hb _) fun _ h => .inl h).trans h2⟩
theorem put_some (w:World) (b:Nat) (s:St) (L:List Nat) (k v:ByteArray) (h:SRep w b s L) (hk:k≠emptyB) (hv:v≠emptyB) (hb:s.size < 1000000000000) :
  Calls Tryz.prog 138 #[.pointer (some ⟨b,0,none⟩),.string k,.string v] w (RetSt w b L (.tuple #[]) (s.set k v)):=by
 have HS:=Lib.hid (set_any w b s L k v h hk hb)
 have HE:Hid (∀ w',RetSt w b L (.int .i64 0) (s.set k v) (.returned (.int .i64 0)) w'→RetSt w b L (.tuple #[]) (s.set k v) (.returned (.tuple #[])) w'):=fun w' h=>⟨rfl,h.2⟩
 have HQ:Hid (∀ e w',RetSt w b L (.int .i64 0) (s.set k v) e w'→e = .returned (.int .i64 0)):=fun e w' h=>h.1
 generalize RetSt w b L (.tuple #[]) (s.set k v)=R at *
 generalize RetSt w b L (.int .i64 0) (s.set k v)=R0 at *
 have hv':=emptyK hv
 clear h hk hb hv
 go_enter Tryz.func138,Tryz.ntmps138
 go_wp2_with (go_at_call 192; refine HS.out.mono ?_; intro e w' hR; obtain rfl:=HQ.out _ _ hR)
 go_end0
 exact HE.out _ hR
def rowOf (v:ByteArray):List Nat:=(numsL v.data.toList).getD []
def intOfV (v:ByteArray):Nat:=match rowOf v with | [n]=>n | _=>0
def St.int (s:St) (k:ByteArray):Nat:=intOfV (s.val k)
def St.put (s:St) (k v:ByteArray):St:=if v=emptyB then s.del k else if k=emptyB then s else s.set k v
def intsV (l:List Nat):List Value:=l.map fun (n:Nat)=>Value.int .i64 n
def RetRowG (w:World) (l:List Nat) (e:Ending) (w':World):Prop:=∃ v,e = .returned v∧Own w' 3 1 v l.length (intsV l)∧(∀ g,v.ownBlock=some g→w.heap.size≤g)∧Below w.heap.size w w'
theorem rowG_any (w:World) (q:Option Addr) (k v:ByteArray) (ok:Bool) (hG:GetIs w q k v ok) (hv:v.size < 1000000000000):Calls Tryz.prog 110 #[.pointer q,.string k] w (RetRowG w (rowOf v)):=by
 have HG:=Lib.hid hG
 have HN:=Lib.hid (nums_any v hv w)
 have HE0:Hid (∀ w',numsL v.data.toList=none→Below w.heap.size w w'→RetRowG w (rowOf v) (.returned (.slice none 0 0)) w'):=fun w' h hb=>by
  have:rowOf v = []:=by unfold rowOf; rw [h]; rfl
  rw [this]
  exact ⟨_,rfl,Own.nil _ _ _,fun g hg=>by simp [Value.ownBlock] at hg,hb⟩
 have HE1:Hid (∀ w' ns u,numsL v.data.toList=some ns→Below w.heap.size w w'→Own w' 3 1 u ns.length (ns.map fun (n:Nat)=>Value.int .i64 n)→(∀ k,u.ownBlock=some k→w.heap.size≤k)→RetRowG w (rowOf v) (.returned u) w'):=fun w' ns u h hb ho hf=>by
  have:rowOf v=ns:=by unfold rowOf; rw [h]; rfl
  rw [this]
  exact ⟨_,rfl,ho,hf,hb⟩
 generalize RetRowG w (rowOf v)=R at *
 clear hG
 cases hn:numsL v.data.toList with
 | none =>
  rw [hn] at HN
  have HN2:Hid (Calls Tryz.prog 160 #[.string v] w fun e w'=>e = .returned (.tuple #[.slice none 0 0,.bool false])∧Below w.heap.size w w'):=HN.out.mono fun e w' h=>⟨h.2,h.1⟩
  have HEE:=Lib.hid (fun w'=>HE0.out w' hn)
  clear hn HN HE0 HE1
  go_enter Tryz.func110,Tryz.ntmps110
  go_wp2_with (first | (go_at_call 140; refine Calls.mono HG.out ?_; rintro e w' ⟨rfl,rfl⟩) | (go_at_call 160; refine Calls.mono HN2.out ?_; rintro e w' ⟨rfl,hb⟩))
  exact HEE.out _ hb
 | some ns =>
  rw [hn] at HN
  have HN2:Hid (Calls Tryz.prog 160 #[.string v] w fun e w'=>∃ a c,e = .returned (.tuple #[.slice a ns.length c,.bool true])∧R (.returned (.slice a ns.length c)) w'):=HN.out.mono fun e w' h=>by
   obtain ⟨hb,u,rfl,ho,hf⟩:=h
   obtain ⟨a,c,hu,_⟩:=ho.form
   subst hu
   exact ⟨a,c,rfl,HE1.out w' ns _ hn hb ho hf⟩
  clear hn HN HE0 HE1
  generalize ns.length=n at *
  go_enter Tryz.func110,Tryz.ntmps110
  go_wp2_with (first | (go_at_call 140; refine Calls.mono HG.out ?_; rintro e w' ⟨rfl,rfl⟩) | (go_at_call 160; refine Calls.mono HN2.out ?_; rintro e w' ⟨a,c,rfl,hR⟩))
  exact hR
theorem intG_any (w:World) (q:Option Addr) (k v:ByteArray) (ok:Bool) (hG:GetIs w q k v ok) (hv:v.size < 1000000000000):Calls Tryz.prog 97 #[.pointer q,.string k] w (RetInt w (intOfV v)):=by
 have HR:=Lib.hid (rowG_any w q k v ok hG hv)
 clear hG
 unfold intOfV
 match hr:rowOf v with
 | [] =>
  rw [hr] at HR
  have HR2:Hid (Calls Tryz.prog 110 #[.pointer q,.string k] w fun e w'=>∃ a c,e = .returned (.slice a 0 c)∧Below w.heap.size w w'):=HR.out.mono fun e w' ⟨v,h1,ho,_,hb⟩=>by
   obtain ⟨a,c,rfl,_⟩:=ho.form
   exact ⟨a,c,h1,hb⟩
  clear HR hr
  go_enter Tryz.func97,Tryz.ntmps97
  go_wp2_with (go_at_call 110; refine HR2.out.mono ?_; rintro e w' ⟨a,c,rfl,hb⟩)
  go_ret
  exact ⟨rfl,hb⟩
 | [n] =>
  rw [hr] at HR
  have HR2:Hid (Calls Tryz.prog 110 #[.pointer q,.string k] w fun e w'=>∃ g c,e = .returned (.slice (some ⟨g,0,none⟩) 1 c)∧w'.cell? ⟨g,0,none⟩=some (.int .i64 n)∧Below w.heap.size w w'):=HR.out.mono fun e w' ⟨v,h1,ho,_,hb⟩=>by
   obtain ⟨a,c,rfl,hc⟩:=ho.form
   obtain ⟨g,rfl,hc0⟩:=hc 0 (.int .i64 n) rfl
   exact ⟨g,c,h1,hc0,hb⟩
  clear HR hr
  go_enter Tryz.func97,Tryz.ntmps97
  go_wp2_with (go_at_call 110; refine HR2.out.mono ?_; rintro e w' ⟨g,c,rfl,hc,hb⟩)
  go_ret
  exact ⟨rfl,hb⟩
 | x :: y :: l =>
  rw [hr] at HR
  have HR2:Hid (Calls Tryz.prog 110 #[.pointer q,.string k] w fun e w'=>∃ a c,e = .returned (.slice a (l.length+1+1) c)∧Below w.heap.size w w'):=HR.out.mono fun e w' ⟨v,h1,ho,_,hb⟩=>by
   obtain ⟨a,c,rfl,_⟩:=ho.form
   exact ⟨a,c,h1,hb⟩
  clear HR hr
  have hne:(((l.length:Int)+1+1) == 1)=false:=by rw [beq_eq_false_iff_ne]; omega
  go_enter Tryz.func97,Tryz.ntmps97
  go_wp2_with (go_at_call 110; refine HR2.out.mono ?_; rintro e w' ⟨a,c,rfl,hb⟩)
  go_ret
  exact ⟨rfl,hb⟩
theorem SRep.get {w:World} {b:Nat} {s:St} {L:List Nat} (h:SRep w b s L) (k:ByteArray):GetIs w (some ⟨b,0,none⟩) k (s.val k) (getE s.ents k).isSome:=get_any w b s L k h
theorem int_at (w:World) (b:Nat) (s:St) (L:List Nat) (k:ByteArray) (h:SRep w b s L) (hv:(s.val k).size < 1000000000000):Calls Tryz.prog 97 #[.pointer (some ⟨b,0,none⟩),.string k] w (RetInt w (s.int k)) :=
 intG_any w _ k _ _ (h.get k) hv
theorem set_emptyK (w:World) (b:Nat) (v:ByteArray) (hc0:w.cell? ⟨b,0,none⟩=some (.bool true)):Calls Tryz.prog 192 #[.pointer (some ⟨b,0,none⟩),.string emptyB,.string v] w fun e w'=>e = .returned (.int .i64 2)∧w=w':=by
 unfold emptyB
 go_enter Tryz.func192,Tryz.ntmps192
 go_wp2_with (go_at_call 123; refine (is_at _ _ _ hc0).mono ?_; rintro e w' ⟨rfl,rfl⟩)
 go_ret
 exact ⟨rfl,rfl⟩
theorem putG_any (w:World) (b:Nat) (s:St) (L:List Nat) (k v:ByteArray) (h:SRep w b s L) (hb:s.size < 1000000000000) :
  Calls Tryz.prog 138 #[.pointer (some ⟨b,0,none⟩),.string k,.string v] w (RetSt w b L (.tuple #[]) (s.put k v)):=by
 by_cases hv:v=emptyB
 ·subst hv
  have e:s.put k emptyB=s.del k:=by unfold St.put; rw [if_pos rfl]
  rw [e]
  have HS:=Lib.hid (delete_any w b s L k h hb)
  have HQ:Hid (∀ e w',RetSt w b L (.bool (getE s.ents k).isSome) (s.del k) e w'→e = .returned (.bool (getE s.ents k).isSome)∧RetSt w b L (.tuple #[]) (s.del k) (.returned (.tuple #[])) w'):=fun e w' h=>⟨h.1,rfl,h.2⟩
  generalize RetSt w b L (.tuple #[]) (s.del k)=R at *
  generalize RetSt w b L (.bool (getE s.ents k).isSome) (s.del k)=R0 at *
  unfold emptyB
  clear h hb e
  go_enter Tryz.func138,Tryz.ntmps138
  go_wp2_with (go_at_call 106; refine HS.out.mono ?_; intro e w' hR; obtain ⟨rfl,hR2⟩:=HQ.out _ _ hR)
  refine bodyPost_ret (results_none rfl _ _ _) rfl ?_
  exact hR2
 ·by_cases hk:k=emptyB
  ·subst hk
   have e:s.put emptyB v=s:=by unfold St.put; rw [if_neg hv,if_pos rfl]
   rw [e]
   have HS:=Lib.hid (set_emptyK w b v h.cell0)
   have HE:Hid (RetSt w b L (.tuple #[]) s (.returned (.tuple #[])) w):=⟨rfl,L,h,Step.refl w L⟩
   generalize RetSt w b L (.tuple #[]) s=R at *
   have hv':=emptyK hv
   generalize emptyB=kk at *
   clear h hb e hv
   go_enter Tryz.func138,Tryz.ntmps138
   go_wp2_with (go_at_call 192; refine HS.out.mono ?_; rintro e w' ⟨rfl,rfl⟩)
   go_end0
   exact HE.out
  ·have e:s.put k v=s.set k v:=by unfold St.put; rw [if_neg hv,if_neg hk]
   rw [e]
   exact put_some w b s L k v h hk hv hb
theorem SRep.below {w w':World} {b:Nat} {s:St} {L:List Nat} (h:SRep w b s L) (hb:Below w.heap.size w w'):SRep w' b s L :=
 h.frame fun k hk=>hb.block k (h.lt k hk)
theorem RetInt.of_below {w w1:World} {n:Int} {e:Ending} {w':World} (hb:Below w.heap.size w w1) (h:RetInt w1 n e w'):RetInt w n e w':=⟨h.1,hb.trans (h.2.mono hb.size)⟩
structure St.Fit (s:St) (m:Nat):Prop where
 size:s.size≤m
 srt:Sorted s.ents
 vals:∀ e∈s.ents,e.2.size≤1000000
 pvals:∀ x∈s.past,x.val.size≤1000000
theorem St.Fit.empty:emptySt.Fit 0:=⟨by decide,List.Pairwise.nil,by simp [emptySt],by simp [emptySt]⟩
theorem St.Fit.mono {s:St} {m n:Nat} (h:s.Fit m) (hn:m≤n):s.Fit n:=⟨Nat.le_trans h.size hn,h.srt,h.vals,h.pvals⟩
theorem St.Fit.val {s:St} {m:Nat} (h:s.Fit m) (k:ByteArray):(s.val k).size≤1000000:=by
 unfold St.val
 cases hg:getE s.ents k with
 | none=>show emptyB.size≤_; decide
 | some v=>exact h.vals _ (getE_mem hg)
theorem St.Fit.val' {s:St} {m:Nat} (h:s.Fit m) (k:ByteArray):(s.val k).size < 1000000000000:=by have:=h.val k; omega
theorem St.Fit.set {s:St} {m:Nat} (h:s.Fit m) (k:ByteArray) {v:ByteArray} (hv:v.size≤1000000):(s.set k v).Fit (m+2):=by
 refine ⟨Nat.le_trans (s.set_size k v) (by have:=h.size; omega),St.set_sorted h.srt k v,fun e he => ?_,fun x hx => ?_⟩
 ·unfold St.set at he
  split at he
  ·exact h.vals e he
  ·rcases putE_mem he with rfl | he
   ·exact hv
   ·exact h.vals e he
 ·unfold St.set at hx
  split at hx
  ·exact h.pvals x hx
  ·rcases List.mem_append.1 hx with hx | hx
   ·exact h.pvals x hx
   ·rw [List.mem_singleton.1 hx]; exact h.val k
theorem St.Fit.del {s:St} {m:Nat} (h:s.Fit m) (k:ByteArray):(s.del k).Fit (m+2):=by
 refine ⟨Nat.le_trans (s.del_size k) (by have:=h.size; omega),St.del_sorted h.srt k,fun e he => ?_,fun x hx => ?_⟩
 ·unfold St.del at he
  split at he
  ·exact h.vals e (delE_mem he)
  ·exact h.vals e he
 ·unfold St.del at hx
  split at hx
  ·rcases List.mem_append.1 hx with hx | hx
   ·exact h.pvals x hx
   ·rw [List.mem_singleton.1 hx]; exact h.val k
  ·exact h.pvals x hx
theorem St.Fit.put {s:St} {m:Nat} (h:s.Fit m) (k:ByteArray) {v:ByteArray} (hv:v.size≤1000000):(s.put k v).Fit (m+2):=by
 unfold St.put
 split
 ·exact h.del k
 ·split
  ·exact h.mono (by omega)
  ·exact h.set k hv
theorem val_put (s:St) (hs:Sorted s.ents) (k v j:ByteArray) (hk:k≠emptyB):(s.put k v).val j=if k=j then v else s.val j:=by
 unfold St.put
 by_cases hv:v=emptyB
 ·rw [if_pos hv]
  unfold St.del
  by_cases hg:(getE s.ents k).isSome=true
  ·rw [if_pos hg]
   unfold St.val
   simp only [getE_delE _ hs]
   by_cases e:k=j
   ·simp [e,hv]
   ·simp [e]
  ·rw [if_neg hg]
   by_cases e:k=j
   ·subst e
    have:getE s.ents k=none:=by simpa using hg
    rw [if_pos rfl,hv]
    unfold St.val
    rw [this]; rfl
   ·rw [if_neg e]
 ·rw [if_neg hv,if_neg hk]
  unfold St.set
  by_cases hg:getE s.ents k=some v
  ·rw [if_pos hg]
   by_cases e:k=j
   ·subst e; rw [if_pos rfl]; unfold St.val; rw [hg]; rfl
   ·rw [if_neg e]
  ·rw [if_neg hg]
   unfold St.val
   simp only [getE_putE _ hs]
   by_cases e:k=j <;> simp [e]
def RGetIs (w:World) (b:Nat) (k v:ByteArray) (ok:Bool):Prop:=Calls Tryz.prog 161 #[.pointer (some ⟨b,0,none⟩),.string k] w fun e w'=>e = .returned (.tuple #[.string v,.bool ok])∧w=w'
theorem RetR.of_below {w w1:World} {b:Nat} {L:List Nat} {v:Value} {s':St} {e:Ending} {w':World} (hb:Below w.heap.size w w1) (h:RetR w1 b L v s' e w'):RetR w b L v s' e w':=by
 obtain ⟨he,L',h1,h2⟩:=h
 exact ⟨he,L',h1,(Step.mk (Fr.of_below hb _) fun _ h => .inl h).trans h2⟩
end Go.Proofs.YtpojljieakdgiaaGreat
