/- What is proved here: the reference's Num: the eight bytes of a number that is not below nought. the reference's Nums at any text. the reference's Key of a table and whichever numbers. Its condition: fewer than 10^9 numbers, each below 2^63. keys.Key, and the reference's, of one, two or three numbers that the caller lays into a new slice. Their condition: each number below 2^63. -/
import Derived.Test.YtnkilceibkkjlaaGreatHNum
set_option maxRecDepth 100000
set_option maxHeartbeats 16000000
namespace Go.Proofs.YtnkilceibkkjlaaGreat
open Go.RowKit
theorem bytesT:SliceT Tryz.prog 209 5 (.int .u8 0) 1 1:=⟨by kernel_rfl,by kernel_rfl,rfl,by decide⟩
def bytesV (l:List UInt8):List Value:=l.map fun (b:UInt8)=>Value.int .u8 (b.toNat:Int)
theorem bytesV_len (l:List UInt8):(bytesV l).length=l.length:=List.length_map _
theorem fold_bytes:∀ (l:List UInt8) (s:ByteArray),(l.map (fun (b:UInt8)=>(b.toNat:Int))).foldl (fun r n=>r.push (UInt8.ofNat n.toNat)) s=⟨(s.data.toList ++ l).toArray⟩
 | [],s=>by cases s; simp
 | x :: l,s=>by
  simp only [List.map_cons,List.foldl_cons]
  rw [fold_bytes l]
  cases s
  simp [ByteArray.push]
theorem run_conv_own {w:World} {g n c:Nat} {l:List UInt8} (h:Own w 5 1 (.slice (some ⟨g,0,none⟩) n c) n (bytesV l)) :
  (convert 209 9 (.slice (some ⟨g,0,none⟩) n c)).run Tryz.prog w = .ok (.string ⟨l.toArray⟩) w:=by
 have hl:l.length=n:=by have:=h.1; rw [bytesV_len] at this; omega
 rw [run_convert_bytes_string _ _ _ 5 _ _ _ (by kernel_rfl) (by kernel_rfl) (by kernel_rfl)]
 rw [run_bytesToString _ _ n c (l.map (fun (b:UInt8)=>(b.toNat:Int)))]
 ·rw [fold_bytes]
  simp
 ·have:=run_loadCells_list (P:=Tryz.prog) w ⟨g,0,none⟩ (bytesV l) (fun j v hj=>h.cells (g:=g) rfl j v hj)
  rw [bytesV_len,hl] at this
  simpa [bytesV,Function.comp_def] using this
theorem news_one (w:World) (x:Value) (t:TypeId):∀ j u,[x][j]? = some u→(w.alloc (.cells #[x] t)).cell? ((⟨w.heap.size,0,none⟩:Addr).add j)=some u:=fun j u hj=>by
 rw [Addr.add_lit,cell_of_row _ _ _ _ _ _ (heap_alloc_new w _)]
 simpa using hj
theorem one_u8 (x:Int):∀ u∈[Value.int .u8 x],u.oneCell'=true:=by intro u hu; rw [List.mem_singleton.1 hu]; rfl
def NumTo (w:World) (n k:Nat) (v:Value) (wr:World):Prop:=Own wr 5 1 v k (bytesV ((be8 n).take k))∧(∀ g,v.ownBlock=some g→w.heap.size≤g)∧Below w.heap.size w wr
theorem NumTo.next {w:World} {n k:Nat} {v:Value} {wr:World} (h:NumTo w n k v wr) (b:Int) (hb:(be8 n)[k]?.map (fun (b:UInt8)=>(b.toNat:Int))=some b) :
  ∃ xs,Own (wr.alloc (.cells #[.int .u8 b] 5)) 5 1 v k xs∧∀ v' w',Appended (wr.alloc (.cells #[.int .u8 b] 5)) 5 1 v k 1 xs [.int .u8 b] v' w'→NumTo w n (k+1) v' w':=by
 obtain ⟨h1,h2,h3⟩:=h
 refine ⟨_,h1.fr ((Fr.refl (fun _=>False) wr).alloc _) (fun _ _=>id),fun v' w' hA=>⟨?_,?_,?_⟩⟩
 ·have:=hA.own
  obtain ⟨x,hx,rfl⟩:=Option.map_eq_some_iff.1 hb
  rw [List.take_add_one,hx]
  simpa [bytesV] using this
 ·intro g hg
  rcases hA.block g hg with h | h
  ·exact h2 g h
  ·have:=h3.size
   simp at h
   omega
 ·exact (h3.alloc h3.size _).grown hA.grown (Nat.le_trans h3.size (by simp)) h2
theorem NumTo.done {w:World} {n:Nat} {v:Value} {wr:World} (h:NumTo w n 8 v wr):∃ g c,v = .slice (some ⟨g,0,none⟩) 8 c∧(convert 209 9 (.slice (some ⟨g,0,none⟩) 8 c)).run Tryz.prog wr = .ok (.string (numB n)) wr∧Below w.heap.size w wr:=by
 obtain ⟨h1,h2,h3⟩:=h
 have h4:=h1
 rcases h1.2 with ⟨_,h0⟩ | ⟨g,c,cur,rfl,_⟩
 ·omega
 ·exact ⟨g,c,rfl,by rw [run_conv_own h4]; rfl,h3⟩
theorem rnum_any (n:Nat) (w:World) (hn:n < 9223372036854775808) :
  Calls Tryz.prog 166 #[.int .i64 n] w fun e w'=>e = .returned (.string (numB n))∧Below w.heap.size w w':=by
 have H0:Hid (NumTo w n 0 (.slice none 0 0) w):=⟨Own.nil _ _ _,fun g hg=>by simp [Value.ownBlock] at hg,Below.refl _ _⟩
 have hn0:decide ((n:Int) < 0)=false:=by simp
 go_enter Tryz.func166,Tryz.ntmps166
 go_wp2_with fail
 go_loopw [3,4] (fun v i wr=>∃ k:Nat,k≤8∧i = .int .i64 (7 - (k:Int))∧NumTo w n k v wr) (fun _ i _=>(intOf i+1).toNat)
 case atStart=>exact ⟨0,by omega,rfl,H0.out⟩
 case round =>
  obtain ⟨k,hk,rfl,hN⟩:=hrel
  have HN:=Lib.hid hN
  clear hN H0
  rcases (by omega:k=0∨k=1∨k=2∨k=3∨k=4∨k=5∨k=6∨k=7∨k=8) with rfl | rfl | rfl | rfl | rfl | rfl | rfl | rfl | rfl
  ·obtain ⟨xs,ho,hst⟩:=HN.out.next ((n:Int) / 72057594037927936) (by simp [be8,oct8] <;> omega)
   have HO:=Lib.hid ho
   have HST:=Lib.hid hst
   clear ho hst
   go_wp2_with (at_builtin; refine wpList_append_Own rfl _ _ 209 209 rfl bytesT bytesT _ 0 xs rfl HO.out _ 1 _ [.int .u8 ((n:Int) / 72057594037927936)] rfl rfl (news_one _ _ _) (one_u8 _) (by decide) (by decide) ?_)
   intro v' w' hA
   have HR:=Lib.hid (HST.out v' w' hA)
   clear hA
   go_wp2
   go_roundw
   case rel=>exact ⟨1,by omega,by first | rfl | go_num,HR.out⟩
   case measure=>simp [intOf]
  ·obtain ⟨xs,ho,hst⟩:=HN.out.next ((n:Int) / 281474976710656 % 256) (by simp [be8,oct8] <;> omega)
   have HO:=Lib.hid ho
   have HST:=Lib.hid hst
   clear ho hst
   go_wp2_with (at_builtin; refine wpList_append_Own rfl _ _ 209 209 rfl bytesT bytesT _ 1 xs rfl HO.out _ 1 _ [.int .u8 ((n:Int) / 281474976710656 % 256)] rfl rfl (news_one _ _ _) (one_u8 _) (by decide) (by decide) ?_)
   intro v' w' hA
   have HR:=Lib.hid (HST.out v' w' hA)
   clear hA
   go_wp2
   go_roundw
   case rel=>exact ⟨2,by omega,by first | rfl | go_num,HR.out⟩
   case measure=>simp [intOf]
  ·obtain ⟨xs,ho,hst⟩:=HN.out.next ((n:Int) / 1099511627776 % 256) (by simp [be8,oct8] <;> omega)
   have HO:=Lib.hid ho
   have HST:=Lib.hid hst
   clear ho hst
   go_wp2_with (at_builtin; refine wpList_append_Own rfl _ _ 209 209 rfl bytesT bytesT _ 2 xs rfl HO.out _ 1 _ [.int .u8 ((n:Int) / 1099511627776 % 256)] rfl rfl (news_one _ _ _) (one_u8 _) (by decide) (by decide) ?_)
   intro v' w' hA
   have HR:=Lib.hid (HST.out v' w' hA)
   clear hA
   go_wp2
   go_roundw
   case rel=>exact ⟨3,by omega,by first | rfl | go_num,HR.out⟩
   case measure=>simp [intOf]
  ·obtain ⟨xs,ho,hst⟩:=HN.out.next ((n:Int) / 4294967296 % 256) (by simp [be8,oct8] <;> omega)
   have HO:=Lib.hid ho
   have HST:=Lib.hid hst
   clear ho hst
   go_wp2_with (at_builtin; refine wpList_append_Own rfl _ _ 209 209 rfl bytesT bytesT _ 3 xs rfl HO.out _ 1 _ [.int .u8 ((n:Int) / 4294967296 % 256)] rfl rfl (news_one _ _ _) (one_u8 _) (by decide) (by decide) ?_)
   intro v' w' hA
   have HR:=Lib.hid (HST.out v' w' hA)
   clear hA
   go_wp2
   go_roundw
   case rel=>exact ⟨4,by omega,by first | rfl | go_num,HR.out⟩
   case measure=>simp [intOf]
  ·obtain ⟨xs,ho,hst⟩:=HN.out.next ((n:Int) / 16777216 % 256) (by simp [be8,oct8] <;> omega)
   have HO:=Lib.hid ho
   have HST:=Lib.hid hst
   clear ho hst
   go_wp2_with (at_builtin; refine wpList_append_Own rfl _ _ 209 209 rfl bytesT bytesT _ 4 xs rfl HO.out _ 1 _ [.int .u8 ((n:Int) / 16777216 % 256)] rfl rfl (news_one _ _ _) (one_u8 _) (by decide) (by decide) ?_)
   intro v' w' hA
   have HR:=Lib.hid (HST.out v' w' hA)
   clear hA
   go_wp2
   go_roundw
   case rel=>exact ⟨5,by omega,by first | rfl | go_num,HR.out⟩
   case measure=>simp [intOf]
  ·obtain ⟨xs,ho,hst⟩:=HN.out.next ((n:Int) / 65536 % 256) (by simp [be8,oct8] <;> omega)
   have HO:=Lib.hid ho
   have HST:=Lib.hid hst
   clear ho hst
   go_wp2_with (at_builtin; refine wpList_append_Own rfl _ _ 209 209 rfl bytesT bytesT _ 5 xs rfl HO.out _ 1 _ [.int .u8 ((n:Int) / 65536 % 256)] rfl rfl (news_one _ _ _) (one_u8 _) (by decide) (by decide) ?_)
   intro v' w' hA
   have HR:=Lib.hid (HST.out v' w' hA)
   clear hA
   go_wp2
   go_roundw
   case rel=>exact ⟨6,by omega,by first | rfl | go_num,HR.out⟩
   case measure=>simp [intOf]
  ·obtain ⟨xs,ho,hst⟩:=HN.out.next ((n:Int) / 256 % 256) (by simp [be8,oct8] <;> omega)
   have HO:=Lib.hid ho
   have HST:=Lib.hid hst
   clear ho hst
   go_wp2_with (at_builtin; refine wpList_append_Own rfl _ _ 209 209 rfl bytesT bytesT _ 6 xs rfl HO.out _ 1 _ [.int .u8 ((n:Int) / 256 % 256)] rfl rfl (news_one _ _ _) (one_u8 _) (by decide) (by decide) ?_)
   intro v' w' hA
   have HR:=Lib.hid (HST.out v' w' hA)
   clear hA
   go_wp2
   go_roundw
   case rel=>exact ⟨7,by omega,by first | rfl | go_num,HR.out⟩
   case measure=>simp [intOf]
  ·obtain ⟨xs,ho,hst⟩:=HN.out.next ((n:Int) % 256) (by simp [be8,oct8] <;> omega)
   have HO:=Lib.hid ho
   have HST:=Lib.hid hst
   clear ho hst
   go_wp2_with (at_builtin; refine wpList_append_Own rfl _ _ 209 209 rfl bytesT bytesT _ 7 xs rfl HO.out _ 1 _ [.int .u8 ((n:Int) % 256)] rfl rfl (news_one _ _ _) (one_u8 _) (by decide) (by decide) ?_)
   intro v' w' hA
   have HR:=Lib.hid (HST.out v' w' hA)
   clear hA
   go_wp2
   go_roundw
   case rel=>exact ⟨8,by omega,by first | rfl | go_num,HR.out⟩
   case measure=>simp [intOf]
  ·obtain ⟨g,c,rfl,hcv,hb⟩:=HN.out.done
   have HB:=Lib.hid hb
   clear hb
   go_wp2
   go_ret
   exact ⟨rfl,HB.out⟩
theorem rnums_any (s:ByteArray) (hs:s.size < 1000000000000) (w:World):Calls Tryz.prog 167 #[.string s] w (RetNumsG w (numsL s.data.toList)):=by
 have h0:NumsAt w s.data.toList (numsL s.data.toList) 0 (.slice none 0 0) w:=⟨[],NumsTo.start _,Own.nil _ _ _,fun g hg=>by simp [Value.ownBlock] at hg,Below.refl _ _⟩
 have hl:s.data.toList.length=s.size:=rfl
 have hm:=numsL_mod s.data.toList
 by_cases hmod:s.size % 8=0
 ·have HL:=Lib.hid hl
  clear hl
  have HE:Hid (∀ e w',RetNumsG w (numsL s.data.toList) e w'→RetNumsG w (numsL s.data.toList) e w'):=fun _ _ h=>h
  generalize numsL s.data.toList=R at *
  have H0:=Lib.hid h0
  clear h0 HE
  have hmd:(((s.size:Int) % 8) != 0)=false:=by rw [bne_eq_false_iff_eq]; omega
  go_enter Tryz.func167,Tryz.ntmps167
  go_wp2_with fail
  go_loopw [4,5] (fun v a wr=>∃ k:Nat,a = .int .i64 (8*(k:Int))∧8*k≤s.size∧NumsAt w s.data.toList R k v wr) (fun _ a _=>s.size - (intOf a).toNat)
  case atStart=>exact ⟨0,rfl,by omega,H0.out⟩
  case round =>
   obtain ⟨k,rfl,hk,hN⟩:=hrel
   have HN:=Lib.hid hN
   clear hN H0
   by_cases hlt:8*k < s.size
   ·have hk8:8*k+8≤s.size:=by omega
    have hdk:decide (8*(k:Int) < (s.size:Int))=true:=by simp; omega
    go_wp2_with fail
    go_loop [6,7] (fun x c=>∃ i:Nat,i≤8∧c = .int .i64 i∧x = .int .u64 (be ((s.data.toList.drop (8*k)).take i):Nat)) (fun _ c=>8 - (intOf c).toNat)
    case atStart=>exact ⟨0,by omega,rfl,rfl⟩
    case round =>
     obtain ⟨i,hi,rfl,rfl⟩:=hrel
     by_cases hi8:i < 8
     ·have HS:=Lib.hid (be_step s.data.toList k i (by rw [HL.out]; omega))
      have hsm:=be_small (s.data.toList.drop (8*k)) i hi8
      generalize be ((s.data.toList.drop (8*k)).take i)=x at *
      have hlti:8*k+i < s.size:=by omega
      go_wp2
      go_round
      case rel=>exact ⟨i+1,by omega,by go_num,by rw [or_step x _ hsm (UInt8.toNat_lt _),HS.out]; rfl⟩
      case measure=>simp [intOf]; omega
     ·obtain rfl:i=8:=by omega
      have hx64:=be_small8 (s.data.toList.drop (8*k))
      obtain ⟨xs,ho,hstep⟩:=HN.out.own
      have hno:=HN.out.no (by rw [HL.out]; omega)
      have hl8:8*k+8≤s.data.toList.length:=by rw [HL.out]; omega
      generalize be ((s.data.toList.drop (8*k)).take 8)=x at *
      have HO:=Lib.hid ho
      have HST:=Lib.hid hstep
      have HNO:=Lib.hid hno
      have HL8:=Lib.hid hl8
      clear ho hstep hno hl8
      have hone:∀ u∈[Value.int .i64 (x:Int)],u.oneCell'=true:=by intro u hu; rw [List.mem_singleton.1 hu]; rfl
      have hks:k < 1000000000000:=by omega
      have hmx:k+1≤maxLen:=by unfold maxLen; omega
      by_cases hx:x < 9223372036854775808
      ·have hsh:decide ((9223372036854775807:Int) < (x:Int))=false:=by simp; omega
       go_wp2_with (at_builtin; refine wpList_append_Own rfl _ _ 75 75 rfl intT intT _ k xs rfl HO.out _ 1 _ [.int .i64 x] rfl rfl ?hnews hone hmx (by omega) ?_)
       intro v' w' hA
       have HR:=Lib.hid (HST.out v' w' hx HL8.out hA)
       clear hA
       go_wp2
       go_roundw
       case rel=>exact ⟨k+1,by go_num,by omega,HR.out⟩
       case measure=>simp [intOf]; omega
      ·have hsh:decide ((9223372036854775807:Int) < (x:Int))=true:=by simp; omega
       have hR:=HNO.out hx
       have HR:=Lib.hid hR
       clear hR
       go_wp2
       go_ret2
       exact HR.out
   ·have hdk:decide (8*(k:Int) < (s.size:Int))=false:=by simp; omega
    have HR:=Lib.hid (HN.out.yes (by rw [HL.out]; omega))
    go_wp2
    go_ret2
    exact HR.out
 ·have HR:=Lib.hid (RetNumsG.no (hm (by rw [hl]; exact hmod)) (Below.refl w.heap.size w))
  have hmd:(((s.size:Int) % 8) != 0)=true:=by rw [bne_iff_ne]; omega
  generalize numsL s.data.toList=R at *
  clear hm h0 hl
  go_enter Tryz.func167,Tryz.ntmps167
  go_wp2
  go_ret2
  exact HR.out
def RKeyTo (t:Nat) (l:List Int) (w:World) (k:Nat) (s:ByteArray) (wr:World):Prop:=k≤l.length∧(∀ n∈l.take k,¬ n < 0)∧s=⟨(keyBytes t (l.take k)).toArray⟩∧Below w.heap.size w wr
theorem RKeyTo.next {t:Nat} {l:List Int} {w:World} {k:Nat} {s:ByteArray} {wr:World} (h:RKeyTo t l w k s wr) {n:Nat} (hn:l[k]? = some (n:Int)):RKeyTo t l w (k+1) (s ++ numB n) wr:=by
 obtain ⟨h1,h2,rfl,h4⟩:=h
 have hkl:k < l.length:=(List.getElem?_eq_some_iff.1 hn).1
 refine ⟨by omega,?_,?_,h4⟩
 ·rw [take_one_more l k _ hn]
  intro m hm
  rcases List.mem_append.1 hm with hm | hm
  ·exact h2 m hm
  ·rw [List.mem_singleton.1 hm]; omega
 ·rw [take_one_more l k _ hn,keyBytes_snoc]
  apply ba_ext
  rw [show ((⟨(keyBytes t (List.take k l)).toArray⟩:ByteArray) ++ numB n).data=(keyBytes t (List.take k l)).toArray ++ (numB n).data from ByteArray.data_append]
  simp [numB]
theorem key_new0 (t:Nat) (ht1:1≤t) (ht2:t≤255) (w:World):Calls Tryz.prog 90 #[.int .i64 t,.slice none 0 0] w fun e w'=>e = .returned (.string (keyL t []))∧Below w.heap.size w w' :=
 key_any t ht1 ht2 _ [] w (.inl ⟨rfl,rfl⟩) (by simp) (by simp)
end Go.Proofs.YtnkilceibkkjlaaGreat
