/- What is proved here: the reference's Num: the eight bytes of a number that is not below nought. the reference's Nums at any text. the reference's Key of a table and whichever numbers. Its condition: fewer than 10^9 numbers, each below 2^63. keys.Key, and the reference's, of one, two or three numbers that the caller lays into a new slice. Their condition: each number below 2^63. cell.Row, cell.Int over a store that hol -/
import Derived.Test.YtnkilceibkkjlaaGreatINum
import Derived.Test.YtnkilceibkkjlaaGreatIStore
import Derived.Test.YtnkilceibkkjlaaGreatIRStore
set_option maxRecDepth 100000
set_option maxHeartbeats 16000000
namespace Go.Proofs.YtnkilceibkkjlaaGreat
open Go.RowKit
theorem bytesT:SliceT Tryz.prog 209 5 (.int .u8 0) 1 1:=⟨by kernel_rfl,by kernel_rfl,rfl,by decide⟩
def bytesV (l:List UInt8):List Value:=l.map fun (b:UInt8)=>Value.int .u8 (b.toNat:Int)
theorem bytesV_len (l:List UInt8):(bytesV l).length=l.length:=List.length_map _
theorem fold_bytes:∀ (l:List UInt8) (s:ByteArray),(l.map (fun (b:UInt8)=>(b.toNat:Int))).foldl (fun r n=>r.push (UInt8.ofNat n.toNat)) s=⟨(s.data.toList ++ l).toArray⟩
 | [],s=>by cases s; simp
 | x :: l,s=>by
  simp only [List.map_cons,List.foldl_cons]
  rw [fold_bytes l]
  cases s
  simp [ByteArray.push]
theorem run_conv_own {w:World} {g n c:Nat} {l:List UInt8} (h:Own w 5 1 (.slice (some ⟨g,0,none⟩) n c) n (bytesV l)) :
  (convert 209 9 (.slice (some ⟨g,0,none⟩) n c)).run Tryz.prog w = .ok (.string ⟨l.toArray⟩) w:=by
 have hl:l.length=n:=by have:=h.1; rw [bytesV_len] at this; omega
 rw [run_convert_bytes_string _ _ _ 5 _ _ _ (by kernel_rfl) (by kernel_rfl) (by kernel_rfl)]
 rw [run_bytesToString _ _ n c (l.map (fun (b:UInt8)=>(b.toNat:Int)))]
 ·rw [fold_bytes]
  simp
 ·have:=run_loadCells_list (P:=Tryz.prog) w ⟨g,0,none⟩ (bytesV l) (fun j v hj=>h.cells (g:=g) rfl j v hj)
  rw [bytesV_len,hl] at this
  simpa [bytesV,Function.comp_def] using this
theorem news_one (w:World) (x:Value) (t:TypeId):∀ j u,[x][j]? = some u→(w.alloc (.cells #[x] t)).cell? ((⟨w.heap.size,0,none⟩:Addr).add j)=some u:=fun j u hj=>by
 rw [Addr.add_lit,cell_of_row _ _ _ _ _ _ (heap_alloc_new w _)]
 simpa using hj
theorem one_u8 (x:Int):∀ u∈[Value.int .u8 x],u.oneCell'=true:=by intro u hu; rw [List.mem_singleton.1 hu]; rfl
def NumTo (w:World) (n k:Nat) (v:Value) (wr:World):Prop:=Own wr 5 1 v k (bytesV ((be8 n).take k))∧(∀ g,v.ownBlock=some g→w.heap.size≤g)∧Below w.heap.size w wr
theorem NumTo.next {w:World} {n k:Nat} {v:Value} {wr:World} (h:NumTo w n k v wr) (b:Int) (hb:(be8 n)[k]?.map (fun (b:UInt8)=>(b.toNat:Int))=some b) :
  ∃ xs,Own (wr.alloc (.cells #[.int .u8 b] 5)) 5 1 v k xs∧∀ v' w',Appended (wr.alloc (.cells #[.int .u8 b] 5)) 5 1 v k 1 xs [.int .u8 b] v' w'→NumTo w n (k+1) v' w':=by
 obtain ⟨h1,h2,h3⟩:=h
 refine ⟨_,h1.fr ((Fr.refl (fun _=>False) wr).alloc _) (fun _ _=>id),fun v' w' hA=>⟨?_,?_,?_⟩⟩
 ·have:=hA.own
  obtain ⟨x,hx,rfl⟩:=Option.map_eq_some_iff.1 hb
  rw [List.take_add_one,hx]
  simpa [bytesV] using this
 ·intro g hg
  rcases hA.block g hg with h | h
  ·exact h2 g h
  ·have:=h3.size
   simp at h
   omega
 ·exact (h3.alloc h3.size _).grown hA.grown (Nat.le_trans h3.size (by simp)) h2
theorem NumTo.done {w:World} {n:Nat} {v:Value} {wr:World} (h:NumTo w n 8 v wr):∃ g c,v = .slice (some ⟨g,0,none⟩) 8 c∧(convert 209 9 (.slice (some ⟨g,0,none⟩) 8 c)).run Tryz.prog wr = .ok (.string (numB n)) wr∧Below w.heap.size w wr:=by
 obtain ⟨h1,h2,h3⟩:=h
 have h4:=h1
 rcases h1.2 with ⟨_,h0⟩ | ⟨g,c,cur,rfl,_⟩
 ·omega
 ·exact ⟨g,c,rfl,by rw [run_conv_own h4]; rfl,h3⟩
theorem rnum_any (n:Nat) (w:World) (hn:n < 9223372036854775808) :
  Calls Tryz.prog 166 #[.int .i64 n] w fun e w'=>e = .returned (.string (numB n))∧Below w.heap.size w w':=by
 have H0:Hid (NumTo w n 0 (.slice none 0 0) w):=⟨Own.nil _ _ _,fun g hg=>by simp [Value.ownBlock] at hg,Below.refl _ _⟩
 have hn0:decide ((n:Int) < 0)=false:=by simp
 go_enter Tryz.func166,Tryz.ntmps166
 go_wp2_with fail
 go_loopw [3,4] (fun v i wr=>∃ k:Nat,k≤8∧i = .int .i64 (7 - (k:Int))∧NumTo w n k v wr) (fun _ i _=>(intOf i+1).toNat)
 case atStart=>exact ⟨0,by omega,rfl,H0.out⟩
 case round =>
  obtain ⟨k,hk,rfl,hN⟩:=hrel
  have HN:=Lib.hid hN
  clear hN H0
  rcases (by omega:k=0∨k=1∨k=2∨k=3∨k=4∨k=5∨k=6∨k=7∨k=8) with rfl | rfl | rfl | rfl | rfl | rfl | rfl | rfl | rfl
  ·obtain ⟨xs,ho,hst⟩:=HN.out.next ((n:Int) / 72057594037927936) (by simp [be8,oct8] <;> omega)
   have HO:=Lib.hid ho
   have HST:=Lib.hid hst
   clear ho hst
   go_wp2_with (at_builtin; refine wpList_append_Own rfl _ _ 209 209 rfl bytesT bytesT _ 0 xs rfl HO.out _ 1 _ [.int .u8 ((n:Int) / 72057594037927936)] rfl rfl (news_one _ _ _) (one_u8 _) (by decide) (by decide) ?_)
   intro v' w' hA
   have HR:=Lib.hid (HST.out v' w' hA)
   clear hA
   go_wp2
   go_roundw
   case rel=>exact ⟨1,by omega,by first | rfl | go_num,HR.out⟩
   case measure=>simp [intOf]
  ·obtain ⟨xs,ho,hst⟩:=HN.out.next ((n:Int) / 281474976710656 % 256) (by simp [be8,oct8] <;> omega)
   have HO:=Lib.hid ho
   have HST:=Lib.hid hst
   clear ho hst
   go_wp2_with (at_builtin; refine wpList_append_Own rfl _ _ 209 209 rfl bytesT bytesT _ 1 xs rfl HO.out _ 1 _ [.int .u8 ((n:Int) / 281474976710656 % 256)] rfl rfl (news_one _ _ _) (one_u8 _) (by decide) (by decide) ?_)
   intro v' w' hA
   have HR:=Lib.hid (HST.out v' w' hA)
   clear hA
   go_wp2
   go_roundw
   case rel=>exact ⟨2,by omega,by first | rfl | go_num,HR.out⟩
   case measure=>simp [intOf]
  ·obtain ⟨xs,ho,hst⟩:=HN.out.next ((n:Int) / 1099511627776 % 256) (by simp [be8,oct8] <;> omega)
   have HO:=Lib.hid ho
   have HST:=Lib.hid hst
   clear ho hst
   go_wp2_with (at_builtin; refine wpList_append_Own rfl _ _ 209 209 rfl bytesT bytesT _ 2 xs rfl HO.out _ 1 _ [.int .u8 ((n:Int) / 1099511627776 % 256)] rfl rfl (news_one _ _ _) (one_u8 _) (by decide) (by decide) ?_)
   intro v' w' hA
   have HR:=Lib.hid (HST.out v' w' hA)
   clear hA
   go_wp2
   go_roundw
   case rel=>exact ⟨3,by omega,by first | rfl | go_num,HR.out⟩
   case measure=>simp [intOf]
  ·obtain ⟨xs,ho,hst⟩:=HN.out.next ((n:Int) / 4294967296 % 256) (by simp [be8,oct8] <;> omega)
   have HO:=Lib.hid ho
   have HST:=Lib.hid hst
   clear ho hst
   go_wp2_with (at_builtin; refine wpList_append_Own rfl _ _ 209 209 rfl bytesT bytesT _ 3 xs rfl HO.out _ 1 _ [.int .u8 ((n:Int) / 4294967296 % 256)] rfl rfl (news_one _ _ _) (one_u8 _) (by decide) (by decide) ?_)
   intro v' w' hA
   have HR:=Lib.hid (HST.out v' w' hA)
   clear hA
   go_wp2
   go_roundw
   case rel=>exact ⟨4,by omega,by first | rfl | go_num,HR.out⟩
   case measure=>simp [intOf]
  ·obtain ⟨xs,ho,hst⟩:=HN.out.next ((n:Int) / 16777216 % 256) (by simp [be8,oct8] <;> omega)
   have HO:=Lib.hid ho
   have HST:=Lib.hid hst
   clear ho hst
   go_wp2_with (at_builtin; refine wpList_append_Own rfl _ _ 209 209 rfl bytesT bytesT _ 4 xs rfl HO.out _ 1 _ [.int .u8 ((n:Int) / 16777216 % 256)] rfl rfl (news_one _ _ _) (one_u8 _) (by decide) (by decide) ?_)
   intro v' w' hA
   have HR:=Lib.hid (HST.out v' w' hA)
   clear hA
   go_wp2
   go_roundw
   case rel=>exact ⟨5,by omega,by first | rfl | go_num,HR.out⟩
   case measure=>simp [intOf]
  ·obtain ⟨xs,ho,hst⟩:=HN.out.next ((n:Int) / 65536 % 256) (by simp [be8,oct8] <;> omega)
   have HO:=Lib.hid ho
   have HST:=Lib.hid hst
   clear ho hst
   go_wp2_with (at_builtin; refine wpList_append_Own rfl _ _ 209 209 rfl bytesT bytesT _ 5 xs rfl HO.out _ 1 _ [.int .u8 ((n:Int) / 65536 % 256)] rfl rfl (news_one _ _ _) (one_u8 _) (by decide) (by decide) ?_)
   intro v' w' hA
   have HR:=Lib.hid (HST.out v' w' hA)
   clear hA
   go_wp2
   go_roundw
   case rel=>exact ⟨6,by omega,by first | rfl | go_num,HR.out⟩
   case measure=>simp [intOf]
  ·obtain ⟨xs,ho,hst⟩:=HN.out.next ((n:Int) / 256 % 256) (by simp [be8,oct8] <;> omega)
   have HO:=Lib.hid ho
   have HST:=Lib.hid hst
   clear ho hst
   go_wp2_with (at_builtin; refine wpList_append_Own rfl _ _ 209 209 rfl bytesT bytesT _ 6 xs rfl HO.out _ 1 _ [.int .u8 ((n:Int) / 256 % 256)] rfl rfl (news_one _ _ _) (one_u8 _) (by decide) (by decide) ?_)
   intro v' w' hA
   have HR:=Lib.hid (HST.out v' w' hA)
   clear hA
   go_wp2
   go_roundw
   case rel=>exact ⟨7,by omega,by first | rfl | go_num,HR.out⟩
   case measure=>simp [intOf]
  ·obtain ⟨xs,ho,hst⟩:=HN.out.next ((n:Int) % 256) (by simp [be8,oct8] <;> omega)
   have HO:=Lib.hid ho
   have HST:=Lib.hid hst
   clear ho hst
   go_wp2_with (at_builtin; refine wpList_append_Own rfl _ _ 209 209 rfl bytesT bytesT _ 7 xs rfl HO.out _ 1 _ [.int .u8 ((n:Int) % 256)] rfl rfl (news_one _ _ _) (one_u8 _) (by decide) (by decide) ?_)
   intro v' w' hA
   have HR:=Lib.hid (HST.out v' w' hA)
   clear hA
   go_wp2
   go_roundw
   case rel=>exact ⟨8,by omega,by first | rfl | go_num,HR.out⟩
   case measure=>simp [intOf]
  ·obtain ⟨g,c,rfl,hcv,hb⟩:=HN.out.done
   have HB:=Lib.hid hb
   clear hb
   go_wp2
   go_ret
   exact ⟨rfl,HB.out⟩
theorem rnums_any (s:ByteArray) (hs:s.size < 1000000000000) (w:World):Calls Tryz.prog 167 #[.string s] w (RetNumsG w (numsL s.data.toList)):=by
 have h0:NumsAt w s.data.toList (numsL s.data.toList) 0 (.slice none 0 0) w:=⟨[],NumsTo.start _,Own.nil _ _ _,fun g hg=>by simp [Value.ownBlock] at hg,Below.refl _ _⟩
 have hl:s.data.toList.length=s.size:=rfl
 have hm:=numsL_mod s.data.toList
 by_cases hmod:s.size % 8=0
 ·have HL:=Lib.hid hl
  clear hl
  have HE:Hid (∀ e w',RetNumsG w (numsL s.data.toList) e w'→RetNumsG w (numsL s.data.toList) e w'):=fun _ _ h=>h
  generalize numsL s.data.toList=R at *
  have H0:=Lib.hid h0
  clear h0 HE
  have hmd:(((s.size:Int) % 8) != 0)=false:=by rw [bne_eq_false_iff_eq]; omega
  go_enter Tryz.func167,Tryz.ntmps167
  go_wp2_with fail
  go_loopw [4,5] (fun v a wr=>∃ k:Nat,a = .int .i64 (8*(k:Int))∧8*k≤s.size∧NumsAt w s.data.toList R k v wr) (fun _ a _=>s.size - (intOf a).toNat)
  case atStart=>exact ⟨0,rfl,by omega,H0.out⟩
  case round =>
   obtain ⟨k,rfl,hk,hN⟩:=hrel
   have HN:=Lib.hid hN
   clear hN H0
   by_cases hlt:8*k < s.size
   ·have hk8:8*k+8≤s.size:=by omega
    have hdk:decide (8*(k:Int) < (s.size:Int))=true:=by simp; omega
    go_wp2_with fail
    go_loop [6,7] (fun x c=>∃ i:Nat,i≤8∧c = .int .i64 i∧x = .int .u64 (be ((s.data.toList.drop (8*k)).take i):Nat)) (fun _ c=>8 - (intOf c).toNat)
    case atStart=>exact ⟨0,by omega,rfl,rfl⟩
    case round =>
     obtain ⟨i,hi,rfl,rfl⟩:=hrel
     by_cases hi8:i < 8
     ·have HS:=Lib.hid (be_step s.data.toList k i (by rw [HL.out]; omega))
      have hsm:=be_small (s.data.toList.drop (8*k)) i hi8
      generalize be ((s.data.toList.drop (8*k)).take i)=x at *
      have hlti:8*k+i < s.size:=by omega
      go_wp2
      go_round
      case rel=>exact ⟨i+1,by omega,by go_num,by rw [or_step x _ hsm (UInt8.toNat_lt _),HS.out]; rfl⟩
      case measure=>simp [intOf]; omega
     ·obtain rfl:i=8:=by omega
      have hx64:=be_small8 (s.data.toList.drop (8*k))
      obtain ⟨xs,ho,hstep⟩:=HN.out.own
      have hno:=HN.out.no (by rw [HL.out]; omega)
      have hl8:8*k+8≤s.data.toList.length:=by rw [HL.out]; omega
      generalize be ((s.data.toList.drop (8*k)).take 8)=x at *
      have HO:=Lib.hid ho
      have HST:=Lib.hid hstep
      have HNO:=Lib.hid hno
      have HL8:=Lib.hid hl8
      clear ho hstep hno hl8
      have hone:∀ u∈[Value.int .i64 (x:Int)],u.oneCell'=true:=by intro u hu; rw [List.mem_singleton.1 hu]; rfl
      have hks:k < 1000000000000:=by omega
      have hmx:k+1≤maxLen:=by unfold maxLen; omega
      by_cases hx:x < 9223372036854775808
      ·have hsh:decide ((9223372036854775807:Int) < (x:Int))=false:=by simp; omega
       go_wp2_with (at_builtin; refine wpList_append_Own rfl _ _ 75 75 rfl intT intT _ k xs rfl HO.out _ 1 _ [.int .i64 x] rfl rfl ?hnews hone hmx (by omega) ?_)
       intro v' w' hA
       have HR:=Lib.hid (HST.out v' w' hx HL8.out hA)
       clear hA
       go_wp2
       go_roundw
       case rel=>exact ⟨k+1,by go_num,by omega,HR.out⟩
       case measure=>simp [intOf]; omega
      ·have hsh:decide ((9223372036854775807:Int) < (x:Int))=true:=by simp; omega
       have hR:=HNO.out hx
       have HR:=Lib.hid hR
       clear hR
       go_wp2
       go_ret2
       exact HR.out
   ·have hdk:decide (8*(k:Int) < (s.size:Int))=false:=by simp; omega
    have HR:=Lib.hid (HN.out.yes (by rw [HL.out]; omega))
    go_wp2
    go_ret2
    exact HR.out
 ·have HR:=Lib.hid (RetNumsG.no (hm (by rw [hl]; exact hmod)) (Below.refl w.heap.size w))
  have hmd:(((s.size:Int) % 8) != 0)=true:=by rw [bne_iff_ne]; omega
  generalize numsL s.data.toList=R at *
  clear hm h0 hl
  go_enter Tryz.func167,Tryz.ntmps167
  go_wp2
  go_ret2
  exact HR.out
def RKeyTo (t:Nat) (l:List Int) (w:World) (k:Nat) (s:ByteArray) (wr:World):Prop:=k≤l.length∧(∀ n∈l.take k,¬ n < 0)∧s=⟨(keyBytes t (l.take k)).toArray⟩∧Below w.heap.size w wr
theorem RKeyTo.next {t:Nat} {l:List Int} {w:World} {k:Nat} {s:ByteArray} {wr:World} (h:RKeyTo t l w k s wr) {n:Nat} (hn:l[k]? = some (n:Int)):RKeyTo t l w (k+1) (s ++ numB n) wr:=by
 obtain ⟨h1,h2,rfl,h4⟩:=h
 have hkl:k < l.length:=(List.getElem?_eq_some_iff.1 hn).1
 refine ⟨by omega,?_,?_,h4⟩
 ·rw [take_one_more l k _ hn]
  intro m hm
  rcases List.mem_append.1 hm with hm | hm
  ·exact h2 m hm
  ·rw [List.mem_singleton.1 hm]; omega
 ·rw [take_one_more l k _ hn,keyBytes_snoc]
  apply ba_ext
  rw [show ((⟨(keyBytes t (List.take k l)).toArray⟩:ByteArray) ++ numB n).data=(keyBytes t (List.take k l)).toArray ++ (numB n).data from ByteArray.data_append]
  simp [numB]
theorem key_new0 (t:Nat) (ht1:1≤t) (ht2:t≤255) (w:World):Calls Tryz.prog 90 #[.int .i64 t,.slice none 0 0] w fun e w'=>e = .returned (.string (keyL t []))∧Below w.heap.size w w' :=
 key_any t ht1 ht2 _ [] w (.inl ⟨rfl,rfl⟩) (by simp) (by simp)
def GetIs (w:World) (q:Option Addr) (k v:ByteArray) (ok:Bool):Prop:=Calls Tryz.prog 140 #[.pointer q,.string k] w fun e w'=>e = .returned (.tuple #[.string v,.bool ok])∧w=w'
theorem row_none (w:World) (q:Option Addr) (k:ByteArray) (hG:GetIs w q k emptyB false):Calls Tryz.prog 75 #[.pointer q,.string k] w fun e w'=>e = .returned (.slice none 0 0)∧w=w':=by
 have HN:=Lib.hid (nums_none w)
 generalize emptyB=v at *
 have HG:=Lib.hid hG
 clear hG
 go_enter Tryz.func75,Tryz.ntmps75
 go_wp2_with (first | (go_at_call 140; refine Calls.mono HG.out ?_; rintro e w' ⟨rfl,rfl⟩) | (go_at_call 147; refine HN.out.mono ?_; rintro e w' ⟨rfl,rfl⟩))
 go_ret
 exact ⟨rfl,rfl⟩
def RetInt (w:World) (n:Int) (e:Ending) (w':World):Prop:=e = .returned (.int .i64 n)∧Below w.heap.size w w'
theorem int_none (w:World) (q:Option Addr) (k:ByteArray) (hG:GetIs w q k emptyB false):Calls Tryz.prog 99 #[.pointer q,.string k] w fun e w'=>e = .returned (.int .i64 0)∧w=w':=by
 have HG:=Lib.hid (row_none w q k hG)
 clear hG
 go_enter Tryz.func99,Tryz.ntmps99
 go_wp2_with (go_at_call 75; refine HG.out.mono ?_; rintro e w' ⟨rfl,rfl⟩)
 go_ret
 exact ⟨rfl,rfl⟩
theorem RetSt.of_below {w w1:World} {b:Nat} {L:List Nat} {v:Value} {s':St} {e:Ending} {w':World} (hb:Below w.heap.size w w1) (h:RetSt w1 b L v s' e w'):RetSt w b L v s' e w':=by
 obtain ⟨he,L',h1,h2⟩:=h
 exact ⟨he,L',h1,(Step.mk (Fr.of_below hb _) fun _ h => .inl h).trans h2⟩
theorem put_some (w:World) (b:Nat) (s:St) (L:List Nat) (k v:ByteArray) (h:SRep w b s L) (hk:k≠emptyB) (hv:v≠emptyB) (hb:s.size < 1000000000000) :
  Calls Tryz.prog 149 #[.pointer (some ⟨b,0,none⟩),.string k,.string v] w (RetSt w b L (.tuple #[]) (s.set k v)):=by
 have HS:=Lib.hid (set_any w b s L k v h hk hb)
 have HE:Hid (∀ w',RetSt w b L (.int .i64 0) (s.set k v) (.returned (.int .i64 0)) w'→RetSt w b L (.tuple #[]) (s.set k v) (.returned (.tuple #[])) w'):=fun w' h=>⟨rfl,h.2⟩
 have HQ:Hid (∀ e w',RetSt w b L (.int .i64 0) (s.set k v) e w'→e = .returned (.int .i64 0)):=fun e w' h=>h.1
 generalize RetSt w b L (.tuple #[]) (s.set k v)=R at *
 generalize RetSt w b L (.int .i64 0) (s.set k v)=R0 at *
 have hv':=emptyK hv
 clear h hk hb hv
 go_enter Tryz.func149,Tryz.ntmps149
 go_wp2_with (go_at_call 208; refine HS.out.mono ?_; intro e w' hR; obtain rfl:=HQ.out _ _ hR)
 go_end0
 exact HE.out _ hR
theorem numB_ne (n:Nat):numB n≠emptyB:=fun h=>absurd (congrArg ByteArray.size h) (by rw [show (numB n).size=8 from rfl]; decide)
def rowOf (v:ByteArray):List Nat:=(numsL v.data.toList).getD []
def intOfV (v:ByteArray):Nat:=match rowOf v with | [n]=>n | _=>0
def St.int (s:St) (k:ByteArray):Nat:=intOfV (s.val k)
def St.put (s:St) (k v:ByteArray):St:=if v=emptyB then s.del k else if k=emptyB then s else s.set k v
def St.setInt (s:St) (k:ByteArray) (n:Int):St:=s.put k (if n < 1 then emptyB else numB n.toNat)
def intsV (l:List Nat):List Value:=l.map fun (n:Nat)=>Value.int .i64 n
def RetRowG (w:World) (l:List Nat) (e:Ending) (w':World):Prop:=∃ v,e = .returned v∧Own w' 3 1 v l.length (intsV l)∧(∀ g,v.ownBlock=some g→w.heap.size≤g)∧Below w.heap.size w w'
theorem rowG_any (w:World) (q:Option Addr) (k v:ByteArray) (ok:Bool) (hG:GetIs w q k v ok) (hv:v.size < 1000000000000):Calls Tryz.prog 75 #[.pointer q,.string k] w (RetRowG w (rowOf v)):=by
 have HG:=Lib.hid hG
 have HN:=Lib.hid (nums_any v hv w)
 have HE0:Hid (∀ w',numsL v.data.toList=none→Below w.heap.size w w'→RetRowG w (rowOf v) (.returned (.slice none 0 0)) w'):=fun w' h hb=>by
  have:rowOf v = []:=by unfold rowOf; rw [h]; rfl
  rw [this]
  exact ⟨_,rfl,Own.nil _ _ _,fun g hg=>by simp [Value.ownBlock] at hg,hb⟩
 have HE1:Hid (∀ w' ns u,numsL v.data.toList=some ns→Below w.heap.size w w'→Own w' 3 1 u ns.length (ns.map fun (n:Nat)=>Value.int .i64 n)→(∀ k,u.ownBlock=some k→w.heap.size≤k)→RetRowG w (rowOf v) (.returned u) w'):=fun w' ns u h hb ho hf=>by
  have:rowOf v=ns:=by unfold rowOf; rw [h]; rfl
  rw [this]
  exact ⟨_,rfl,ho,hf,hb⟩
 generalize RetRowG w (rowOf v)=R at *
 clear hG
 cases hn:numsL v.data.toList with
 | none =>
  rw [hn] at HN
  have HN2:Hid (Calls Tryz.prog 147 #[.string v] w fun e w'=>e = .returned (.tuple #[.slice none 0 0,.bool false])∧Below w.heap.size w w'):=HN.out.mono fun e w' h=>⟨h.2,h.1⟩
  have HEE:=Lib.hid (fun w'=>HE0.out w' hn)
  clear hn HN HE0 HE1
  go_enter Tryz.func75,Tryz.ntmps75
  go_wp2_with (first | (go_at_call 140; refine Calls.mono HG.out ?_; rintro e w' ⟨rfl,rfl⟩) | (go_at_call 147; refine Calls.mono HN2.out ?_; rintro e w' ⟨rfl,hb⟩))
  exact HEE.out _ hb
 | some ns =>
  rw [hn] at HN
  have HN2:Hid (Calls Tryz.prog 147 #[.string v] w fun e w'=>∃ a c,e = .returned (.tuple #[.slice a ns.length c,.bool true])∧R (.returned (.slice a ns.length c)) w'):=HN.out.mono fun e w' h=>by
   obtain ⟨hb,u,rfl,ho,hf⟩:=h
   obtain ⟨a,c,hu,_⟩:=ho.form
   subst hu
   exact ⟨a,c,rfl,HE1.out w' ns _ hn hb ho hf⟩
  clear hn HN HE0 HE1
  generalize ns.length=n at *
  go_enter Tryz.func75,Tryz.ntmps75
  go_wp2_with (first | (go_at_call 140; refine Calls.mono HG.out ?_; rintro e w' ⟨rfl,rfl⟩) | (go_at_call 147; refine Calls.mono HN2.out ?_; rintro e w' ⟨a,c,rfl,hR⟩))
  exact hR
theorem intG_any (w:World) (q:Option Addr) (k v:ByteArray) (ok:Bool) (hG:GetIs w q k v ok) (hv:v.size < 1000000000000):Calls Tryz.prog 99 #[.pointer q,.string k] w (RetInt w (intOfV v)):=by
 have HR:=Lib.hid (rowG_any w q k v ok hG hv)
 clear hG
 unfold intOfV
 match hr:rowOf v with
 | [] =>
  rw [hr] at HR
  have HR2:Hid (Calls Tryz.prog 75 #[.pointer q,.string k] w fun e w'=>∃ a c,e = .returned (.slice a 0 c)∧Below w.heap.size w w'):=HR.out.mono fun e w' ⟨v,h1,ho,_,hb⟩=>by
   obtain ⟨a,c,rfl,_⟩:=ho.form
   exact ⟨a,c,h1,hb⟩
  clear HR hr
  go_enter Tryz.func99,Tryz.ntmps99
  go_wp2_with (go_at_call 75; refine HR2.out.mono ?_; rintro e w' ⟨a,c,rfl,hb⟩)
  go_ret
  exact ⟨rfl,hb⟩
 | [n] =>
  rw [hr] at HR
  have HR2:Hid (Calls Tryz.prog 75 #[.pointer q,.string k] w fun e w'=>∃ g c,e = .returned (.slice (some ⟨g,0,none⟩) 1 c)∧w'.cell? ⟨g,0,none⟩=some (.int .i64 n)∧Below w.heap.size w w'):=HR.out.mono fun e w' ⟨v,h1,ho,_,hb⟩=>by
   obtain ⟨a,c,rfl,hc⟩:=ho.form
   obtain ⟨g,rfl,hc0⟩:=hc 0 (.int .i64 n) rfl
   exact ⟨g,c,h1,hc0,hb⟩
  clear HR hr
  go_enter Tryz.func99,Tryz.ntmps99
  go_wp2_with (go_at_call 75; refine HR2.out.mono ?_; rintro e w' ⟨g,c,rfl,hc,hb⟩)
  go_ret
  exact ⟨rfl,hb⟩
 | x :: y :: l =>
  rw [hr] at HR
  have HR2:Hid (Calls Tryz.prog 75 #[.pointer q,.string k] w fun e w'=>∃ a c,e = .returned (.slice a (l.length+1+1) c)∧Below w.heap.size w w'):=HR.out.mono fun e w' ⟨v,h1,ho,_,hb⟩=>by
   obtain ⟨a,c,rfl,_⟩:=ho.form
   exact ⟨a,c,h1,hb⟩
  clear HR hr
  have hne:(((l.length:Int)+1+1) == 1)=false:=by rw [beq_eq_false_iff_ne]; omega
  go_enter Tryz.func99,Tryz.ntmps99
  go_wp2_with (go_at_call 75; refine HR2.out.mono ?_; rintro e w' ⟨a,c,rfl,hb⟩)
  go_ret
  exact ⟨rfl,hb⟩
theorem SRep.get {w:World} {b:Nat} {s:St} {L:List Nat} (h:SRep w b s L) (k:ByteArray):GetIs w (some ⟨b,0,none⟩) k (s.val k) (getE s.ents k).isSome:=get_any w b s L k h
theorem int_at (w:World) (b:Nat) (s:St) (L:List Nat) (k:ByteArray) (h:SRep w b s L) (hv:(s.val k).size < 1000000000000):Calls Tryz.prog 99 #[.pointer (some ⟨b,0,none⟩),.string k] w (RetInt w (s.int k)) :=
 intG_any w _ k _ _ (h.get k) hv
theorem set_emptyK (w:World) (b:Nat) (v:ByteArray) (hc0:w.cell? ⟨b,0,none⟩=some (.bool true)):Calls Tryz.prog 208 #[.pointer (some ⟨b,0,none⟩),.string emptyB,.string v] w fun e w'=>e = .returned (.int .i64 2)∧w=w':=by
 unfold emptyB
 go_enter Tryz.func208,Tryz.ntmps208
 go_wp2_with (go_at_call 142; refine (is_at _ _ _ hc0).mono ?_; rintro e w' ⟨rfl,rfl⟩)
 go_ret
 exact ⟨rfl,rfl⟩
theorem putG_any (w:World) (b:Nat) (s:St) (L:List Nat) (k v:ByteArray) (h:SRep w b s L) (hb:s.size < 1000000000000) :
  Calls Tryz.prog 149 #[.pointer (some ⟨b,0,none⟩),.string k,.string v] w (RetSt w b L (.tuple #[]) (s.put k v)):=by
 by_cases hv:v=emptyB
 ·subst hv
  have e:s.put k emptyB=s.del k:=by unfold St.put; rw [if_pos rfl]
  rw [e]
  have HS:=Lib.hid (delete_any w b s L k h hb)
  have HQ:Hid (∀ e w',RetSt w b L (.bool (getE s.ents k).isSome) (s.del k) e w'→e = .returned (.bool (getE s.ents k).isSome)∧RetSt w b L (.tuple #[]) (s.del k) (.returned (.tuple #[])) w'):=fun e w' h=>⟨h.1,rfl,h.2⟩
  generalize RetSt w b L (.tuple #[]) (s.del k)=R at *
  generalize RetSt w b L (.bool (getE s.ents k).isSome) (s.del k)=R0 at *
  unfold emptyB
  clear h hb e
  go_enter Tryz.func149,Tryz.ntmps149
  go_wp2_with (go_at_call 85; refine HS.out.mono ?_; intro e w' hR; obtain ⟨rfl,hR2⟩:=HQ.out _ _ hR)
  refine bodyPost_ret (results_none rfl _ _ _) rfl ?_
  exact hR2
 ·by_cases hk:k=emptyB
  ·subst hk
   have e:s.put emptyB v=s:=by unfold St.put; rw [if_neg hv,if_pos rfl]
   rw [e]
   have HS:=Lib.hid (set_emptyK w b v h.cell0)
   have HE:Hid (RetSt w b L (.tuple #[]) s (.returned (.tuple #[])) w):=⟨rfl,L,h,Step.refl w L⟩
   generalize RetSt w b L (.tuple #[]) s=R at *
   have hv':=emptyK hv
   generalize emptyB=kk at *
   clear h hb e hv
   go_enter Tryz.func149,Tryz.ntmps149
   go_wp2_with (go_at_call 208; refine HS.out.mono ?_; rintro e w' ⟨rfl,rfl⟩)
   go_end0
   exact HE.out
  ·have e:s.put k v=s.set k v:=by unfold St.put; rw [if_neg hv,if_neg hk]
   rw [e]
   exact put_some w b s L k v h hk hv hb
theorem setIntG_any (w:World) (b:Nat) (s:St) (L:List Nat) (k:ByteArray) (n:Int) (hn:n < 9223372036854775808) (h:SRep w b s L) (hb:s.size < 1000000000000) :
  Calls Tryz.prog 114 #[.pointer (some ⟨b,0,none⟩),.string k,.int .i64 n] w (RetSt w b L (.tuple #[]) (s.setInt k n)):=by
 have HP:∀ v,Hid (∀ w1,Below w.heap.size w w1→Calls Tryz.prog 149 #[.pointer (some ⟨b,0,none⟩),.string k,.string v] w1 fun e w'=>e = .returned (.tuple #[])∧RetSt w b L (.tuple #[]) (s.put k v) e w'):=fun v w1 h1 =>
  (putG_any w1 b s L k v (h.fr (Fr.of_below h1 (fun _=>False)) (fun _ _=>id)) hb).mono fun e w' h2=>⟨h2.1,h2.of_below h1⟩
 by_cases h1:n < 1
 ·have e:s.setInt k n=s.put k emptyB:=by unfold St.setInt; rw [if_pos h1]
  rw [e]
  have HP1:=HP emptyB
  have hd:decide (n < 1)=true:=by simpa using h1
  unfold emptyB at *
  generalize RetSt w b L (.tuple #[]) (s.put k ⟨#[]⟩)=R at *
  clear h hb HP e
  go_enter Tryz.func114,Tryz.ntmps114
  go_wp2_with (go_at_call 149; refine (HP1.out _ (Below.refl _ _)).mono ?_; rintro e w' ⟨rfl,hR⟩)
  refine bodyPost_ret (results_none rfl _ _ _) rfl ?_
  exact hR
 ·obtain ⟨m,rfl⟩:∃ m:Nat,n=m:=⟨n.toNat,by omega⟩
  have e:s.setInt k m=s.put k (numB m):=by unfold St.setInt; rw [if_neg h1,Int.toNat_natCast]
  rw [e]
  have HP1:=HP (numB m)
  have HN:=Lib.hid (num_any m w (by omega))
  have hd:decide ((m:Int) < 1)=false:=by simp; omega
  generalize RetSt w b L (.tuple #[]) (s.put k (numB m))=R at *
  generalize numB m=nb at *
  clear h hb HP e
  go_enter Tryz.func114,Tryz.ntmps114
  go_wp2_with (first | (go_at_call 162; refine HN.out.mono ?_; rintro e w1 ⟨rfl,hb1⟩) | (go_at_call 149; refine (HP1.out _ hb1).mono ?_; rintro e w' ⟨rfl,hR⟩))
  go_end0
  exact hR
theorem SRep.below {w w':World} {b:Nat} {s:St} {L:List Nat} (h:SRep w b s L) (hb:Below w.heap.size w w'):SRep w' b s L :=
 h.frame fun k hk=>hb.block k (h.lt k hk)
theorem RetInt.of_below {w w1:World} {n:Int} {e:Ending} {w':World} (hb:Below w.heap.size w w1) (h:RetInt w1 n e w'):RetInt w n e w':=⟨h.1,hb.trans (h.2.mono hb.size)⟩
structure St.Fit (s:St) (m:Nat):Prop where
 size:s.size≤m
 srt:Sorted s.ents
 vals:∀ e∈s.ents,e.2.size≤1000000
 pvals:∀ x∈s.past,x.val.size≤1000000
theorem St.Fit.empty:emptySt.Fit 0:=⟨by decide,List.Pairwise.nil,by simp [emptySt],by simp [emptySt]⟩
theorem St.Fit.mono {s:St} {m n:Nat} (h:s.Fit m) (hn:m≤n):s.Fit n:=⟨Nat.le_trans h.size hn,h.srt,h.vals,h.pvals⟩
theorem St.Fit.val {s:St} {m:Nat} (h:s.Fit m) (k:ByteArray):(s.val k).size≤1000000:=by
 unfold St.val
 cases hg:getE s.ents k with
 | none=>show emptyB.size≤_; decide
 | some v=>exact h.vals _ (getE_mem hg)
theorem St.Fit.val' {s:St} {m:Nat} (h:s.Fit m) (k:ByteArray):(s.val k).size < 1000000000000:=by have:=h.val k; omega
theorem St.Fit.set {s:St} {m:Nat} (h:s.Fit m) (k:ByteArray) {v:ByteArray} (hv:v.size≤1000000):(s.set k v).Fit (m+2):=by
 refine ⟨Nat.le_trans (s.set_size k v) (by have:=h.size; omega),St.set_sorted h.srt k v,fun e he => ?_,fun x hx => ?_⟩
 ·unfold St.set at he
  split at he
  ·exact h.vals e he
  ·rcases putE_mem he with rfl | he
   ·exact hv
   ·exact h.vals e he
 ·unfold St.set at hx
  split at hx
  ·exact h.pvals x hx
  ·rcases List.mem_append.1 hx with hx | hx
   ·exact h.pvals x hx
   ·rw [List.mem_singleton.1 hx]; exact h.val k
theorem St.Fit.del {s:St} {m:Nat} (h:s.Fit m) (k:ByteArray):(s.del k).Fit (m+2):=by
 refine ⟨Nat.le_trans (s.del_size k) (by have:=h.size; omega),St.del_sorted h.srt k,fun e he => ?_,fun x hx => ?_⟩
 ·unfold St.del at he
  split at he
  ·exact h.vals e (delE_mem he)
  ·exact h.vals e he
 ·unfold St.del at hx
  split at hx
  ·rcases List.mem_append.1 hx with hx | hx
   ·exact h.pvals x hx
   ·rw [List.mem_singleton.1 hx]; exact h.val k
  ·exact h.pvals x hx
theorem St.Fit.put {s:St} {m:Nat} (h:s.Fit m) (k:ByteArray) {v:ByteArray} (hv:v.size≤1000000):(s.put k v).Fit (m+2):=by
 unfold St.put
 split
 ·exact h.del k
 ·split
  ·exact h.mono (by omega)
  ·exact h.set k hv
theorem St.Fit.setInt {s:St} {m:Nat} (h:s.Fit m) (k:ByteArray) (n:Int):(s.setInt k n).Fit (m+2):=by
 unfold St.setInt
 refine h.put k ?_
 split
 ·decide
 ·rw [show (numB n.toNat).size=8 from rfl]; decide
theorem rowOf_numB (n:Nat) (hn:n < 9223372036854775808):rowOf (numB n) = [n]:=by unfold rowOf; rw [numsL_numB n hn]; rfl
theorem intOfV_numB (n:Nat) (hn:n < 9223372036854775808):intOfV (numB n)=n:=by unfold intOfV; rw [rowOf_numB n hn]
theorem intOfV_empty:intOfV emptyB=0:=rfl
theorem val_put (s:St) (hs:Sorted s.ents) (k v j:ByteArray) (hk:k≠emptyB):(s.put k v).val j=if k=j then v else s.val j:=by
 unfold St.put
 by_cases hv:v=emptyB
 ·rw [if_pos hv]
  unfold St.del
  by_cases hg:(getE s.ents k).isSome=true
  ·rw [if_pos hg]
   unfold St.val
   simp only [getE_delE _ hs]
   by_cases e:k=j
   ·simp [e,hv]
   ·simp [e]
  ·rw [if_neg hg]
   by_cases e:k=j
   ·subst e
    have:getE s.ents k=none:=by simpa using hg
    rw [if_pos rfl,hv]
    unfold St.val
    rw [this]; rfl
   ·rw [if_neg e]
 ·rw [if_neg hv,if_neg hk]
  unfold St.set
  by_cases hg:getE s.ents k=some v
  ·rw [if_pos hg]
   by_cases e:k=j
   ·subst e; rw [if_pos rfl]; unfold St.val; rw [hg]; rfl
   ·rw [if_neg e]
  ·rw [if_neg hg]
   unfold St.val
   simp only [getE_putE _ hs]
   by_cases e:k=j <;> simp [e]
theorem int_setInt (s:St) (hs:Sorted s.ents) (k j:ByteArray) (hk:k≠emptyB) (n:Int) (hn:n < 9223372036854775808):(s.setInt k n).int j=if k=j then n.toNat else s.int j:=by
 unfold St.int St.setInt
 rw [val_put s hs k _ j hk]
 by_cases e:k=j
 ·rw [if_pos e,if_pos e]
  by_cases h1:n < 1
  ·rw [if_pos h1,intOfV_empty]; omega
  ·rw [if_neg h1,intOfV_numB _ (by omega)]
 ·rw [if_neg e,if_neg e]
def RGetIs (w:World) (b:Nat) (k v:ByteArray) (ok:Bool):Prop:=Calls Tryz.prog 164 #[.pointer (some ⟨b,0,none⟩),.string k] w fun e w'=>e = .returned (.tuple #[.string v,.bool ok])∧w=w'
theorem rrowG_any (w:World) (b:Nat) (k v:ByteArray) (ok:Bool) (hG:RGetIs w b k v ok) (hv:v.size < 1000000000000):Calls Tryz.prog 98 #[.pointer (some ⟨b,0,none⟩),.string k] w (RetRowG w (rowOf v)):=by
 have HG:=Lib.hid hG
 have HN:=Lib.hid (rnums_any v hv w)
 have HE0:Hid (∀ w',numsL v.data.toList=none→Below w.heap.size w w'→RetRowG w (rowOf v) (.returned (.slice none 0 0)) w'):=fun w' h hb=>by
  have:rowOf v = []:=by unfold rowOf; rw [h]; rfl
  rw [this]
  exact ⟨_,rfl,Own.nil _ _ _,fun g hg=>by simp [Value.ownBlock] at hg,hb⟩
 have HE1:Hid (∀ w' ns u,numsL v.data.toList=some ns→Below w.heap.size w w'→Own w' 3 1 u ns.length (ns.map fun (n:Nat)=>Value.int .i64 n)→(∀ k,u.ownBlock=some k→w.heap.size≤k)→RetRowG w (rowOf v) (.returned u) w'):=fun w' ns u h hb ho hf=>by
  have:rowOf v=ns:=by unfold rowOf; rw [h]; rfl
  rw [this]
  exact ⟨_,rfl,ho,hf,hb⟩
 generalize RetRowG w (rowOf v)=R at *
 clear hG
 cases hn:numsL v.data.toList with
 | none =>
  rw [hn] at HN
  have HN2:Hid (Calls Tryz.prog 167 #[.string v] w fun e w'=>e = .returned (.tuple #[.slice none 0 0,.bool false])∧Below w.heap.size w w'):=HN.out.mono fun e w' h=>⟨h.2,h.1⟩
  have HEE:=Lib.hid (fun w'=>HE0.out w' hn)
  clear hn HN HE0 HE1
  go_enter Tryz.func98,Tryz.ntmps98
  go_wp2_with (first | (go_at_call 164; refine Calls.mono HG.out ?_; rintro e w' ⟨rfl,rfl⟩) | (go_at_call 167; refine Calls.mono HN2.out ?_; rintro e w' ⟨rfl,hb⟩))
  exact HEE.out _ hb
 | some ns =>
  rw [hn] at HN
  have HN2:Hid (Calls Tryz.prog 167 #[.string v] w fun e w'=>∃ a c,e = .returned (.tuple #[.slice a ns.length c,.bool true])∧R (.returned (.slice a ns.length c)) w'):=HN.out.mono fun e w' h=>by
   obtain ⟨hb,u,rfl,ho,hf⟩:=h
   obtain ⟨a,c,hu,_⟩:=ho.form
   subst hu
   exact ⟨a,c,rfl,HE1.out w' ns _ hn hb ho hf⟩
  clear hn HN HE0 HE1
  generalize ns.length=n at *
  go_enter Tryz.func98,Tryz.ntmps98
  go_wp2_with (first | (go_at_call 164; refine Calls.mono HG.out ?_; rintro e w' ⟨rfl,rfl⟩) | (go_at_call 167; refine Calls.mono HN2.out ?_; rintro e w' ⟨a,c,rfl,hR⟩))
  exact hR
theorem rintG_any (w:World) (b:Nat) (k v:ByteArray) (ok:Bool) (hG:RGetIs w b k v ok) (hv:v.size < 1000000000000):Calls Tryz.prog 100 #[.pointer (some ⟨b,0,none⟩),.string k] w (RetInt w (intOfV v)):=by
 have HR:=Lib.hid (rrowG_any w b k v ok hG hv)
 clear hG
 unfold intOfV
 match hr:rowOf v with
 | [] =>
  rw [hr] at HR
  have HR2:Hid (Calls Tryz.prog 98 #[.pointer (some ⟨b,0,none⟩),.string k] w fun e w'=>∃ a c,e = .returned (.slice a 0 c)∧Below w.heap.size w w'):=HR.out.mono fun e w' ⟨v,h1,ho,_,hb⟩=>by
   obtain ⟨a,c,rfl,_⟩:=ho.form
   exact ⟨a,c,h1,hb⟩
  clear HR hr
  go_enter Tryz.func100,Tryz.ntmps100
  go_wp2_with (go_at_call 98; refine HR2.out.mono ?_; rintro e w' ⟨a,c,rfl,hb⟩)
  go_ret
  exact ⟨rfl,hb⟩
 | [n] =>
  rw [hr] at HR
  have HR2:Hid (Calls Tryz.prog 98 #[.pointer (some ⟨b,0,none⟩),.string k] w fun e w'=>∃ g c,e = .returned (.slice (some ⟨g,0,none⟩) 1 c)∧w'.cell? ⟨g,0,none⟩=some (.int .i64 n)∧Below w.heap.size w w'):=HR.out.mono fun e w' ⟨v,h1,ho,_,hb⟩=>by
   obtain ⟨a,c,rfl,hc⟩:=ho.form
   obtain ⟨g,rfl,hc0⟩:=hc 0 (.int .i64 n) rfl
   exact ⟨g,c,h1,hc0,hb⟩
  clear HR hr
  go_enter Tryz.func100,Tryz.ntmps100
  go_wp2_with (go_at_call 98; refine HR2.out.mono ?_; rintro e w' ⟨g,c,rfl,hc,hb⟩)
  go_ret
  exact ⟨rfl,hb⟩
 | x :: y :: l =>
  rw [hr] at HR
  have HR2:Hid (Calls Tryz.prog 98 #[.pointer (some ⟨b,0,none⟩),.string k] w fun e w'=>∃ a c,e = .returned (.slice a (l.length+1+1) c)∧Below w.heap.size w w'):=HR.out.mono fun e w' ⟨v,h1,ho,_,hb⟩=>by
   obtain ⟨a,c,rfl,_⟩:=ho.form
   exact ⟨a,c,h1,hb⟩
  clear HR hr
  have hne:(((l.length:Int)+1+1) != 1)=true:=by rw [bne_iff_ne]; omega
  go_enter Tryz.func100,Tryz.ntmps100
  go_wp2_with (go_at_call 98; refine HR2.out.mono ?_; rintro e w' ⟨a,c,rfl,hb⟩)
  go_ret
  exact ⟨rfl,hb⟩
theorem rint_at (w:World) (b:Nat) (s:St) (L:List Nat) (k:ByteArray) (h:RRep w b s L) (hv:(s.val k).size < 1000000000000) (hn:s.size < 1000000000000):Calls Tryz.prog 100 #[.pointer (some ⟨b,0,none⟩),.string k] w (RetInt w (s.int k)) :=
 rintG_any w b k _ _ (rget_any w b s L k h (by unfold St.size at hn; omega)) hv
theorem RetR.of_below {w w1:World} {b:Nat} {L:List Nat} {v:Value} {s':St} {e:Ending} {w':World} (hb:Below w.heap.size w w1) (h:RetR w1 b L v s' e w'):RetR w b L v s' e w':=by
 obtain ⟨he,L',h1,h2⟩:=h
 exact ⟨he,L',h1,(Step.mk (Fr.of_below hb _) fun _ h => .inl h).trans h2⟩
theorem rsetInt_any (w:World) (b:Nat) (s:St) (L:List Nat) (k:ByteArray) (n:Int) (hn:n < 9223372036854775808) (h:RRep w b s L) (hb:s.size < 1000000000000) :
  Calls Tryz.prog 189 #[.pointer (some ⟨b,0,none⟩),.string k,.int .i64 n] w (RetR w b L (.tuple #[]) (s.setInt k n)):=by
 by_cases h1:n < 1
 ·have e:s.setInt k n=s.del k:=by unfold St.setInt St.put; rw [if_pos h1,if_pos rfl]
  rw [e]
  have HD:Hid (Calls Tryz.prog 136 #[.pointer (some ⟨b,0,none⟩),.string k] w fun e w'=>e = .returned (.bool (getE s.ents k).isSome)∧RetR w b L (.tuple #[]) (s.del k) (.returned (.tuple #[])) w'):=(rdelete_any w b s L k h hb).mono fun e w' h=>⟨h.1,rfl,h.2⟩
  have hd:decide (n < 1)=true:=by simpa using h1
  generalize RetR w b L (.tuple #[]) (s.del k)=R at *
  clear h hb e
  go_enter Tryz.func189,Tryz.ntmps189
  go_wp2_with (go_at_call 136; refine HD.out.mono ?_; rintro e w' ⟨rfl,hR⟩)
  refine bodyPost_ret (results_none rfl _ _ _) rfl ?_
  exact hR
 ·obtain ⟨m,rfl⟩:∃ m:Nat,n=m:=⟨n.toNat,by omega⟩
  have HS:Hid (∀ w1,Below w.heap.size w w1→Calls Tryz.prog 198 #[.pointer (some ⟨b,0,none⟩),.string k,.string (numB m)] w1 fun e w'=>∃ x:Int,e = .returned (.int .i64 x)∧RetR w b L (.tuple #[]) (s.setInt k m) (.returned (.tuple #[])) w'):=fun w1 hb1=>by
   have h1':=h.below hb1
   have e:s.setInt k m=(if k=emptyB then s else s.set k (numB m)):=by
    unfold St.setInt St.put; rw [if_neg h1,Int.toNat_natCast,if_neg (numB_ne m)]
   rw [e]
   by_cases hk:k=emptyB
   ·subst hk
    rw [if_pos rfl]
    refine (rset_empty w1 b (numB m)).mono fun e w' ⟨he,hw⟩ => ?_
    subst hw
    exact ⟨2,he,RetR.of_below hb1 ⟨rfl,L,h1',Step.refl _ _⟩⟩
   ·rw [if_neg hk]
    exact (rset_any w1 b s L k (numB m) h1' hk hb).mono fun e w' h2=>⟨0,h2.1,RetR.of_below hb1 ⟨rfl,h2.2⟩⟩
  have HN:=Lib.hid (rnum_any m w (by omega))
  have hd:decide ((m:Int) < 1)=false:=by simp; omega
  generalize RetR w b L (.tuple #[]) (s.setInt k m)=R at *
  generalize numB m=nb at *
  clear h hb
  go_enter Tryz.func189,Tryz.ntmps189
  go_wp2_with (first | (go_at_call 166; refine HN.out.mono ?_; rintro e w1 ⟨rfl,hb1⟩) | (go_at_call 198; refine (HS.out _ hb1).mono ?_; rintro e w' ⟨x,rfl,hR⟩))
  go_end0
  exact hR
end Go.Proofs.YtnkilceibkkjlaaGreat
