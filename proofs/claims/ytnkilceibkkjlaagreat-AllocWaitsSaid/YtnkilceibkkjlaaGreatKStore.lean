/- What is proved here: a key leaves a store's rows of keys. -/
import Derived.Test.YtnkilceibkkjlaaGreatKEnter
set_option maxRecDepth 100000
set_option maxHeartbeats 16000000
namespace Go.Proofs.YtnkilceibkkjlaaGreat
open Go.RowKit
theorem zsx(w:World)(g c:Nat)(xs:List ByteArray)(i:Nat)(hi:i<xs.length)
  (ho:Own w 9 1 (.slice (some ⟨g,0,none⟩) xs.length c) xs.length (strs xs)) :
  Calls Tryz.prog 242 #[.slice (some ⟨g,0,none⟩) xs.length c,.int .i64 i,.int .i64 ((i:Int)+1)] w (zc7 w 9 g c i (strs xs)):=by
 rcases ho.2 with⟨h,_⟩ | ⟨g',c',cur,h,hg,hnc,hcm,hcs,hx⟩
 ·cases h
 ·cases h;rw[Nat.mul_one]at hcs hx;have:=zst w g c cur (strs xs) xs.length i (z5r xs).symm hi hg hnc hcm hcs hx (zbi xs)
  rwa [show((i+1:Nat):Int)=(i:Int)+1 by omega]at this
theorem zrg(w:World)(g c:Nat)(xs:List Blk)(i:Nat)(hi:i<xs.length)
  (ho:Own w 220 1 (.slice (some ⟨g,0,none⟩) xs.length c) xs.length (xs.map Blk.val)) :
  Calls Tryz.prog 243 #[.slice (some ⟨g,0,none⟩) xs.length c,.int .i64 i,.int .i64 ((i:Int)+1)] w (zc7 w 220 g c i (xs.map Blk.val)):=by
 have hl:xs.length=(xs.map Blk.val).length:=by simp
 rcases ho.2 with⟨h,_⟩ | ⟨g',c',cur,h,hg,hnc,hcm,hcs,hx⟩
 ·cases h
 ·cases h;rw[Nat.mul_one]at hcs hx;have:=zsi w g c cur (xs.map Blk.val) xs.length i hl hi hg hnc hcm hcs hx (zfm xs)
  rwa [show((i+1:Nat):Int)=(i:Int)+1 by omega]at this
theorem zm5{w w2:World}{b g c n m i p:Nat}{bs A C:List Blk}{x:Blk}{mv pv:Value}{k:ByteArray}
  (hK:KRep w (.slice (some ⟨g,0,none⟩) n c) bs) (e:bs=A++x::C) (hl:lb (z01 bs) k=(z01 A).length+lb x.keys k)
  (hm:m+1=x.keys.length) (hm0:0<m) (hn:n=bs.length) (hi:i=A.length) (hp:p=lb x.keys k) (hpm:p<m+1)
  (hh2:w2.heap[b]?=some (z1e true mv (.slice (some ⟨g,0,none⟩) n c) pv))
  (hO:Own w2 9 1 (.slice (some ⟨x.g,0,none⟩) m x.cap) m ((strs x.keys).take p++(strs x.keys).drop (p+1)))
  (hR2:Own w2 220 1 (.slice (some ⟨g,0,none⟩) n c) n (bs.map Blk.val))
  (hF2:Fr (· = x.g) w w2) (hbg:b≠g) (hgk:g≠x.g) :
  Keyed w b (.slice (some ⟨g,0,none⟩) n c) bs mv pv ((z01 bs).take (lb (z01 bs) k)++(z01 bs).drop (lb (z01 bs) k+1)) (w2.setCell ⟨g,i,none⟩ (.slice (some ⟨x.g,0,none⟩) m x.cap)):=by
 have hFw:Fr (fun j=>j=b\/j∈kids (.slice (some ⟨g,0,none⟩) n c) bs) w w2:=hF2.mono (fun j _ hj => .inr (by rw[hj,e];simp[kids]));obtain⟨ks,hks⟩:∃ ks,ks=x.keys.take p++x.keys.drop (p+1):=⟨_,rfl⟩;have hkl:ks.length=m:=by rw[hks];simp only[List.length_append,List.length_take,List.length_drop];omega
 have hstr:strs ks=(strs x.keys).take p++(strs x.keys).drop (p+1):=by rw[hks];simp[strs]
 have hall:z01 (A++(⟨x.g,x.cap,ks⟩:Blk)::C)=(z01 bs).take (lb (z01 bs) k)++(z01 bs).drop (lb (z01 bs) k+1):=by
  rw[hl,e,<- hp,zer A C x p (by omega),z0r,z0y,<- hks]
 have hval:(⟨x.g,x.cap,ks⟩:Blk).val= .slice (some ⟨x.g,0,none⟩) m x.cap:=by simp only[Blk.val,hkl]
 have hnd:=hK.nd;rw[e]at hnd;have hne:∀ j∈(A++C).map Blk.g,j≠x.g/\j≠g:=by
  intro j hj;simp only[Value.ownBlock,Option.toList,kids,List.map_append,List.map_cons,List.nodup_append,List.mem_append,List.mem_cons,List.nodup_cons,List.not_mem_nil,or_false]at hnd hj
  grind
 rw[<- hstr]at hO;refine⟨⟨_,A++⟨x.g,x.cap,ks⟩::C,?_,hK.put e ?_ hn ⟨?_,?_⟩ (.inl rfl) ?_ ?_,hall,?_⟩,?_⟩
 ·rw[Below.heap_setCell _ _ _ _ hbg];exact hh2
 ·have:=hR2.setCell i (.slice (some ⟨x.g,0,none⟩) m x.cap);rw[e,hi,List.map_append,List.map_cons,show A.length=(A.map Blk.val).length by simp,List.set_append_right _ _ (Nat.le_refl _)]at this
  rw[List.map_append,List.map_cons,hval,hi]
  simpa using this
 ·show ks≠[]
  intro h;rw[h]at hkl;simp at hkl;omega
 ·rw[hval];show Own _ _ 1 _ ks.length _
  rw[hkl];exact hO.frame (fun j hj=>by simp[Value.ownBlock]at hj;subst hj;exact Below.heap_setCell _ _ _ _ (Ne.symm hgk))
 ·intro j hj;obtain⟨h1,h2⟩:=hne j hj
  have hjw:j<w.heap.size:=hK.lt j (by
   rw[e];simp only[kids,List.map_append,List.map_cons,List.mem_append,List.mem_cons]at hj ⊢;rcases hj with hj | hj
   ·exact .inr (.inl hj)
   ·exact .inr (.inr (.inr hj)))
  rw[Below.heap_setCell _ _ _ _ h2,hF2.block j hjw h1]
 ·rw[hall];exact za3 hK.srt _
 ·intro j hj;rw[e];simp only[kids,List.map_append,List.map_cons]at hj ⊢;exact .inl hj
 ·exact hFw.setCell _ _ (.inr (.inr (by simp[kids,Value.ownBlock])))
theorem zso{w w2 w3:World}{b g c n i:Nat}{bs A C:List Blk}{x:Blk}{mv pv:Value}{k:ByteArray}
  (hK:KRep w (.slice (some ⟨g,0,none⟩) n c) bs) (e:bs=A++x::C) (hl:lb (z01 bs) k=(z01 A).length+lb x.keys k)
  (hm:x.keys.length=1) (hn:n=bs.length) (hi:i=A.length) (hp:lb x.keys k<1)
  (hh2:w2.heap[b]?=some (z1e true mv (.slice (some ⟨g,0,none⟩) n c) pv))
  (hF2:Fr (· = x.g) w w2) (hD:z95 w2 220 g c i (bs.map Blk.val) (.slice (some ⟨g,0,none⟩) (n-1) c) w3) (hbg:b≠g) (hbk:b∉kids (.slice (some ⟨g,0,none⟩) n c) bs) :
  Keyed w b (.slice (some ⟨g,0,none⟩) n c) bs mv pv ((z01 bs).take (lb (z01 bs) k)++(z01 bs).drop (lb (z01 bs) k+1)) (w3.setCell ⟨b,2,none⟩ (.slice (some ⟨g,0,none⟩) (n-1) c)):=by
 have hFw:Fr (fun j=>j=b\/j∈kids (.slice (some ⟨g,0,none⟩) n c) bs) w w3:=
  (hF2.mono (fun j _ hj => .inr (by rw[hj,e];simp[kids]))).trans hD.fr (fun j _ hj => .inr (by rw[hj];simp[kids,Value.ownBlock]))
 have hall:z01 (A++C)=(z01 bs).take (lb (z01 bs) k)++(z01 bs).drop (lb (z01 bs) k+1):=by
  rw[hl,e,zer A C x _ (by omega),z0r];have h0:lb x.keys k=0:=by omega
  rw[h0,List.drop_of_length_le (by omega)];simp
 have hnd:=hK.nd;have hh3:w3.heap[b]?=some (z1e true mv (.slice (some ⟨g,0,none⟩) n c) pv):=hD.fr.at hh2 hbg;have hvals:(bs.map Blk.val).take i++(bs.map Blk.val).drop (i+1)=(A++C).map Blk.val:=by
  rw[e,hi,show(A++x::C).map Blk.val=A.map Blk.val++x.val::C.map Blk.val by simp,show A.length=(A.map Blk.val).length by simp,List.take_left,List.drop_length_add_append]
  simp
 have hO:=hD.own;rw[hvals,List.length_map,show bs.length-1=(A++C).length by rw[e];simp]at hO
 have hn1:n-1=(A++C).length:=by rw[hn,e];simp
 rw[e]at hnd;have hne:∀ y∈A++C,y.g≠x.g/\y.g≠g/\y.g≠b/\y.g<w.heap.size:=by
  intro y hy;have hyb:y∈bs:=by
   rw[e];simp only[List.mem_append,List.mem_cons]at hy ⊢;rcases hy with h | h
   ·exact .inl h
   ·exact .inr (.inr h)
  have h1:y.g≠b:=fun h=>hbk (by rw[<- h];exact List.mem_append.2 (.inr (List.mem_map.2 ⟨y,hyb,rfl⟩)))
  have h2:=(hK.rows y hyb).lt;have hj:y.g∈(A++C).map Blk.g:=List.mem_map.2 ⟨y,hy,rfl⟩;simp only[Value.ownBlock,Option.toList,kids,List.map_append,List.map_cons,List.nodup_append,List.mem_append,List.mem_cons,List.nodup_cons,List.not_mem_nil,or_false]at hnd hj
  grind
 refine⟨⟨_,A++C,zcd hh3 _,⟨?_,fun y hy => ?_,?_,?_⟩,hall,?_⟩,hFw.setCell _ _ (.inr (.inl rfl))⟩
 ·rw[hn1]at hO ⊢;exact hO.frame (fun j hj=>by simp[Value.ownBlock]at hj;subst hj;exact Below.heap_setCell _ _ _ _ (by exact Ne.symm hbg))
 ·obtain⟨h1,h2,h3,h4⟩:=hne y hy;refine(hK.rows y ?_).frame (by rw[Below.heap_setCell _ _ _ _ h3,hD.fr.block _ (Nat.lt_of_lt_of_le h4 hF2.size) h2,hF2.block _ h4 h1]);rw[e];simp only[List.mem_append,List.mem_cons]at hy ⊢;rcases hy with h | h
  ·exact .inl h
  ·exact .inr (.inr h)
 ·rw[hall];exact za3 hK.srt _
 ·simp only[Value.ownBlock,Option.toList,kids,List.map_append,List.map_cons,List.nodup_append,List.mem_append,List.mem_cons,List.nodup_cons,List.not_mem_nil,or_false]at hnd ⊢
  grind
 ·intro j hj;rw[e];simp only[kids,List.map_append,List.map_cons,List.mem_append,List.mem_cons]at hj ⊢;rcases hj with hj | hj | hj
  ·exact .inl (.inl hj)
  ·exact .inl (.inr (.inl hj))
  ·exact .inl (.inr (.inr (.inr hj)))
theorem zno(w:World)(b g c:Nat)(bs:List Blk)(mv pv:Value)(k:ByteArray)(h0:0<bs.length)
  (hh:w.heap[b]?=some (z1e true mv (.slice (some ⟨g,0,none⟩) bs.length c) pv)) (hK:KRep w (.slice (some ⟨g,0,none⟩) bs.length c) bs)
  (hbk:b∉kids (.slice (some ⟨g,0,none⟩) bs.length c) bs) (hk:k∈z01 bs) (hb:(z01 bs).length<1000000000000) :
  Calls Tryz.prog 207 #[.pointer (some ⟨b,0,none⟩),.string k] w
   (z9g w b (.slice (some ⟨g,0,none⟩) bs.length c) bs mv pv ((z01 bs).take (lb (z01 bs) k)++(z01 bs).drop (lb (z01 bs) k+1))):=by
 obtain⟨A,x,C,e,hA,hl⟩:=place hK.ne hK.srt k h0;have hplt:=zr3 hK.srt e hl hk hK.ne hA;have hx:x∈bs:=by rw[e];simp
 have hxA:=hK.rows x hx;have hxl:=z6s hx;have hbl:=z5x hK.ne;obtain⟨m,hm⟩:∃ m,m+1=x.keys.length:=⟨x.keys.length-1,by have:=List.length_pos_iff.2 hxA.1;omega⟩;obtain⟨n,hn⟩:∃ n,n=bs.length:=⟨_,rfl⟩;obtain⟨i,hi⟩:∃ i,i=A.length:=⟨_,rfl⟩;obtain⟨p,hp⟩:∃ p,p=lb x.keys k:=⟨_,rfl⟩;have hin:i<n:=by rw[hi,hn,e];simp
 have hpm:p<m+1:=by rw[hp,hm];exact hplt
 have hgw:=hK.lt g (by simp[kids,Value.ownBlock]);have hxw:=hxA.lt;obtain⟨_,_,hb2,_,hfz⟩:=z0q hh;have hrow:w.cell? ⟨g,i,none⟩=some (.slice (some ⟨x.g,0,none⟩) (m+1) x.cap):=by
  have:=hK.row.cells (g:=g) rfl i x.val (by rw[hi,e];simp);rw[Addr.add_lit,Nat.zero_add]at this;rw[this,hm];rfl
 have hfind:=zgl w b g c bs k (z4o hK.ne hK.srt) (by omega) h0 hb2 (hK.lasts (by omega));rw[<- hA,<- hi]at hfind
 have hsearch:=zbu w x.g x.cap x.keys k (z3x hK.srt hx) (by omega) (fun j y hj=>by
  have:=hxA.2.cells (g:=x.g) rfl j (.string y) (by simp[strs,hj])
  rwa [Addr.add_lit,Nat.zero_add]at this)
 rw[<- hm,<- hp]at hsearch;have hdel:=zsx w x.g x.cap x.keys p (by rw[hp];exact hplt) hxA.2;rw[<- hm]at hdel;have hbg:b≠g:=fun h=>hbk (by rw[h];simp[kids,Value.ownBlock])
 have hbx:b≠x.g:=fun h=>hbk (by rw[e,h];simp[kids])
 have hgk:g≠x.g:=by
  have h:=hK.nd;intro e2;rw[e]at h;simp[kids,Value.ownBlock,e2]at h
 have HB2:Hid (∀ w2 v2,z95 w 9 x.g x.cap p (strs x.keys) v2 w2->v2= .slice (some ⟨x.g,0,none⟩) m x.cap/\w2.heap[b]?=some (z1e true mv (.slice (some ⟨g,0,none⟩) n c) pv) /\
   Own w2 9 1 (.slice (some ⟨x.g,0,none⟩) m x.cap) m ((strs x.keys).take p++(strs x.keys).drop (p+1))/\Own w2 220 1 (.slice (some ⟨g,0,none⟩) n c) n (bs.map Blk.val)/\Fr (· = x.g) w w2 /\
   w2.cell? ⟨b,2,none⟩=some (.slice (some ⟨g,0,none⟩) n c)/\w2.cell? ⟨g,i,none⟩=some (.slice (some ⟨x.g,0,none⟩) (m+1) x.cap)/\w2.frozen? ⟨g,i,none⟩=false):=fun w2 v2 hD=>by
  have hv:=hD.val;have hO:=hD.own;rw[z5r,<- hm]at hv hO;simp only[Nat.add_sub_cancel]at hv hO;rw[hv]at hO;have h2:w2.heap[b]?=some (z1e true mv (.slice (some ⟨g,0,none⟩) n c) pv):=by rw[hn];exact hD.fr.at hh hbx
  have hR:Own w2 220 1 (.slice (some ⟨g,0,none⟩) n c) n (bs.map Blk.val):=by
   rw[hn];exact hK.row.fr hD.fr (fun j hj=>by simp[Value.ownBlock]at hj;subst hj;exact hgk)
  exact⟨hv,h2,hO,hR,hD.fr,(z0q h2).2.2.1,hD.fr.cell hrow hgk,zet hR i⟩
 have HEND1:Hid (∀ w2 v2,0<m->z95 w 9 x.g x.cap p (strs x.keys) v2 w2->Keyed w b (.slice (some ⟨g,0,none⟩) n c) bs mv pv ((z01 bs).take (lb (z01 bs) k)++(z01 bs).drop (lb (z01 bs) k+1)) (w2.setCell ⟨g,i,none⟩ (.slice (some ⟨x.g,0,none⟩) m x.cap))):=fun w2 v2 hm0 hD=>by
  obtain⟨h1,h2,h3,h4,h5,_⟩:=HB2.out w2 v2 hD;rw[<- hn]at hK;exact zm5 hK e hl hm hm0 hn hi hp hpm h2 h3 h4 h5 hbg hgk
 have HDEL2:Hid (∀ w2 v2,z95 w 9 x.g x.cap p (strs x.keys) v2 w2->Calls Tryz.prog 243 #[.slice (some ⟨g,0,none⟩) n c,.int .i64 i,.int .i64 ((i:Int)+1)] w2 (zc7 w2 220 g c i (bs.map Blk.val))):=fun w2 v2 hD=>by
  obtain⟨h1,h2,h3,h4,h5,_⟩:=HB2.out w2 v2 hD;rw[hn]at h4 ⊢;exact zrg w2 g c bs i (by omega) h4
 have HEND2:Hid (∀ w2 v2 w3 v3,m=0->z95 w 9 x.g x.cap p (strs x.keys) v2 w2->z95 w2 220 g c i (bs.map Blk.val) v3 w3 ->
   (v3= .slice (some ⟨g,0,none⟩) (n-1) c/\w3.cell? ⟨b,2,none⟩=some (.slice (some ⟨g,0,none⟩) n c)/\w3.frozen? ⟨b,2,none⟩=false) /\
   Keyed w b (.slice (some ⟨g,0,none⟩) n c) bs mv pv ((z01 bs).take (lb (z01 bs) k)++(z01 bs).drop (lb (z01 bs) k+1)) (w3.setCell ⟨b,2,none⟩ (.slice (some ⟨g,0,none⟩) (n-1) c))):=fun w2 v2 w3 v3 hm0 hD hD3=>by
  obtain⟨h1,h2,h3,h4,h5,_⟩:=HB2.out w2 v2 hD;have hv:=hD3.val;rw[List.length_map,<- hn]at hv;have h6:=hD3.fr.at h2 hbg;subst hv;rw[<- hn]at hK hbk;refine⟨⟨rfl,(z0q h6).2.2.1,(z0q h6).2.2.2.2 2⟩,?_⟩;exact zso hK e hl (by omega) hn hi (by omega) h2 h5 hD3 hbg hbk
 have HF:=zh hfind;have HS:=zh hsearch;have HD:=zh hdel;rw[<- hn]at hb2 ⊢;have hnb:n<4611686018427387904:=by omega
 have hmb:m<4611686018427387904:=by omega
 clear hfind hsearch hdel hxA hK hh hA hl e hm hn hi hp hbk hk hx hfz hplt hbx;go_enter Tryz.func207,Tryz.ntmps207;go_wp2_with (first | (go_at_call 169;refine HF.out.mono ?_;rintro e w' ⟨rfl,rfl⟩)|(go_at_call 238;refine HS.out.mono ?_;rintro e w' ⟨⟨f,rfl⟩,rfl⟩));refine HD.out.mono ?_;rintro e2 w2 ⟨v2,rfl,hD2⟩;obtain⟨rfl,_,_,_,_,hb22,hr2,hf2⟩:=HB2.out _ _ hD2
 by_cases hm0:m=0
 ·have HM:=zh hm0;subst hm0;go_wp2_with fail;refine(HDEL2.out _ _ hD2).mono ?_;rintro e3 w3 ⟨v3,rfl,hD3⟩;obtain⟨⟨rfl,hb23,hf3⟩,hQ⟩:=HEND2.out _ _ _ _ (by first | rfl | trivial) hD2 hD3;have HQ:=zh hQ;clear hQ;go_wp2
  go_returns
  exact⟨rfl,HQ.out⟩
 ·have hmn:((m:Int)==0)=false:=by rw[beq_eq_false_iff_ne];omega
  go_wp2
  go_returns
  exact⟨rfl,HEND1.out _ _ (by omega) hD2⟩
section
variable {P:Program} {w:World} {ops:Array Oper} {rest:List Oper} {o:Oper} {a:Act} {Q:Exit->Act->World->Prop}
theorem z2l{x k:Operand}{t:TypeId}{ok:Bool}(ho:o.op= .lookup t x k ok){m kv r:Value}(hx:a.eval x=m)(hk:a.eval k=kv)
  (hr:(Instr.lookup t m kv ok).run P w= .ok r w):(execOp a.eval o).run P w= .ok (.value r) w:=by
 unfold execOp;simp only[ho,Sem.run_bind,Sem.run_pure,Result.andThen_ok,hx,hk,hr]
theorem zcw{s x:Operand}{t t2:TypeId}(ho:o.op= .call { callee:=.builtin .delete,args:=#[s,x],argTypes:=#[t,t2] }){v y r:Value}{w':World}(hs:a.eval s=v)(hx:a.eval x=y)
  (hr:(Builtin.delete_ #[t,t2] o.type #[v,y]).run P w= .ok r w'):(execOp a.eval o).run P w= .ok (.value r) w':=by
 unfold execOp;simp only[ho,resolve,invoke,builtin,Sem.run_bind,Sem.run_pure,Result.andThen_ok,List.map_toArray,List.map_cons,List.map_nil,hs,hx,hr]
theorem z8r{x k v:Operand}{t:TypeId}(ho:o.op= .mapUpdate t x k v){m kv vv:Value}{w':World}(hx:a.eval x=m)(hk:a.eval k=kv)(hv:a.eval v=vv)
  (hr:(Instr.mapUpdate t m kv vv).run P w= .ok () w'):(execOp a.eval o).run P w= .ok .skip w':=by
 unfold execOp;simp only[ho,Sem.run_bind,Sem.run_pure,Result.andThen_ok,hx,hk,hv,hr]
theorem zaz(hgd:o.guard=none)(w':World)(hr:(execOp a.eval o).run P w= .ok .skip w')(h:wpList P ops Q rest (a.put o.dst undef) w'):wpList P ops Q (o::rest) a w:=
 wpList_plain hgd fun _ hK=>by unfold Oper.wp;rw[hr];exact hK _ _ h
end
theorem mapT:MapT Tryz.prog 89 9 9:=⟨by kernel_rfl,by kernel_rfl,by kernel_rfl⟩
def z0i(x:Was):List Value:=[.string x.key,.string x.val,.bool x.there]
def sids(b mb:Nat)(bv pv:Value)(bs:List Blk):List Nat:=b::mb::(pv.ownBlock.toList++kids bv bs)
structure SAt (w:World) (b mb:Nat) (es:Array MapEntry) (clk:Nat) (bv pv:Value) (bs:List Blk) (s:St):Prop where
 hd:w.heap[b]?=some (z1e true (.map (some mb)) bv pv)
 mp:w.heap[mb]?=some (.map es clk)
 ks:KRep w bv bs
 ps:Own w 198 3 pv s.past.length (s.past.flatMap z0i)
 me:MRep es s.ents
 fl:z01 bs=s.ents.map Prod.fst
 srt:Sorted s.ents
 nd:(sids b mb bv pv bs).Nodup
def SRep(w:World)(b:Nat)(s:St)(L:List Nat):Prop:=∃ mb es clk bv pv bs,SAt w b mb es clk bv pv bs s/\L=sids b mb bv pv bs
theorem SAt.lt{w:World}{b mb:Nat}{es:Array MapEntry}{clk:Nat}{bv pv:Value}{bs:List Blk}{s:St}(h:SAt w b mb es clk bv pv bs s):∀ k∈sids b mb bv pv bs,k<w.heap.size:=by
 intro k hk;simp only[sids,List.mem_cons,List.mem_append]at hk;rcases hk with rfl | rfl | hk | hk
 ·exact z02 h.hd
 ·exact z02 h.mp
 ·exact h.ps.lt k (by simpa using hk)
 ·exact h.ks.lt k hk
theorem SAt.frame{w w':World}{b mb:Nat}{es:Array MapEntry}{clk:Nat}{bv pv:Value}{bs:List Blk}{s:St}(h:SAt w b mb es clk bv pv bs s)(hb:∀ k∈sids b mb bv pv bs,w'.heap[k]?=w.heap[k]?):SAt w' b mb es clk bv pv bs s:=
 ⟨by rw[hb b (by simp[sids])];exact h.hd,by rw[hb mb (by simp[sids])];exact h.mp,h.ks.frame fun k hk=>hb k (by simp[sids,hk]),h.ps.frame fun k hk=>hb k (by simp[sids,hk]),h.me,h.fl,h.srt,h.nd⟩
theorem SRep.lt{w:World}{b:Nat}{s:St}{L:List Nat}(h:SRep w b s L):∀ k∈L,k<w.heap.size:=by
 obtain⟨mb,es,clk,bv,pv,bs,h,rfl⟩:=h;exact h.lt
theorem SRep.frame{w w':World}{b:Nat}{s:St}{L:List Nat}(h:SRep w b s L)(hb:∀ k∈L,w'.heap[k]?=w.heap[k]?):SRep w' b s L:=by
 obtain⟨mb,es,clk,bv,pv,bs,h,rfl⟩:=h;exact⟨mb,es,clk,bv,pv,bs,h.frame hb,rfl⟩
theorem SRep.fr{S:Nat->Prop}{w w':World}{b:Nat}{s:St}{L:List Nat}(h:SRep w b s L)(hf:Fr S w w')(hn:∀ k∈L,¬ S k):SRep w' b s L:=
 h.frame fun k hk=>hf.block k (h.lt k hk) (hn k hk)
theorem SRep.alloc{w:World}{b:Nat}{s:St}{L:List Nat}(h:SRep w b s L)(o:Obj):SRep (w.alloc o) b s L:=
 h.frame fun k hk=>heap_alloc_old w o (h.lt k hk)
theorem SRep.srt{w:World}{b:Nat}{s:St}{L:List Nat}(h:SRep w b s L):Sorted s.ents:=by
 obtain⟨mb,es,clk,bv,pv,bs,h,rfl⟩:=h;exact h.srt
structure Step (w:World) (L:List Nat) (w':World) (L':List Nat):Prop where
 fr:Fr (· ∈ L) w w'
 own:∀ k∈L',k∈L\/w.heap.size<=k
theorem Step.refl(w:World)(L:List Nat):Step w L w L:=⟨Fr.refl _ _,fun _ h => .inl h⟩
theorem Step.trans{w w1 w2:World}{L L1 L2:List Nat}(h:Step w L w1 L1)(h1:Step w1 L1 w2 L2):Step w L w2 L2:=
 ⟨h.fr.trans h1.fr fun k hk hm=>by
  rcases h.own k hm with h | h
  ·exact h
  ·omega,fun k hk=>by
  rcases h1.own k hk with h2 | h2
  ·exact h.own k h2
  ·exact .inr (Nat.le_trans h.fr.size h2)⟩
theorem SRep.cell0{w:World}{b:Nat}{s:St}{L:List Nat}(h:SRep w b s L):w.cell? ⟨b,0,none⟩=some (.bool true):=by
 obtain⟨mb,es,clk,bv,pv,bs,h,rfl⟩:=h;exact(z0q h.hd).1
theorem is_nil(w:World):Calls Tryz.prog 142 #[.pointer none] w fun e w'=>e= .returned (.bool false)/\w=w':=by
 go_enter Tryz.func142,Tryz.ntmps142;go_wp2;go_ret;exact⟨rfl,rfl⟩
theorem z9h(w:World)(b:Nat)(m:Bool)(hc:w.cell? ⟨b,0,none⟩=some (.bool m)):Calls Tryz.prog 142 #[.pointer (some ⟨b,0,none⟩)] w fun e w'=>e= .returned (.bool m)/\w=w':=by
 go_enter Tryz.func142,Tryz.ntmps142;go_wp2;go_ret;exact⟨rfl,rfl⟩
theorem zfe(w:World)(b:Nat)(m:Bool)(hc:w.cell? ⟨b,0,none⟩=some (.bool m)):Calls Tryz.prog 66 #[.pointer (some ⟨b,0,none⟩)] w fun e w'=>e= .returned (.bool m)/\w=w':=by
 go_enter Tryz.func66,Tryz.ntmps66;go_wp2_with (go_at_call 142;refine(z9h _ _ _ hc).mono ?_;rintro e w' ⟨rfl,rfl⟩);go_ret;exact⟨rfl,rfl⟩
def z2g:St:=⟨[],[]⟩
def zyk(w:World)(e:Ending)(w':World):Prop:=∃ b L,e= .returned (.pointer (some ⟨b,0,none⟩))/\SRep w' b z2g L/\Fr (fun _=>False) w w'/\∀ k∈L,w.heap.size<=k
theorem new_any(w:World):Calls Tryz.prog 15 #[] w (zyk w):=by
 have hmm:=@run_makeMap Tryz.prog;go_enter Tryz.func15,Tryz.ntmps15;go_wp2;go_ret;refine⟨w.heap.size+1,sids (w.heap.size+1) w.heap.size (.slice none 0 0) (.slice none 0 0) [],rfl,⟨w.heap.size,#[],0,.slice none 0 0,.slice none 0 0,[],⟨?_,?_,⟨Own.nil _ _ _,by simp,List.Pairwise.nil,by simp[kids,Value.ownBlock]⟩,Own.nil _ _ _,MRep.empty,rfl,List.Pairwise.nil,by simp[sids,kids,Value.ownBlock]⟩,rfl⟩,((Fr.refl _ w).alloc _).alloc _,?_⟩
 ·exact heap_alloc2_new w _ _
 ·exact heap_alloc2_old w _ _
 ·intro k hk;simp[sids,kids,Value.ownBlock]at hk;omega
theorem zvk(w:World)(k:ByteArray):Calls Tryz.prog 140 #[.pointer none,.string k] w fun e w'=>e= .returned (.tuple #[.string z05,.bool false])/\w=w':=by
 go_enter Tryz.func140,Tryz.ntmps140;go_wp2_with (go_at_call 142;refine(is_nil _).mono ?_;rintro e w' ⟨rfl,rfl⟩)
 go_ret2
 exact⟨rfl,rfl⟩
theorem ztb(w:World)(b:Nat)(k:ByteArray)(hc:w.cell? ⟨b,0,none⟩=some (.bool false)):Calls Tryz.prog 140 #[.pointer (some ⟨b,0,none⟩),.string k] w fun e w'=>e= .returned (.tuple #[.string z05,.bool false])/\w=w':=by
 go_enter Tryz.func140,Tryz.ntmps140;go_wp2_with (go_at_call 142;refine(z9h _ _ _ hc).mono ?_;rintro e w' ⟨rfl,rfl⟩)
 go_ret2
 exact⟨rfl,rfl⟩
theorem get_any(w:World)(b:Nat)(s:St)(L:List Nat)(k:ByteArray)(h:SRep w b s L) :
  Calls Tryz.prog 140 #[.pointer (some ⟨b,0,none⟩),.string k] w fun e w'=>e= .returned (.tuple #[.string (s.val k),.bool (getE s.ents k).isSome])/\w=w':=by
 have hc0:=h.cell0;obtain⟨mb,es,clk,bv,pv,bs,h,rfl⟩:=h;obtain⟨_,hc1,_⟩:=z0q h.hd;have HL:=zh (z1k mapT h.mp h.me h.srt k);have hv:(getE s.ents k).getD z05=s.val k:=rfl;rw[hv]at HL;generalize s.val k=v at *
 generalize (getE s.ents k).isSome=ok at *
 clear hv h;go_enter Tryz.func140,Tryz.ntmps140;go_wp2_with (first | (go_at_call 142;refine(z9h _ _ _ hc0).mono ?_;rintro e w' ⟨rfl,rfl⟩)|(with_reducible refine z0c (o:=⟨some 17,_,_,_,_,_⟩) rfl (.tuple #[.string v,.bool ok]) w ?hr ?k))
 case hr =>
  refine z2l (x:=.tmp 15) (k:=.tmp 16) (t:=89) (ok:=true) (m:=.map (some mb)) (kv:=.string k) ?_ ?_ ?_ ?_
  ·rfl
  ·rfl
  ·rfl
  ·exact HL.out
 go_wp2
 go_ret2
 exact⟨rfl,rfl⟩
def Laid(w:World)(b mb:Nat)(bv pv:Value)(bs:List Blk)(s':St)(w':World):Prop:=
 ∃ es' clk' bv' bs',SAt w' b mb es' clk' bv' pv bs' s'/\Fr (· ∈ sids b mb bv pv bs) w w'/\∀ k∈sids b mb bv' pv bs',k∈sids b mb bv pv bs\/w.heap.size<=k
def zg6(w:World)(b mb:Nat)(bv pv:Value)(bs:List Blk)(k v:ByteArray)(ok:Bool)(s':St)(e:Ending)(w':World):Prop:=
 e= .returned (.agg #[.string k,.string v,.bool ok])/\Laid w b mb bv pv bs s' w'
theorem zbp{w:World}{b mb:Nat}{es:Array MapEntry}{clk:Nat}{bv pv:Value}{bs:List Blk}{s:St}(h:SAt w b mb es clk bv pv bs s):(z01 bs).length=s.ents.length:=by
 rw[h.fl];simp
theorem zu9{w:World}{b mb:Nat}{es:Array MapEntry}{clk:Nat}{bv pv:Value}{bs:List Blk}{s:St}(h:SAt w b mb es clk bv pv bs s)(k:ByteArray):k∈z01 bs↔(getE s.ents k).isSome=true:=by
 rw[h.fl];constructor
 ·intro hk;cases hg:getE s.ents k with
  | none=>exact absurd hk (z4r.1 hg)
  | some v=>rfl
 ·intro hk;obtain⟨v,hv⟩:=Option.isSome_iff_exists.1 hk;exact List.mem_map.2 ⟨_,z2q hv,rfl⟩
theorem zwn{w w1:World}{b mb:Nat}{es es':Array MapEntry}{clk clk':Nat}{bv pv:Value}{bs:List Blk}{s s':St}{o:Obj}{ks:List ByteArray}
  (h:SAt w b mb es clk bv pv bs s) (hk:Keyed (w.alloc o) b bv bs (.map (some mb)) pv ks w1) (hme:MRep es' s'.ents) (hs:Sorted s'.ents) (hfl:ks=s'.ents.map Prod.fst) (hp:s'.past=s.past) :
  ∀ w3,(∀ k,k<w1.heap.size->k≠mb->k≠w.heap.size->w3.heap[k]?=w1.heap[k]?)->w3.heap[mb]?=some (.map es' clk')->w3.os=w1.os->w3.tape=w1.tape->w3.output=w1.output->w1.heap.size<=w3.heap.size->Laid w b mb bv pv bs s' w3:=by
 intro w3 hw3 hm3 ho ht hou hsz;obtain⟨⟨bv',bs',hh1,hK1,hall,hkids⟩,hfr⟩:=hk;have hnd:=h.nd;have hlt:=h.lt;have hbmb:b≠mb:=by intro e;rw[e]at hnd;simp[sids]at hnd
 have hbw:=hlt b (by simp[sids]);have hmw:=hlt mb (by simp[sids]);have hsz1:w.heap.size+1<=w1.heap.size:=by have:=hfr.size;simpa using this
 have hkw:∀ k∈kids bv' bs',k≠mb/\k≠w.heap.size/\k≠b/\k∉pv.ownBlock.toList:=by
  intro k hk;rcases hkids k hk with hk2 | hk2
  ·have h1:=hlt k (by simp[sids,hk2]);simp only[sids,List.nodup_cons,List.mem_cons,List.mem_append,not_or,List.nodup_append]at hnd;refine⟨fun e=>hnd.2.1.2 (e▸hk2),by omega,fun e=>hnd.1.2.2 (e▸hk2),fun hp=>hnd.2.2.2.2 k hp k hk2 rfl⟩
  ·simp only[World.size_alloc]at hk2;refine⟨by omega,by omega,by omega,fun hp => ?_⟩;have:=h.ps.lt k (by simpa using hp);omega
 have hpf:∀ k,pv.ownBlock=some k->w3.heap[k]?=w.heap[k]?:=by
  intro k hk;have h1:=h.ps.lt k hk;have hkm:k∈pv.ownBlock.toList:=by simp[hk]
  simp only[sids,List.nodup_cons,List.mem_cons,List.mem_append,not_or,List.nodup_append]at hnd;rw[hw3 k (by omega) (fun e=>hnd.2.1.1 (e▸hkm)) (by omega),hfr.block k (by simp;omega) ?_,heap_alloc_old w o h1];rintro(e | e)
  ·exact hnd.1.2.1 (e▸hkm)
  ·exact hnd.2.2.2.2 k hkm k e rfl
 refine⟨es',clk',bv',bs',⟨?_,hm3,?_,?_,hme,by rw[hall,hfl],hs,?_⟩,⟨?_,?_,?_,by omega,?_⟩,?_⟩
 ·rw[hw3 b (by omega) hbmb (by omega)];exact hh1
 ·exact hK1.frame fun k hk=>hw3 k (hK1.lt k hk) (hkw k hk).1 (hkw k hk).2.1
 ·rw[hp];exact h.ps.frame hpf
 ·simp only[sids,List.nodup_cons,List.mem_cons,List.mem_append,not_or,List.nodup_append]at hnd ⊢;refine⟨⟨hnd.1.1,hnd.1.2.1,fun hk=>(hkw b hk).2.2.1 rfl⟩,⟨hnd.2.1.1,fun hk=>(hkw mb hk).1 rfl⟩,hnd.2.2.1,hK1.nd,fun a ha c hc e=>(hkw c hc).2.2.2 (e▸ha)⟩
 ·rw[ho];exact hfr.os
 ·rw[ht];exact hfr.tape
 ·rw[hou];exact hfr.output
 ·intro k hk hn;simp only[sids,List.mem_cons,List.mem_append,not_or]at hn;rw[hw3 k (by omega) hn.2.1 (by omega),hfr.block k (by simp;omega) ?_,heap_alloc_old w o hk];rintro(e | e)
  ·exact hn.1 e
  ·exact hn.2.2.2 e
 ·intro k hk;simp only[sids,List.mem_cons,List.mem_append]at hk ⊢;rcases hk with hk | hk | hk | hk
  ·exact .inl (.inl hk)
  ·exact .inl (.inr (.inl hk))
  ·exact .inl (.inr (.inr (.inl hk)))
  ·rcases hkids k hk with h | h
   ·exact .inl (.inr (.inr (.inr h)))
   ·right;simp only[World.size_alloc]at h;omega
theorem zeq{w:World}{b mb:Nat}{es:Array MapEntry}{clk:Nat}{bv pv:Value}{bs:List Blk}{s:St}(h:SAt w b mb es clk bv pv bs s)(o:Obj):Keyed (w.alloc o) b bv bs (.map (some mb)) pv (z01 bs) (w.alloc o):=
 ⟨⟨bv,bs,by rw[heap_alloc_old w o (h.lt b (by simp[sids]))];exact h.hd,h.ks.frame fun k hk=>heap_alloc_old w o (h.lt k (by simp[sids,hk])),rfl,fun k hk => .inl hk⟩,Fr.refl _ _⟩
theorem zoi{w:World}{b mb:Nat}{es:Array MapEntry}{clk:Nat}{bv pv:Value}{bs:List Blk}{s:St}(h:SAt w b mb es clk bv pv bs s)(o:Obj)(k:ByteArray)(hk:(getE s.ents k).isSome=false)(hb:s.ents.length<1000000000000) :
  Calls Tryz.prog 206 #[.pointer (some ⟨b,0,none⟩),.string k] (w.alloc o) (z9g (w.alloc o) b bv bs (.map (some mb)) pv ((z01 bs).take (lb (z01 bs) k)++k::(z01 bs).drop (lb (z01 bs) k))):=by
 have hh:(w.alloc o).heap[b]?=some (z1e true (.map (some mb)) bv pv):=by rw[heap_alloc_old w o (h.lt b (by simp[sids]))];exact h.hd
 have hK:KRep (w.alloc o) bv bs:=h.ks.frame fun k hk=>heap_alloc_old w o (h.lt k (by simp[sids,hk]))
 have hkn:k∉z01 bs:=by rw[zu9 h,hk];simp
 have hbk:b∉kids bv bs:=by have:=h.nd;simp only[sids,List.nodup_cons,List.mem_cons,List.mem_append,not_or]at this;exact this.1.2.2
 rcases Nat.eq_zero_or_pos bs.length with h0 | h0
 ·obtain rfl:=List.eq_nil_of_length_eq_zero h0;exact zjg (w.alloc o) b bv (.map (some mb)) pv k hh hK
 ·obtain⟨g,c,rfl⟩:=hK.row.inv h0;exact zmm (w.alloc o) b g c bs (.map (some mb)) pv k h0 hh hK hbk hkn (by rw[zbp h];exact hb)
theorem zpx{w:World}{b mb:Nat}{es:Array MapEntry}{clk:Nat}{bv pv:Value}{bs:List Blk}{s:St}(h:SAt w b mb es clk bv pv bs s)(o:Obj)(k:ByteArray)(hk:(getE s.ents k).isSome=true)(hb:s.ents.length<1000000000000) :
  Calls Tryz.prog 207 #[.pointer (some ⟨b,0,none⟩),.string k] (w.alloc o) (z9g (w.alloc o) b bv bs (.map (some mb)) pv ((z01 bs).take (lb (z01 bs) k)++(z01 bs).drop (lb (z01 bs) k+1))):=by
 have hh:(w.alloc o).heap[b]?=some (z1e true (.map (some mb)) bv pv):=by rw[heap_alloc_old w o (h.lt b (by simp[sids]))];exact h.hd
 have hK:KRep (w.alloc o) bv bs:=h.ks.frame fun k hk=>heap_alloc_old w o (h.lt k (by simp[sids,hk]))
 have hkn:k∈z01 bs:=(zu9 h k).2 hk;have hbk:b∉kids bv bs:=by have:=h.nd;simp only[sids,List.nodup_cons,List.mem_cons,List.mem_append,not_or]at this;exact this.1.2.2
 have h0:0<bs.length:=by
  rcases Nat.eq_zero_or_pos bs.length with h0 | h0
  ·rw[List.eq_nil_of_length_eq_zero h0]at hkn;simp[z01]at hkn
  ·exact h0
 obtain⟨g,c,rfl⟩:=hK.row.inv h0;exact zno (w.alloc o) b g c bs (.map (some mb)) pv k h0 hh hK hbk hkn (by rw[zbp h];exact hb)
abbrev z1i:Obj:=.cells #[.string ⟨#[]⟩,.string ⟨#[]⟩,.bool false] 198 (0,0)
structure Tail (w:World) (b mb:Nat) (bv pv:Value) (bs:List Blk) (s':St) (w2:World):Prop where
 slot:w2.heap[w.heap.size]?=some z1i
 fin:∀ cs,Laid w b mb bv pv bs s' (w2.setRow w.heap.size cs)
theorem zd1{w w1:World}{b mb:Nat}{es:Array MapEntry}{clk:Nat}{bv pv:Value}{bs:List Blk}{s:St}{ks:List ByteArray}
  (h:SAt w b mb es clk bv pv bs s) (hk:Keyed (w.alloc z1i) b bv bs (.map (some mb)) pv ks w1) :
  w1.cell? ⟨b,1,none⟩=some (.map (some mb))/\w1.heap[mb]?=some (.map es clk)/\w1.heap[w.heap.size]?=some z1i:=by
 have hnd:=h.nd;have hlt:=h.lt;simp only[sids,List.nodup_cons,List.mem_cons,List.mem_append,not_or]at hnd;obtain⟨⟨bv',bs',hh1,_⟩,hfr⟩:=hk;refine⟨(z0q hh1).2.1,?_,?_⟩
 ·rw[hfr.block mb (by have:=hlt mb (by simp[sids]);simp;omega) ?_,heap_alloc_old w _ (hlt mb (by simp[sids]))]
  ·exact h.mp
  ·rintro(e | e)
   ·exact hnd.1.1 e.symm
   ·exact hnd.2.1.2 e
 ·rw[hfr.block w.heap.size (by simp) ?_]
  ·exact heap_alloc_new w _
  ·rintro(e | e)
   ·have:=hlt b (by simp[sids]);omega
   ·have:=hlt w.heap.size (by simp[sids,e]);omega
theorem zmy{w w1:World}{b mb:Nat}{es es':Array MapEntry}{clk clk':Nat}{bv pv:Value}{bs:List Blk}{s s':St}{ks:List ByteArray}
  (h:SAt w b mb es clk bv pv bs s) (hk:Keyed (w.alloc z1i) b bv bs (.map (some mb)) pv ks w1) (hme:MRep es' s'.ents) (hs:Sorted s'.ents) (hfl:ks=s'.ents.map Prod.fst) (hp:s'.past=s.past) :
  Tail w b mb bv pv bs s' (z5s w1 mb es' clk'):=by
 obtain⟨_,hmp,hN⟩:=zd1 h hk;have hmw:=h.lt mb (by simp[sids]);have hm1:=z02 hmp;have hb2:∀ k,k≠mb->(z5s w1 mb es' clk').heap[k]?=w1.heap[k]?:=fun k hk=>by
  simp[z5s,Ne.symm hk]
 have hm2:(z5s w1 mb es' clk').heap[mb]?=some (.map es' clk'):=by
  simp[z5s,hm1]
 have hN2:(z5s w1 mb es' clk').heap[w.heap.size]?=some z1i:=by rw[hb2 _ (by omega)];exact hN
 have hs2:(z5s w1 mb es' clk').heap.size=w1.heap.size:=by simp[z5s]
 refine⟨hN2,fun cs => ?_⟩;refine zwn (es':=es') (clk':=clk') h hk hme hs hfl hp _ (fun k _ h1 h2 => ?_) ?_ rfl rfl rfl (by simp[hs2])
 ·rw[setRow_other _ _ _ _ h2,hb2 k h1]
 ·rw[setRow_other _ _ _ _ (by omega),hm2]
theorem zld{w:World}{b mb:Nat}{es:Array MapEntry}{clk:Nat}{bv pv:Value}{bs:List Blk}{s:St}(h:SAt w b mb es clk bv pv bs s)(k v:ByteArray){ks:List ByteArray}(hks:ks=(putE s.ents k v).map Prod.fst)(w1:World)
  (hk:Keyed (w.alloc z1i) b bv bs (.map (some mb)) pv ks w1) :
  w1.cell? ⟨b,1,none⟩=some (.map (some mb))/\∃ w2,(Instr.mapUpdate 89 (.map (some mb)) (.string k) (.string v)).run Tryz.prog w1= .ok () w2/\Tail w b mb bv pv bs (s.lay k v true) w2:=by
 obtain⟨h1,h2,h3⟩:=zd1 h hk;obtain⟨es',clk',hr,hme⟩:=zab mapT h2 h.me h.srt k v;exact⟨h1,_,hr,zmy h hk hme (z5n h.srt k v) hks rfl⟩
theorem zlf{w:World}{b mb:Nat}{es:Array MapEntry}{clk:Nat}{bv pv:Value}{bs:List Blk}{s:St}(h:SAt w b mb es clk bv pv bs s)(k v:ByteArray){ks:List ByteArray}(hks:ks=(delE s.ents k).map Prod.fst)(w1:World)
  (hk:Keyed (w.alloc z1i) b bv bs (.map (some mb)) pv ks w1) :
  w1.cell? ⟨b,1,none⟩=some (.map (some mb))/\∃ w2,(∀ ty,(Builtin.delete_ #[89,9] ty #[.map (some mb),.string k]).run Tryz.prog w1= .ok (.tuple #[]) w2)/\Tail w b mb bv pv bs (s.lay k v false) w2:=by
 obtain⟨h1,h2,h3⟩:=zd1 h hk;obtain⟨es',clk',hr,hme⟩:=zdu mapT 0 h2 h.me h.srt k;exact⟨h1,_,fun ty=>hr,zmy h hk hme (z5h h.srt k) hks rfl⟩
theorem zd9(w:World)(b mb:Nat)(es:Array MapEntry)(clk:Nat)(bv pv:Value)(bs:List Blk)(s:St)(k v:ByteArray)(h:SAt w b mb es clk bv pv bs s)(hb:s.ents.length<1000000000000)(hk:(getE s.ents k).isSome=false) :
  Calls Tryz.prog 146 #[.pointer (some ⟨b,0,none⟩),.string k,.string v,.bool true] w (zg6 w b mb bv pv bs k (s.val k) false (s.lay k v true)):=by
 obtain⟨_,hc1,_⟩:=z0q h.hd;have hmp0:(w.alloc z1i).heap[mb]?=some (.map es clk):=by rw[heap_alloc_old w _ (h.lt mb (by simp[sids]))];exact h.mp
 have hlk:=z1k (w:=w.alloc z1i) mapT hmp0 h.me h.srt k;have hv:(getE s.ents k).getD z05=s.val k:=rfl;rw[hk,hv]at hlk;have HL:=zh hlk;have HE:=zh (zoi h z1i k hk hb);have HT:=zh (zld h k v (ks:=(z01 bs).take (lb (z01 bs) k)++k::(z01 bs).drop (lb (z01 bs) k)) (by rw[zfo h.srt v hk,h.fl]));have hbw:=h.lt b (by simp[sids]);generalize s.val k=v0 at *
 generalize s.lay k v true=s1 at *
 clear hv h hmp0 hlk;go_enter Tryz.func146,Tryz.ntmps146;go_wp2_with (with_reducible refine z0c (o:=⟨some 17,_,_,_,_,_⟩) rfl (.tuple #[.string v0,.bool false]) (w.alloc z1i) ?hr ?k)
 case hr =>
  refine z2l (x:=.tmp 15) (k:=.tmp 16) (t:=89) (ok:=true) (m:=.map (some mb)) (kv:=.string k) ?_ ?_ ?_ ?_
  ·rfl
  ·rfl
  ·rfl
  ·exact HL.out
 refine HE.out.mono ?_;rintro e w1 ⟨rfl,hK⟩;obtain⟨hb1,w2,hrun,hT⟩:=HT.out w1 hK;have HR:=zh hrun;have HN:=zh hT.slot;have HQ:=zh hT.fin;clear hrun hT;go_wp2_with (first | (with_reducible refine zaz (o:=⟨none,.mapUpdate _ _ _ _,_,_,_,_⟩) rfl w2 ?hr2 ?k2)|(with_reducible refine wpList_store_row (o:=⟨none,.store _ _ _,_,_,_,_⟩) rfl 198 (.tmp 8) (.tmp 53) rfl w.heap.size #[.string k,.string v0,.bool false] ?x1 ?x2 198 #[.string ⟨#[]⟩,.string ⟨#[]⟩,.bool false] HN.out ?x3 ?x4 ?x5 ?x6))
 case hr2 =>
  refine z8r (x:=.tmp 42) (k:=.tmp 43) (v:=.tmp 44) (t:=89) (m:=.map (some mb)) (kv:=.string k) (vv:=.string v) ?_ ?_ ?_ ?_ ?_
  ·rfl
  ·rfl
  ·rfl
  ·rfl
  ·exact HR.out
 case x1=>rfl
 case x2=>rfl
 case x3=>kernel_rfl
 case x4=>rfl
 case x5=>simp[Value.oneCell']
 have h3:=setRow_heap w2 w.heap.size _ #[.string k,.string v0,.bool false] _ _ HN.out;have hq:=HQ.out #[.string k,.string v0,.bool false];generalize w2.setRow w.heap.size #[.string k,.string v0,.bool false]=w3 at *
 have t0:=cell_of_row w3 w.heap.size 0 _ _ _ h3;have t1:=cell_of_row w3 w.heap.size 1 _ _ _ h3;have t2:=cell_of_row w3 w.heap.size 2 _ _ _ h3;simp at t0 t1 t2;clear h3;go_wp2;refine bodyPost_ret (v:=.agg #[.string k,.string v0,.bool false]) (by simp[results,Tryz.results146,go_sem,t0,t1,t2]) rfl ⟨rfl,hq⟩
theorem zdn(w:World)(b mb:Nat)(es:Array MapEntry)(clk:Nat)(bv pv:Value)(bs:List Blk)(s:St)(k v:ByteArray)(h:SAt w b mb es clk bv pv bs s)(hk:(getE s.ents k).isSome=true) :
  Calls Tryz.prog 146 #[.pointer (some ⟨b,0,none⟩),.string k,.string v,.bool true] w (zg6 w b mb bv pv bs k (s.val k) true (s.lay k v true)):=by
 obtain⟨_,hc1,_⟩:=z0q h.hd;have hmp0:(w.alloc z1i).heap[mb]?=some (.map es clk):=by rw[heap_alloc_old w _ (h.lt mb (by simp[sids]))];exact h.mp
 have hlk:=z1k (w:=w.alloc z1i) mapT hmp0 h.me h.srt k;have hv:(getE s.ents k).getD z05=s.val k:=rfl;rw[hk,hv]at hlk;have HL:=zh hlk;have HT:=zh (zld h k v (ks:=z01 bs) (by rw[zhv h.srt v hk,h.fl]));have HS:=zh (zeq h z1i);have hbw:=h.lt b (by simp[sids]);generalize s.val k=v0 at *
 generalize s.lay k v true=s1 at *
 clear hv h hmp0 hlk;obtain⟨_,w2,hrun,hT⟩:=HT.out (w.alloc z1i) HS.out;have HR:=zh hrun;have HN:=zh hT.slot;have HQ:=zh hT.fin;clear hrun hT;go_enter Tryz.func146,Tryz.ntmps146;go_wp2_with (first | (with_reducible refine z0c (o:=⟨some 17,_,_,_,_,_⟩) rfl (.tuple #[.string v0,.bool true]) (w.alloc z1i) ?hr ?k)|(with_reducible refine zaz (o:=⟨none,.mapUpdate _ _ _ _,_,_,_,_⟩) rfl w2 ?hr2 ?k2)|(with_reducible refine wpList_store_row (o:=⟨none,.store _ _ _,_,_,_,_⟩) rfl 198 (.tmp 8) (.tmp 53) rfl w.heap.size #[.string k,.string v0,.bool true] ?x1 ?x2 198 #[.string ⟨#[]⟩,.string ⟨#[]⟩,.bool false] HN.out ?x3 ?x4 ?x5 ?x6))
 case hr =>
  refine z2l (x:=.tmp 15) (k:=.tmp 16) (t:=89) (ok:=true) (m:=.map (some mb)) (kv:=.string k) ?_ ?_ ?_ ?_
  ·rfl
  ·rfl
  ·rfl
  ·exact HL.out
 case hr2 =>
  refine z8r (x:=.tmp 42) (k:=.tmp 43) (v:=.tmp 44) (t:=89) (m:=.map (some mb)) (kv:=.string k) (vv:=.string v) ?_ ?_ ?_ ?_ ?_
  ·rfl
  ·rfl
  ·rfl
  ·rfl
  ·exact HR.out
 case x1=>rfl
 case x2=>rfl
 case x3=>kernel_rfl
 case x4=>rfl
 case x5=>simp[Value.oneCell']
 have h3:=setRow_heap w2 w.heap.size _ #[.string k,.string v0,.bool true] _ _ HN.out;have hq:=HQ.out #[.string k,.string v0,.bool true];generalize w2.setRow w.heap.size #[.string k,.string v0,.bool true]=w3 at *
 have t0:=cell_of_row w3 w.heap.size 0 _ _ _ h3;have t1:=cell_of_row w3 w.heap.size 1 _ _ _ h3;have t2:=cell_of_row w3 w.heap.size 2 _ _ _ h3;simp at t0 t1 t2;clear h3;go_wp2;refine bodyPost_ret (v:=.agg #[.string k,.string v0,.bool true]) (by simp[results,Tryz.results146,go_sem,t0,t1,t2]) rfl ⟨rfl,hq⟩
theorem zpw(w:World)(b mb:Nat)(es:Array MapEntry)(clk:Nat)(bv pv:Value)(bs:List Blk)(s:St)(k v:ByteArray)(h:SAt w b mb es clk bv pv bs s)(hb:s.ents.length<1000000000000)(hk:(getE s.ents k).isSome=true) :
  Calls Tryz.prog 146 #[.pointer (some ⟨b,0,none⟩),.string k,.string v,.bool false] w (zg6 w b mb bv pv bs k (s.val k) true (s.lay k v false)):=by
 obtain⟨_,hc1,_⟩:=z0q h.hd;have hmp0:(w.alloc z1i).heap[mb]?=some (.map es clk):=by rw[heap_alloc_old w _ (h.lt mb (by simp[sids]))];exact h.mp
 have hlk:=z1k (w:=w.alloc z1i) mapT hmp0 h.me h.srt k;have hv:(getE s.ents k).getD z05=s.val k:=rfl;rw[hk,hv]at hlk;have HL:=zh hlk;have HE:=zh (zpx h z1i k hk hb);have HT:=zh (zlf h k v (ks:=(z01 bs).take (lb (z01 bs) k)++(z01 bs).drop (lb (z01 bs) k+1)) (by rw[zo8 h.srt hk,h.fl]));have hbw:=h.lt b (by simp[sids]);generalize s.val k=v0 at *
 generalize s.lay k v false=s1 at *
 clear hv h hmp0 hlk;go_enter Tryz.func146,Tryz.ntmps146;go_wp2_with (first | (with_reducible refine z0c (o:=⟨some 17,_,_,_,_,_⟩) rfl (.tuple #[.string v0,.bool true]) (w.alloc z1i) ?hr ?k))
 case hr =>
  refine z2l (x:=.tmp 15) (k:=.tmp 16) (t:=89) (ok:=true) (m:=.map (some mb)) (kv:=.string k) ?_ ?_ ?_ ?_
  ·rfl
  ·rfl
  ·rfl
  ·exact HL.out
 refine HE.out.mono ?_;rintro e w1 ⟨rfl,hK⟩;obtain⟨hb1,w2,hrun,hT⟩:=HT.out w1 hK;have HR:=zh hrun;have HN:=zh hT.slot;have HQ:=zh hT.fin;clear hrun hT;go_wp2_with (first | (with_reducible refine z0c (o:=⟨none,.call _,_,_,_,_⟩) rfl (.tuple #[]) w2 ?hr2 ?k2)|(with_reducible refine wpList_store_row (o:=⟨none,.store _ _ _,_,_,_,_⟩) rfl 198 (.tmp 8) (.tmp 53) rfl w.heap.size #[.string k,.string v0,.bool true] ?x1 ?x2 198 #[.string ⟨#[]⟩,.string ⟨#[]⟩,.bool false] HN.out ?x3 ?x4 ?x5 ?x6))
 case hr2 =>
  refine zcw (s:=.tmp 48) (x:=.tmp 49) (t:=89) (t2:=9) (v:=.map (some mb)) (y:=.string k) ?_ ?_ ?_ ?_
  ·rfl
  ·rfl
  ·rfl
  ·exact HR.out _
 case x1=>rfl
 case x2=>rfl
 case x3=>kernel_rfl
 case x4=>rfl
 case x5=>simp[Value.oneCell']
 have h3:=setRow_heap w2 w.heap.size _ #[.string k,.string v0,.bool true] _ _ HN.out;have hq:=HQ.out #[.string k,.string v0,.bool true];generalize w2.setRow w.heap.size #[.string k,.string v0,.bool true]=w3 at *
 have t0:=cell_of_row w3 w.heap.size 0 _ _ _ h3;have t1:=cell_of_row w3 w.heap.size 1 _ _ _ h3;have t2:=cell_of_row w3 w.heap.size 2 _ _ _ h3;simp at t0 t1 t2;clear h3;go_wp2;refine bodyPost_ret (v:=.agg #[.string k,.string v0,.bool true]) (by simp[results,Tryz.results146,go_sem,t0,t1,t2]) rfl ⟨rfl,hq⟩
theorem zsh(w:World)(b mb:Nat)(es:Array MapEntry)(clk:Nat)(bv pv:Value)(bs:List Blk)(s:St)(k v:ByteArray)(h:SAt w b mb es clk bv pv bs s)(hk:(getE s.ents k).isSome=false) :
  Calls Tryz.prog 146 #[.pointer (some ⟨b,0,none⟩),.string k,.string v,.bool false] w (zg6 w b mb bv pv bs k (s.val k) false (s.lay k v false)):=by
 obtain⟨_,hc1,_⟩:=z0q h.hd;have hmp0:(w.alloc z1i).heap[mb]?=some (.map es clk):=by rw[heap_alloc_old w _ (h.lt mb (by simp[sids]))];exact h.mp
 have hlk:=z1k (w:=w.alloc z1i) mapT hmp0 h.me h.srt k;have hv:(getE s.ents k).getD z05=s.val k:=rfl;rw[hk,hv]at hlk;have HL:=zh hlk;have HT:=zh (zlf h k v (ks:=z01 bs) (by rw[z6z hk,h.fl]));have HS:=zh (zeq h z1i);have hbw:=h.lt b (by simp[sids]);generalize s.val k=v0 at *
 generalize s.lay k v false=s1 at *
 clear hv h hmp0 hlk;obtain⟨_,w2,hrun,hT⟩:=HT.out (w.alloc z1i) HS.out;have HR:=zh hrun;have HN:=zh hT.slot;have HQ:=zh hT.fin;clear hrun hT;go_enter Tryz.func146,Tryz.ntmps146;go_wp2_with (first | (with_reducible refine z0c (o:=⟨some 17,_,_,_,_,_⟩) rfl (.tuple #[.string v0,.bool false]) (w.alloc z1i) ?hr ?k)|(with_reducible refine z0c (o:=⟨none,.call _,_,_,_,_⟩) rfl (.tuple #[]) w2 ?hr2 ?k2)|(with_reducible refine wpList_store_row (o:=⟨none,.store _ _ _,_,_,_,_⟩) rfl 198 (.tmp 8) (.tmp 53) rfl w.heap.size #[.string k,.string v0,.bool false] ?x1 ?x2 198 #[.string ⟨#[]⟩,.string ⟨#[]⟩,.bool false] HN.out ?x3 ?x4 ?x5 ?x6))
 case hr =>
  refine z2l (x:=.tmp 15) (k:=.tmp 16) (t:=89) (ok:=true) (m:=.map (some mb)) (kv:=.string k) ?_ ?_ ?_ ?_
  ·rfl
  ·rfl
  ·rfl
  ·exact HL.out
 case hr2 =>
  refine zcw (s:=.tmp 48) (x:=.tmp 49) (t:=89) (t2:=9) (v:=.map (some mb)) (y:=.string k) ?_ ?_ ?_ ?_
  ·rfl
  ·rfl
  ·rfl
  ·exact HR.out _
 case x1=>rfl
 case x2=>rfl
 case x3=>kernel_rfl
 case x4=>rfl
 case x5=>simp[Value.oneCell']
 have h3:=setRow_heap w2 w.heap.size _ #[.string k,.string v0,.bool false] _ _ HN.out;have hq:=HQ.out #[.string k,.string v0,.bool false];generalize w2.setRow w.heap.size #[.string k,.string v0,.bool false]=w3 at *
 have t0:=cell_of_row w3 w.heap.size 0 _ _ _ h3;have t1:=cell_of_row w3 w.heap.size 1 _ _ _ h3;have t2:=cell_of_row w3 w.heap.size 2 _ _ _ h3;simp at t0 t1 t2;clear h3;go_wp2;refine bodyPost_ret (v:=.agg #[.string k,.string v0,.bool false]) (by simp[results,Tryz.results146,go_sem,t0,t1,t2]) rfl ⟨rfl,hq⟩
theorem wasT:z1j Tryz.prog 91 198 (.agg #[.string ⟨#[]⟩,.string ⟨#[]⟩,.bool false]) 3 40:=⟨by kernel_rfl,by kernel_rfl,rfl,by decide⟩
theorem zhn(l:List Was):∀ u∈l.flatMap z0i,u.oneCell'=true:=by
 intro u hu;obtain⟨x,_,hx⟩:=List.mem_flatMap.1 hu;simp[z0i]at hx;rcases hx with rfl | rfl | rfl<;>rfl
theorem Own.inv3{w:World}{e:TypeId}{v:Value}{n:Nat}{xs:List Value}(h:Own w e 3 v n xs)(hn:0<n):∃ g c,v= .slice (some ⟨g,0,none⟩) n c:=by
 rcases h.2 with⟨_,h1⟩ | ⟨g,c,cur,h1,_⟩
 ·omega
 ·exact⟨g,c,h1⟩
theorem zc9{w w1:World}{b mb:Nat}{bv pv:Value}{bs:List Blk}{s1:St}(hL:Laid w b mb bv pv bs s1 w1)(x:Was)(hb:s1.past.length<1000000000000) :
  (w1.cell? ⟨b,3,none⟩=some pv/\∀ o,(w1.alloc o).cell? ⟨b,3,none⟩=some pv)/\b<w1.heap.size /\
  ∃ g' c' w2,(∀ ty,(Builtin.append_ #[91,91] ty #[pv,.slice (some ⟨w1.heap.size,0,none⟩) 1 1]).run Tryz.prog (w1.alloc (.cells #[.string x.key,.string x.val,.bool x.there] 198))= .ok (.slice (some ⟨g',0,none⟩) (s1.past.length+1) c') w2) /\
   w2.cell? ⟨b,3,none⟩=some pv/\w2.frozen? ⟨b,3,none⟩=false /\
   ∃ L',SRep (w2.setCell ⟨b,3,none⟩ (.slice (some ⟨g',0,none⟩) (s1.past.length+1) c')) b ⟨s1.ents,s1.past ++ [x]⟩ L'/\Step w (sids b mb bv pv bs) (w2.setCell ⟨b,3,none⟩ (.slice (some ⟨g',0,none⟩) (s1.past.length+1) c')) L':=by
 obtain⟨es',clk',bv',bs',hS,hF,hI⟩:=hL;have hlt:=hS.lt;have hbw:=z02 hS.hd;have hh:∀ o,(w1.alloc o).heap[b]?=some (z1e true (.map (some mb)) bv' pv):=fun o=>by rw[heap_alloc_old w1 o hbw];exact hS.hd
 refine⟨⟨(z0q hS.hd).2.2.2.1,fun o=>(z0q (hh o)).2.2.2.1⟩,hbw,?_⟩;have hown:Own (w1.alloc (.cells #[.string x.key,.string x.val,.bool x.there] 198)) 198 3 pv s1.past.length (s1.past.flatMap z0i):=
  hS.ps.frame fun k hk=>heap_alloc_old w1 _ (hS.ps.lt k hk)
 have hnew:(w1.alloc (.cells #[.string x.key,.string x.val,.bool x.there] 198)).heap[w1.heap.size]?=some (.cells #[.string x.key,.string x.val,.bool x.there] 198 (0,0)):=heap_alloc_new w1 _
 obtain⟨v',w2,hr,hA⟩:=z4t (m:=1) (c:=1) (ad:=⟨w1.heap.size,0,none⟩) wasT wasT 0 hown (z0i x) (by simp[z0i]) (fun j u hj=>by
  rw[Addr.add_lit,cell_of_row _ _ _ _ _ _ hnew]
  simpa [z0i]using hj) (fun u hu=>by simpa using zhn [x] u (by simpa using hu)) (by unfold maxLen;omega) (by omega)
 have hO:=hA.own;obtain⟨g',c',rfl⟩:=hO.inv3 (by omega);have hnd:=hS.nd;simp only[sids,List.nodup_cons,List.mem_cons,List.mem_append,not_or,List.nodup_append]at hnd;have hpb:∀ k,pv.ownBlock=some k->k≠b/\k≠mb/\k∉kids bv' bs':=fun k hk=>by
  have hkm:k∈pv.ownBlock.toList:=by simp[hk]
  exact⟨fun e=>hnd.1.2.1 (e▸hkm),fun e=>hnd.2.1.1 (e▸hkm),fun hm=>hnd.2.2.2.2 k hkm k hm rfl⟩
 have hg':pv.ownBlock=some g'\/w1.heap.size+1<=g':=by
  rcases hA.block g' rfl with h | h
  ·exact .inl h
  ·exact .inr (by simpa using h)
 have hgb:g'≠b/\g'≠mb/\g'∉kids bv' bs':=by
  rcases hg' with h | h
  ·exact hpb g' h
  ·refine⟨by omega,?_,?_⟩
   ·have:=hlt mb (by simp[sids]);omega
   ·intro hm;have:=hlt g' (by simp[sids,hm]);omega
 have hsame:∀ k,k<w1.heap.size->pv.ownBlock≠some k->w2.heap[k]?=w1.heap[k]?:=fun k hk hn=>by
  rw[hA.grown.block k (by simp;omega) (fun e=>hn e.symm),heap_alloc_old w1 _ hk]
 have hh2:w2.heap[b]?=some (z1e true (.map (some mb)) bv' pv):=by
  rw[hsame b hbw (fun e=>(hpb b e).1 rfl)];exact hS.hd
 have hsz:w1.heap.size+1<=w2.heap.size:=by have:=hA.grown.size;simpa using this
 have hfl:(s1.past ++ [x]).flatMap z0i=s1.past.flatMap z0i++z0i x:=by simp
 refine⟨g',c',w2,fun ty=>hr,(z0q hh2).2.2.2.1,(z0q hh2).2.2.2.2 3,sids b mb bv' (.slice (some ⟨g',0,none⟩) (s1.past.length+1) c') bs',⟨mb,es',clk',bv',_,bs',⟨zhh hh2 _,?_,?_,?_,hS.me,hS.fl,hS.srt,?_⟩,rfl⟩,⟨?_,?_⟩⟩
 ·rw[Below.heap_setCell _ _ _ _ (by show mb≠b;exact fun e=>hnd.1.1 e.symm),hsame mb (hlt mb (by simp[sids])) (fun e=>(hpb mb e).2.1 rfl)];exact hS.mp
 ·refine hS.ks.frame fun k hk => ?_
  have hkb:k≠b:=fun e=>hnd.1.2.2 (e▸hk)
  rw[Below.heap_setCell _ _ _ _ hkb,hsame k (hlt k (by simp[sids,hk])) (fun e=>(hpb k e).2.2 hk)]
 ·show Own _ _ 3 _ (s1.past ++ [x]).length _
  rw[show(s1.past ++ [x]).length=s1.past.length+1 by simp,hfl]
  exact hO.frame fun k hk=>by simp[Value.ownBlock]at hk;subst hk;exact Below.heap_setCell _ _ _ _ hgb.1
 ·simp only[sids,Value.ownBlock,Option.toList,List.nodup_cons,List.mem_cons,List.mem_append,not_or,List.nodup_append,List.not_mem_nil,or_false,not_false_eq_true,List.nodup_nil,and_true,true_and];exact⟨⟨hnd.1.1,Ne.symm hgb.1,hnd.1.2.2⟩,⟨Ne.symm hgb.2.1,hnd.2.1.2⟩,hnd.2.2.2.1,fun a ha c hc e=>hgb.2.2 (by rw[<- ha,e];exact hc)⟩
 ·have h1:Fr (· ∈ sids b mb bv pv bs) w w2:=by
   refine(hF.alloc (.cells #[.string x.key,.string x.val,.bool x.there] 198)).grown hA.grown (fun k hk => .inr ?_);simp[sids,hk]
  exact h1.setCell _ _ (.inr (by simp[sids]))
 ·intro k hk;have h01:=hF.size;simp only[sids,Value.ownBlock,Option.toList,List.mem_cons,List.mem_append,List.not_mem_nil,or_false]at hk;rcases hk with hk | hk | hk | hk
  ·exact .inl (by simp[sids,hk])
  ·exact .inl (by simp[sids,hk])
  ·rcases hg' with h | h
   ·exact .inl (by rw[hk];simp[sids,h])
   ·right;omega
  ·exact hI k (by simp[sids,hk])
def z2m(w:World)(b:Nat)(L:List Nat)(v:Value)(s':St)(e:Ending)(w':World):Prop:=e= .returned v/\∃ L',SRep w' b s' L'/\Step w L w' L'
theorem Step.zim{w w':World}{L L':List Nat}(h:Step w.drew L w' L'):Step w L w' L':=⟨⟨h.fr.os,h.fr.tape,h.fr.output,h.fr.size,h.fr.block⟩,h.own⟩
theorem zd3{k:ByteArray}(h:k≠z05):k.toList.isEmpty=false:=by
 rw[ByteArray.toList_eq];cases hl:k.data.toList with
 | nil=>exact absurd (zhl (by rw[hl];rfl)) h
 | cons x l=>rfl
theorem zxb(w:World)(k v:ByteArray):Calls Tryz.prog 208 #[.pointer none,.string k,.string v] w fun e w'=>e= .returned (.int .i64 1)/\w=w':=by
 go_enter Tryz.func208,Tryz.ntmps208;go_wp2_with (go_at_call 142;refine(is_nil _).mono ?_;rintro e w' ⟨rfl,rfl⟩);go_ret;exact⟨rfl,rfl⟩
theorem zsn(w:World)(b:Nat)(s:St)(L:List Nat)(k v:ByteArray)(h:SRep w b s L)(hk:k≠z05)(hv:getE s.ents k=some v) :
  Calls Tryz.prog 208 #[.pointer (some ⟨b,0,none⟩),.string k,.string v] w fun e w'=>e= .returned (.int .i64 0)/\w=w':=by
 have hc0:=h.cell0;have hke:=zd3 hk;obtain⟨mb,es,clk,bv,pv,bs,h,rfl⟩:=h;obtain⟨_,hc1,_⟩:=z0q h.hd;have hlk:=z1k mapT h.mp h.me h.srt k;rw[hv]at hlk;have HL:=zh hlk;have hvv:(v.toList==v.toList)=true:=by simp
 clear h hlk hv hk;go_enter Tryz.func208,Tryz.ntmps208;go_wp2_with (first | (go_at_call 142;refine(z9h _ _ _ hc0).mono ?_;rintro e w' ⟨rfl,rfl⟩)|(with_reducible refine z0c (o:=⟨some 22,_,_,_,_,_⟩) rfl (.tuple #[.string v,.bool true]) w ?hr ?k))
 case hr =>
  refine z2l (x:=.tmp 20) (k:=.tmp 21) (t:=89) (ok:=true) (m:=.map (some mb)) (kv:=.string k) ?_ ?_ ?_ ?_
  ·rfl
  ·rfl
  ·rfl
  ·exact HL.out
 go_ret;exact⟨rfl,rfl⟩
theorem zwk(w:World)(b:Nat)(s:St)(L:List Nat)(k v:ByteArray)(h:SRep w b s L)(hk:k≠z05)(hn:(getE s.ents k).isSome=false)(hb:s.size<1000000000000) :
  Calls Tryz.prog 208 #[.pointer (some ⟨b,0,none⟩),.string k,.string v] w (z2m w b L (.int .i64 0) (s.set k v)):=by
 have hc0:=h.cell0;have hke:=zd3 hk;obtain⟨mb,es,clk,bv,pv,bs,h,rfl⟩:=h;obtain⟨_,hc1,_,hc3,hfz⟩:=z0q h.hd;have hf3:=hfz 3;have hlk:=z1k mapT h.mp h.me h.srt k;have hvl:(getE s.ents k).getD z05=s.val k:=rfl;rw[hn,hvl]at hlk;have HL:=zh hlk;unfold St.size at hb;have h':SAt w.drew b mb es clk bv pv bs s:=h.frame fun _ _=>rfl
 have HLAY:=zh (zd9 w.drew b mb es clk bv pv bs s k v h' (by omega) hn);have hset:s.set k v=⟨(s.lay k v true).ents,(s.lay k v true).past ++ [⟨k,s.val k,false⟩]⟩:=by
  unfold St.set;rw[if_neg (by intro e;rw[e]at hn;simp at hn)];simp[St.lay,layE,St.was,hn]
 have hpl:(s.lay k v true).past.length=s.past.length:=rfl;have HP:Hid (∀ w1,Laid w.drew b mb bv pv bs (s.lay k v true) w1->_):=fun w1 hL=>zc9 hL ⟨k,s.val k,false⟩ (by rw[hpl];omega)
 rw[hset];generalize s.lay k v true=s1 at *
 generalize s.val k=v0 at *
 clear h h' hlk hn hk hvl hset hpl hfz hb;go_enter Tryz.func208,Tryz.ntmps208;go_wp2_with (first | (go_at_call 142;refine(z9h _ _ _ hc0).mono ?_;rintro e w' ⟨rfl,rfl⟩)|(with_reducible refine z0c (o:=⟨some 22,_,_,_,_,_⟩) rfl (.tuple #[.string v0,.bool false]) w ?hr ?k))
 case hr =>
  refine z2l (x:=.tmp 20) (k:=.tmp 21) (t:=89) (ok:=true) (m:=.map (some mb)) (kv:=.string k) ?_ ?_ ?_ ?_
  ·rfl
  ·rfl
  ·rfl
  ·exact HL.out
 go_region_law (first | (refine z8b (o:=⟨some 42,_,_,_,_,_⟩) rfl _ _ (z16 rfl rfl rfl (hr _)) ?_)|(go_simp;go_at_call 146;refine HLAY.out.mono ?_;rintro e w1 ⟨rfl,hL⟩;obtain⟨⟨hp1,hpa⟩,hbw1,g',c',w2,hr,hp2,hfz2,hfin⟩:=HP.out w1 hL))
 all_goals
  have HFIN:=zh hfin;clear hfin;go_wp2;go_ret;obtain⟨L',h1,h2⟩:=HFIN.out;exact⟨rfl,L',h1,h2.zim⟩
theorem zw2(w:World)(b:Nat)(s:St)(L:List Nat)(k v:ByteArray)(h:SRep w b s L)(hk:k≠z05)(hn:(getE s.ents k).isSome=true)(hd:getE s.ents k≠some v)(hb:s.size<1000000000000) :
  Calls Tryz.prog 208 #[.pointer (some ⟨b,0,none⟩),.string k,.string v] w (z2m w b L (.int .i64 0) (s.set k v)):=by
 have hc0:=h.cell0;have hke:=zd3 hk;obtain⟨mb,es,clk,bv,pv,bs,h,rfl⟩:=h;obtain⟨_,hc1,_,hc3,hfz⟩:=z0q h.hd;have hf3:=hfz 3;have hlk:=z1k mapT h.mp h.me h.srt k;have hvl:(getE s.ents k).getD z05=s.val k:=rfl;rw[hn,hvl]at hlk;have HL:=zh hlk;unfold St.size at hb;have h':SAt w.drew b mb es clk bv pv bs s:=h.frame fun _ _=>rfl
 have hvd:((s.val k).toList==v.toList)=false:=by
  rw[z4i,decide_eq_false_iff_not];intro e;obtain⟨x,hx⟩:=Option.isSome_iff_exists.1 hn;have hx2:s.val k=x:=by unfold St.val;rw[hx];rfl
  exact hd (by rw[hx,<- e,hx2])
 have HLAY:=zh (zdn w.drew b mb es clk bv pv bs s k v h' hn);have hset:s.set k v=⟨(s.lay k v true).ents,(s.lay k v true).past ++ [⟨k,s.val k,true⟩]⟩:=by
  unfold St.set;rw[if_neg hd];simp[St.lay,layE,St.was,hn]
 have hpl:(s.lay k v true).past.length=s.past.length:=rfl;have HP:Hid (∀ w1,Laid w.drew b mb bv pv bs (s.lay k v true) w1->_):=fun w1 hL=>zc9 hL ⟨k,s.val k,true⟩ (by rw[hpl];omega)
 rw[hset];generalize s.lay k v true=s1 at *
 generalize s.val k=v0 at *
 clear h h' hlk hn hd hk hvl hset hpl hfz hb;go_enter Tryz.func208,Tryz.ntmps208;go_wp2_with (first | (go_at_call 142;refine(z9h _ _ _ hc0).mono ?_;rintro e w' ⟨rfl,rfl⟩)|(with_reducible refine z0c (o:=⟨some 22,_,_,_,_,_⟩) rfl (.tuple #[.string v0,.bool true]) w ?hr ?k))
 case hr =>
  refine z2l (x:=.tmp 20) (k:=.tmp 21) (t:=89) (ok:=true) (m:=.map (some mb)) (kv:=.string k) ?_ ?_ ?_ ?_
  ·rfl
  ·rfl
  ·rfl
  ·exact HL.out
 go_region_law (first | (refine z8b (o:=⟨some 42,_,_,_,_,_⟩) rfl _ _ (z16 rfl rfl rfl (hr _)) ?_)|(go_simp;go_at_call 146;refine HLAY.out.mono ?_;rintro e w1 ⟨rfl,hL⟩;obtain⟨⟨hp1,hpa⟩,hbw1,g',c',w2,hr,hp2,hfz2,hfin⟩:=HP.out w1 hL))
 all_goals
  have HFIN:=zh hfin;clear hfin;go_wp2;go_ret;obtain⟨L',h1,h2⟩:=HFIN.out;exact⟨rfl,L',h1,h2.zim⟩
theorem set_any(w:World)(b:Nat)(s:St)(L:List Nat)(k v:ByteArray)(h:SRep w b s L)(hk:k≠z05)(hb:s.size<1000000000000) :
  Calls Tryz.prog 208 #[.pointer (some ⟨b,0,none⟩),.string k,.string v] w (z2m w b L (.int .i64 0) (s.set k v)):=by
 by_cases hd:getE s.ents k=some v
 ·refine(zsn w b s L k v h hk hd).mono fun e w' ⟨he,hw⟩ => ?_
  subst hw;have:s.set k v=s:=by unfold St.set;rw[if_pos hd]
  rw[this];exact⟨he,L,h,Step.refl w L⟩
 ·cases hn:(getE s.ents k).isSome with
  | false=>exact zwk w b s L k v h hk hn hb
  | true=>exact zw2 w b s L k v h hk hn hd hb
theorem zm9(w:World)(b:Nat)(s:St)(L:List Nat)(k:ByteArray)(h:SRep w b s L)(hn:(getE s.ents k).isSome=false) :
  Calls Tryz.prog 85 #[.pointer (some ⟨b,0,none⟩),.string k] w fun e w'=>e= .returned (.bool false)/\w=w':=by
 have HG:=zh (get_any w b s L k h);rw[hn]at HG;clear h hn;go_enter Tryz.func85,Tryz.ntmps85;go_wp2_with (go_at_call 140;refine HG.out.mono ?_;rintro e w' ⟨rfl,rfl⟩);go_ret;exact⟨rfl,rfl⟩
theorem zpu(w:World)(b:Nat)(s:St)(L:List Nat)(k:ByteArray)(h:SRep w b s L)(hn:(getE s.ents k).isSome=true)(hb:s.size<1000000000000) :
  Calls Tryz.prog 85 #[.pointer (some ⟨b,0,none⟩),.string k] w (z2m w b L (.bool true) (s.del k)):=by
 have HG:=zh (get_any w b s L k h);rw[hn]at HG;obtain⟨mb,es,clk,bv,pv,bs,h,rfl⟩:=h;obtain⟨_,hc1,_,hc3,hfz⟩:=z0q h.hd;have hf3:=hfz 3;unfold St.size at hb;have h':SAt w.drew b mb es clk bv pv bs s:=h.frame fun _ _=>rfl
 have HLAY:=zh (zpw w.drew b mb es clk bv pv bs s k ⟨#[]⟩ h' (by omega) hn);have hset:s.del k=⟨(s.lay k ⟨#[]⟩ false).ents,(s.lay k ⟨#[]⟩ false).past ++ [⟨k,s.val k,true⟩]⟩:=by
  unfold St.del;rw[if_pos hn];simp[St.lay,layE,St.was,hn]
 have hpl:(s.lay k ⟨#[]⟩ false).past.length=s.past.length:=rfl;have HP:Hid (∀ w1,Laid w.drew b mb bv pv bs (s.lay k ⟨#[]⟩ false) w1->_):=fun w1 hL=>zc9 hL ⟨k,s.val k,true⟩ (by rw[hpl];omega)
 rw[hset];generalize s.lay k ⟨#[]⟩ false=s1 at *
 generalize s.val k=v0 at *
 clear h h' hn hset hpl hfz hb;go_enter Tryz.func85,Tryz.ntmps85;go_wp2_with (go_at_call 140;refine HG.out.mono ?_;rintro e w' ⟨rfl,rfl⟩)
 go_region_law (first | (refine z8b (o:=⟨some 24,_,_,_,_,_⟩) rfl _ _ (z16 rfl rfl rfl (hr _)) ?_)|(go_simp;go_at_call 146;refine HLAY.out.mono ?_;rintro e w1 ⟨rfl,hL⟩;obtain⟨⟨hp1,hpa⟩,hbw1,g',c',w2,hr,hp2,hfz2,hfin⟩:=HP.out w1 hL))
 all_goals
  have HFIN:=zh hfin;clear hfin;go_wp2;go_ret;obtain⟨L',h1,h2⟩:=HFIN.out;exact⟨rfl,L',h1,h2.zim⟩
theorem zeh(w:World)(b:Nat)(s:St)(L:List Nat)(k:ByteArray)(h:SRep w b s L)(hb:s.size<1000000000000) :
  Calls Tryz.prog 85 #[.pointer (some ⟨b,0,none⟩),.string k] w (z2m w b L (.bool (getE s.ents k).isSome) (s.del k)):=by
 cases hn:(getE s.ents k).isSome with
 | false =>
  refine(zm9 w b s L k h hn).mono fun e w' ⟨he,hw⟩ => ?_
  subst hw;have:s.del k=s:=by unfold St.del;rw[if_neg (by rw[hn];simp)]
  rw[this];exact⟨he,L,h,Step.refl w L⟩
 | true=>exact zpu w b s L k h hn hb
end Go.Proofs.YtnkilceibkkjlaaGreat
