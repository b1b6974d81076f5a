/- What is proved here: a new key enters a store's rows of k -/
import Derived.Test.YtnkilceibkkjlaaGreatKKeys
import Derived.Deep.RegionWith
set_option maxRecDepth 100000
set_option maxHeartbeats 16000000
namespace Go.Proofs.YtnkilceibkkjlaaGreat
open Go.RowKit
theorem zq3{A C:List Blk}{x y:Blk}{p:List Nat}(h:(p++(A++x::C).map Blk.g).Nodup)(hy:y.g∉(p++(A++x::C).map Blk.g)\/y.g=x.g):(p++(A++y::C).map Blk.g).Nodup:=by
 rcases hy with hy | hy
 ·simp only[List.map_append,List.map_cons,List.nodup_append,List.mem_append,List.mem_cons,List.nodup_cons,not_or]at h hy ⊢
  grind
 ·simp only[List.map_append,List.map_cons,hy]at h ⊢;exact h
theorem KRep.put{w w3:World}{g n c:Nat}{bs A C:List Blk}{x y:Blk}(h:KRep w (.slice (some ⟨g,0,none⟩) n c) bs)(e:bs=A++x::C)
  (hrow:Own w3 220 1 (.slice (some ⟨g,0,none⟩) n c) n ((A++y::C).map Blk.val)) (hn:n=bs.length)
  (hy:y.At w3) (hyg:y.g=x.g\/w.heap.size<=y.g)
  (hsame:∀ j,j∈(A++C).map Blk.g->w3.heap[j]?=w.heap[j]?) (hs:z1p (z01 (A++y::C))):KRep w3 (.slice (some ⟨g,0,none⟩) n c) (A++y::C):=by
 have hlen:(A++y::C).length=n:=by rw[hn,e];simp
 refine⟨by rw[hlen];exact hrow,fun z hz => ?_,hs,?_⟩
 ·rcases List.mem_append.1 hz with hz | hz
  ·exact(h.rows z (by rw[e];simp[hz])).frame (hsame _ (List.mem_map.2 ⟨z,by simp[hz],rfl⟩))
  ·rcases List.mem_cons.1 hz with rfl | hz
   ·exact hy
   ·exact(h.rows z (by rw[e];simp[hz])).frame (hsame _ (List.mem_map.2 ⟨z,by simp[hz],rfl⟩))
 ·have hnd:=h.nd;rw[e]at hnd;refine zq3 (p:=(Value.slice (some ⟨g,0,none⟩) n c).ownBlock.toList) hnd ?_;rcases hyg with hyg | hyg
  ·exact .inr hyg
  ·refine .inl fun hm => ?_
   have:=h.lt y.g (by rw[e];exact hm);omega
theorem zjm{w w2:World}{b g c n m i p g2 c2:Nat}{bs A C:List Blk}{x:Blk}{mv pv:Value}{k:ByteArray}
  (hK:KRep w (.slice (some ⟨g,0,none⟩) n c) bs) (hk:k∉z01 bs) (e:bs=A++x::C) (hl:lb (z01 bs) k=(z01 A).length+lb x.keys k)
  (hm:m=x.keys.length) (hn:n=bs.length) (hi:i=A.length) (hp:p=lb x.keys k)
  (hh2:w2.heap[b]?=some (z1e true mv (.slice (some ⟨g,0,none⟩) n c) pv))
  (hO:Own w2 9 1 (.slice (some ⟨g2,0,none⟩) (m+1) c2) (m+1) ((strs x.keys).take p ++ .string k::(strs x.keys).drop p))
  (hR2:Own w2 220 1 (.slice (some ⟨g,0,none⟩) n c) n (bs.map Blk.val)) (hg2:g2=x.g\/w.heap.size+1<=g2)
  (hF2:Fr (· = x.g) (w.alloc (.cells #[.string k] 9)) w2) (hbg:b≠g) (hgk:g≠x.g) :
  Keyed w b (.slice (some ⟨g,0,none⟩) n c) bs mv pv ((z01 bs).take (lb (z01 bs) k)++k::(z01 bs).drop (lb (z01 bs) k)) (w2.setCell ⟨g,i,none⟩ (.slice (some ⟨g2,0,none⟩) (m+1) c2)):=by
 have hpm:p<=x.keys.length:=by rw[hp];exact zae _ _
 have hgw:g<w.heap.size:=hK.lt g (by simp[kids,Value.ownBlock]);have hxw:x.g<w.heap.size:=hK.lt x.g (by rw[e];simp[kids]);have hg2g:g2≠g:=by omega
 have hFw:Fr (fun j=>j=b\/j∈kids (.slice (some ⟨g,0,none⟩) n c) bs) w w2:=
  ((Fr.refl _ w).alloc _).trans hF2 (fun j _ hj => .inr (by rw[hj,e];simp[kids]))
 have hall:z01 (A++(⟨g2,c2,x.keys.take p++k::x.keys.drop p⟩:Blk)::C)=(z01 bs).take (lb (z01 bs) k)++k::(z01 bs).drop (lb (z01 bs) k):=by
  rw[hl,e,<- hp,zak A C x k p hpm,z0r,z0y]
 have hval:(⟨g2,c2,x.keys.take p++k::x.keys.drop p⟩:Blk).val= .slice (some ⟨g2,0,none⟩) (m+1) c2:=by
  simp only[Blk.val,List.length_append,List.length_take,List.length_cons,List.length_drop];rw[show min p x.keys.length+(x.keys.length-p+1)=m+1 by omega]
 have hnd:=hK.nd;rw[e]at hnd;have hne:∀ j∈(A++C).map Blk.g,j≠x.g/\j≠g:=by
  intro j hj;simp only[Value.ownBlock,Option.toList,kids,List.map_append,List.map_cons,List.nodup_append,List.mem_append,List.mem_cons,List.nodup_cons,List.not_mem_nil,or_false]at hnd hj
  grind
 refine⟨⟨_,A++⟨g2,c2,x.keys.take p++k::x.keys.drop p⟩::C,?_,hK.put e ?_ hn ⟨by simp,?_⟩ ?_ ?_ ?_,hall,?_⟩,?_⟩
 ·rw[Below.heap_setCell _ _ _ _ hbg];exact hh2
 ·have:=hR2.setCell i (.slice (some ⟨g2,0,none⟩) (m+1) c2);rw[e,hi,List.map_append,List.map_cons,show A.length=(A.map Blk.val).length by simp,List.set_append_right _ _ (Nat.le_refl _)]at this
  rw[List.map_append,List.map_cons,hval,hi]
  simpa using this
 ·have h1:(x.keys.take p++k::x.keys.drop p).length=m+1:=by
   simp only[List.length_append,List.length_take,List.length_cons,List.length_drop];omega
  rw[hval];show Own _ _ 1 _ (x.keys.take p++k::x.keys.drop p).length _
  rw[h1];have h2:strs (x.keys.take p++k::x.keys.drop p)=(strs x.keys).take p ++ .string k::(strs x.keys).drop p:=by simp[strs]
  rw[h2];exact hO.frame (fun j hj=>by simp[Value.ownBlock]at hj;subst hj;exact Below.heap_setCell _ _ _ _ hg2g)
 ·rcases hg2 with h | h
  ·exact .inl h
  ·right;show w.heap.size<=g2;omega
 ·intro j hj;obtain⟨h1,h2⟩:=hne j hj
  have hjw:j<w.heap.size:=hK.lt j (by
   rw[e];simp only[kids,List.map_append,List.map_cons,List.mem_append,List.mem_cons]at hj ⊢;rcases hj with hj | hj
   ·exact .inr (.inl hj)
   ·exact .inr (.inr (.inr hj)))
  rw[Below.heap_setCell _ _ _ _ h2,hF2.block j (by simp;omega) h1,heap_alloc_old w _ hjw]
 ·rw[hall];exact insert_sorted hK.srt hk
 ·intro j hj;rw[e];simp only[kids,List.map_append,List.map_cons,List.mem_append,List.mem_cons]at hj ⊢;rcases hj with hj | hj | hj | hj
  ·exact .inl (.inl hj)
  ·exact .inl (.inr (.inl hj))
  ·rcases hg2 with h | h
   ·exact .inl (.inr (.inr (.inl (hj.trans h))))
   ·right;rw[hj];show w.heap.size<=g2;omega
  ·exact .inl (.inr (.inr (.inr hj)))
 ·exact hFw.setCell _ _ (.inr (.inr (by simp[kids,Value.ownBlock])))
theorem zvg{w w2:World}{b g c n m i p q g2 c2:Nat}{bs A C:List Blk}{x:Blk}{mv pv:Value}{k:ByteArray}
  (hK:KRep w (.slice (some ⟨g,0,none⟩) n c) bs) (hk:k∉z01 bs) (e:bs=A++x::C) (hl:lb (z01 bs) k=(z01 A).length+lb x.keys k)
  (hm:m=x.keys.length) (hn:n=bs.length) (hi:i=A.length) (hp:p=lb x.keys k) (hq0:0<q) (hq:q<=m)
  (hh2:w2.heap[b]?=some (z1e true mv (.slice (some ⟨g,0,none⟩) n c) pv))
  (hO:Own w2 9 1 (.slice (some ⟨g2,0,none⟩) (m+1) c2) (m+1) ((strs x.keys).take p ++ .string k::(strs x.keys).drop p))
  (hR2:Own w2 220 1 (.slice (some ⟨g,0,none⟩) n c) n (bs.map Blk.val)) (hg2:g2=x.g\/w.heap.size+1<=g2)
  (hF2:Fr (· = x.g) (w.alloc (.cells #[.string k] 9)) w2) (hbg:b≠g) (hgk:g≠x.g) (w3:World) (hw3:w3=(w2.setCell ⟨g,i,none⟩ (.slice (some ⟨g2,0,none⟩) q q)).drew) :
  KRep w3 (.slice (some ⟨g,0,none⟩) n c) (A++⟨g2,q,(x.keys.take p++k::x.keys.drop p).take q⟩::C)/\w3.heap[b]?=some (z1e true mv (.slice (some ⟨g,0,none⟩) n c) pv) /\
   Own w3 9 1 (.slice (some ⟨g2,0,none⟩) (m+1) c2) (m+1) (strs (x.keys.take p++k::x.keys.drop p))/\Fr (fun j=>j=b\/j∈kids (.slice (some ⟨g,0,none⟩) n c) bs) w w3:=by
 have hpm:p<=x.keys.length:=by rw[hp];exact zae _ _
 have hgw:g<w.heap.size:=hK.lt g (by simp[kids,Value.ownBlock]);have hxw:x.g<w.heap.size:=hK.lt x.g (by rw[e];simp[kids]);have hg2g:g2≠g:=by omega
 have hFw:Fr (fun j=>j=b\/j∈kids (.slice (some ⟨g,0,none⟩) n c) bs) w w2:=
  ((Fr.refl _ w).alloc _).trans hF2 (fun j _ hj => .inr (by rw[hj,e];simp[kids]))
 obtain⟨ks,hks⟩:∃ ks,ks=x.keys.take p++k::x.keys.drop p:=⟨_,rfl⟩;have hkl:ks.length=m+1:=by rw[hks];simp only[List.length_append,List.length_take,List.length_cons,List.length_drop];omega
 have hstr:strs ks=(strs x.keys).take p ++ .string k::(strs x.keys).drop p:=by rw[hks];simp[strs]
 have hall:z01 (A++(⟨g2,c2,ks⟩:Blk)::C)=(z01 bs).take (lb (z01 bs) k)++k::(z01 bs).drop (lb (z01 bs) k):=by
  rw[hl,e,<- hp,zak A C x k p hpm,z0r,z0y,<- hks]
 have hsrt:=insert_sorted hK.srt hk;rw[<- hall]at hsrt;have hval:(⟨g2,q,ks.take q⟩:Blk).val= .slice (some ⟨g2,0,none⟩) q q:=by
  simp only[Blk.val,List.length_take];rw[show min q ks.length=q by omega]
 have hnd:=hK.nd;rw[e]at hnd;have hne:∀ j∈(A++C).map Blk.g,j≠x.g/\j≠g:=by
  intro j hj;simp only[Value.ownBlock,Option.toList,kids,List.map_append,List.map_cons,List.nodup_append,List.mem_append,List.mem_cons,List.nodup_cons,List.not_mem_nil,or_false]at hnd hj
  grind
 rw[<- hstr]at hO;rw[<- hks];have hO3:Own w3 9 1 (.slice (some ⟨g2,0,none⟩) (m+1) c2) (m+1) (strs ks):=
  hO.frame (fun j hj=>by simp[Value.ownBlock]at hj;subst hj;rw[hw3];exact Below.heap_setCell _ _ _ _ hg2g)
 refine⟨hK.put e ?_ hn ⟨?_,?_⟩ ?_ ?_ ?_,?_,hO3,?_⟩
 ·have:=hR2.setCell i (.slice (some ⟨g2,0,none⟩) q q);rw[e,hi,List.map_append,List.map_cons,show A.length=(A.map Blk.val).length by simp,List.set_append_right _ _ (Nat.le_refl _)]at this
  rw[List.map_append,List.map_cons,hval,hw3,hi];simp only[Nat.sub_self,List.set_cons_zero,List.length_map]at this;exact this
 ·show ks.take q≠[]
  intro h;have:=congrArg List.length h;simp at this;rcases this with h | h
  ·omega
  ·rw[h]at hkl;simp at hkl
 ·rw[hval];show Own _ _ 1 _ (ks.take q).length _
  rw[show(ks.take q).length=q by simp;omega]
  have:=hO3.cut q (by omega)
  rwa [show(strs ks).take q=strs (ks.take q)by simp[strs]]at this
 ·rcases hg2 with h | h
  ·exact .inl h
  ·right;show w.heap.size<=g2;omega
 ·intro j hj;obtain⟨h1,h2⟩:=hne j hj
  have hjw:j<w.heap.size:=hK.lt j (by
   rw[e];simp only[kids,List.map_append,List.map_cons,List.mem_append,List.mem_cons]at hj ⊢;rcases hj with hj | hj
   ·exact .inr (.inl hj)
   ·exact .inr (.inr (.inr hj)))
  rw[hw3];show(w2.setCell _ _).heap[j]?=_
  rw[Below.heap_setCell _ _ _ _ h2,hF2.block j (by simp;omega) h1,heap_alloc_old w _ hjw]
 ·rw[z0r,z0y]at hsrt ⊢;exact hsrt.sublist (List.Sublist.append (List.Sublist.refl _) (List.Sublist.append (List.take_sublist _ _) (List.Sublist.refl _)))
 ·rw[hw3];show(w2.setCell _ _).heap[b]?=_
  rw[Below.heap_setCell _ _ _ _ hbg];exact hh2
 ·rw[hw3];exact(hFw.setCell _ _ (.inr (.inr (by simp[kids,Value.ownBlock])))).drew
theorem zob{g g4 x s3 s4:Nat}{L1 L2:List Nat}{o:Option Nat}(h:(g::(L1++x::L2)).Nodup)(hlt:∀ j∈g::(L1++x::L2),j<s3)(hg4:s3<=g4)(hg4w:g4<s4)(ho:∀ j,o=some j->j=g\/s4+1<=j) :
  (o.toList++(L1++x::g4::L2)).Nodup:=by
 have hp:(L1++x::g4::L2).Perm (g4::(L1++x::L2)):=by
  have:=List.perm_middle (a:=g4) (l₁:=L1 ++ [x]) (l₂:=L2)
  simpa using this
 have hc:=List.nodup_cons.1 h;have h1:(L1++x::g4::L2).Nodup:=hp.nodup_iff.2 (List.nodup_cons.2 ⟨fun hm=>by have:=hlt g4 (List.mem_cons_of_mem _ hm);omega,hc.2⟩);cases o with
 | none=>exact h1
 | some j =>
  refine List.nodup_cons.2 ⟨fun hm => ?_,h1⟩;have hm2:=hp.mem_iff.1 hm;rcases ho j rfl with e | e
  ·rcases List.mem_cons.1 hm2 with e2 | hm2
   ·have:=hlt g (by simp);omega
   ·exact hc.1 (by rw[<- e];exact hm2)
  ·rcases List.mem_cons.1 hm2 with e2 | hm2
   ·omega
   ·have:=hlt j (List.mem_cons_of_mem _ hm2);have:=hlt g (by simp);omega
theorem zpl{w w3 w4 w5:World}{b g n c i r g4 c4:Nat}{A C bs:List Blk}{x1:Blk}{ks2 K:List ByteArray}{v5 bv mv pv:Value}
  (hK3:KRep w3 (.slice (some ⟨g,0,none⟩) n c) (A++x1::C)) (hh3:w3.heap[b]?=some (z1e true mv (.slice (some ⟨g,0,none⟩) n c) pv))
  (hbk:b∉kids (.slice (some ⟨g,0,none⟩) n c) (A++x1::C)) (hi:i=A.length)
  (hC4:zcg w3.drew 9 (strs ks2) (.slice (some ⟨g4,0,none⟩) r c4) w4) (hr:r=ks2.length) (hne:ks2≠[])
  (hI5:z9e (w4.alloc (.cells #[.slice (some ⟨g4,0,none⟩) r c4] 220)) 220 g (i+1) (.slice (some ⟨g4,0,none⟩) r c4) ((A++x1::C).map Blk.val) v5 w5)
  (hsrt:z1p (z01 (A++x1::⟨g4,c4,ks2⟩::C))) (hall:z01 (A++x1::⟨g4,c4,ks2⟩::C)=K)
  (hF3:Fr (fun j=>j=b\/j∈kids bv bs) w w3) (hsub:∀ j∈kids (.slice (some ⟨g,0,none⟩) n c) (A++x1::C),j∈kids bv bs\/w.heap.size<=j) :
  Keyed w b bv bs mv pv K (w5.setCell ⟨b,2,none⟩ v5):=by
 have hbw:=z02 hh3;have hgw:g<w3.heap.size:=hK3.lt g (by simp[kids,Value.ownBlock]);have hbg:b≠g:=fun e=>hbk (by rw[e];simp[kids,Value.ownBlock])
 have hg4:w3.heap.size<=g4:=hC4.block g4 rfl;have hg4w:g4<w4.heap.size:=hC4.own.lt g4 rfl;have h34:w3.heap.size<=w4.heap.size:=hC4.fr.size;have hF4:Fr (fun _=>False) w3 (w4.alloc (.cells #[.slice (some ⟨g4,0,none⟩) r c4] 220)):=
  (Fr.trans (w1:=w3.drew) ((Fr.refl _ w3).drew) hC4.fr (fun _ _ e=>e)).alloc _
 have hF5:Fr (· = g) w3 w5:=(hF4.mono (fun _ _ e=>e.elim)).trans hI5.fr (fun _ _ e=>e);have h45:w4.heap.size+1<=w5.heap.size:=by have:=hI5.fr.size;simpa using this
 have hh5:w5.heap[b]?=some (z1e true mv (.slice (some ⟨g,0,none⟩) n c) pv):=hF5.at hh3 hbg;have hx2:(⟨g4,c4,ks2⟩:Blk).At w5:=by
  refine⟨hne,?_⟩;have:=hC4.own;rw[z5r]at this;show Own w5 _ 1 (.slice (some ⟨g4,0,none⟩) ks2.length c4) ks2.length (strs ks2)
  rw[<- hr]at this ⊢
  exact this.frame (fun j hj=>by
   simp[Value.ownBlock]at hj;subst hj
   rw[hI5.fr.block _ (by simp;omega) (by omega),heap_alloc_old w4 _ hg4w])
 have hO5:=hI5.own;have hvals:((A++x1::C).map Blk.val).take (i+1) ++ .slice (some ⟨g4,0,none⟩) r c4::((A++x1::C).map Blk.val).drop (i+1)=(A++x1::⟨g4,c4,ks2⟩::C).map Blk.val:=by
  rw[hi,show A.length+1=(A.map Blk.val ++ [x1.val]).length by simp,show(A++x1::C).map Blk.val=(A.map Blk.val ++ [x1.val])++C.map Blk.val by simp,List.take_left,List.drop_left,hr]
  simp[Blk.val]
 rw[hvals,show((A++x1::C).map Blk.val).length+1=(A++x1::⟨g4,c4,ks2⟩::C).length by simp;omega]at hO5
 have hrows:∀ y∈A++x1::C,y.g≠g/\y.g<w3.heap.size:=fun y hy=>by
  refine⟨fun e => ?_,(hK3.rows y hy).lt⟩;have hnd:=hK3.nd;simp only[kids,Value.ownBlock,Option.toList,List.cons_append,List.nil_append,List.nodup_cons]at hnd;exact hnd.1 (List.mem_map.2 ⟨y,hy,e⟩)
 have hmem:∀ y,y∈A++x1::⟨g4,c4,ks2⟩::C->y=⟨g4,c4,ks2⟩\/y∈A++x1::C:=fun y hy=>by
  simp only[List.mem_append,List.mem_cons]at hy ⊢;rcases hy with h | h | h | h
  ·exact .inr (.inl h)
  ·exact .inr (.inr (.inl h))
  ·exact .inl h
  ·exact .inr (.inr (.inr h))
 have h5b:∀ j,v5.ownBlock=some j->j=g\/w4.heap.size+1<=j:=fun j hj=>by
  rcases hI5.block j hj with h | h
  ·exact .inl h
  ·exact .inr (by simpa using h)
 have hbig:∀ j,v5.ownBlock=some j->j≠b:=fun j hj=>by
  rcases h5b j hj with h | h<;>omega
 refine⟨⟨v5,A++x1::⟨g4,c4,ks2⟩::C,zcd hh5 v5,⟨?_,?_,hsrt,?_⟩,hall,?_⟩,?_⟩
 ·exact hO5.frame (fun j hj=>Below.heap_setCell _ _ _ _ (hbig j hj))
 ·intro y hy;have hb4:g4≠b:=by omega
  rcases hmem y hy with rfl | hy
  ·exact hx2.frame (Below.heap_setCell _ _ _ _ hb4)
  ·have hyb:y.g≠b:=fun e=>hbk (by rw[<- e];exact List.mem_append.2 (.inr (List.mem_map.2 ⟨y,hy,rfl⟩)))
   obtain⟨h1,h2⟩:=hrows y hy;exact(hK3.rows y hy).frame (by rw[Below.heap_setCell _ _ _ _ hyb];exact hF5.block _ h2 h1)
 ·have hnd:=hK3.nd;have hlt:=hK3.lt;simp only[kids,Value.ownBlock,Option.toList,List.map_append,List.map_cons,List.cons_append,List.nil_append]at hnd hlt;have:=zob hnd hlt hg4 hg4w h5b
  simpa [kids]using this
 ·intro j hj;simp only[kids,List.map_append,List.map_cons,List.mem_append,List.mem_cons]at hj;have hs:∀ j',j'∈(A++x1::C).map Blk.g->j'∈kids bv bs\/w.heap.size<=j':=fun j' h=>hsub j' (List.mem_append.2 (.inr h))
  have h03:=hF3.size;rcases hj with hj | hj | hj | hj | hj
  ·rcases h5b j (by simpa using hj)with h | h
   ·exact hsub j (by rw[h];simp[kids,Value.ownBlock])
   ·right;omega
  ·exact hs j (by simp only[List.map_append,List.mem_append];exact .inl hj)
  ·exact hs j (by simp only[List.map_append,List.map_cons,List.mem_append,List.mem_cons];exact .inr (.inl hj))
  ·right;rw[hj];show w.heap.size<=g4;omega
  ·exact hs j (by simp only[List.map_append,List.map_cons,List.mem_append,List.mem_cons];exact .inr (.inr hj))
 ·refine(hF3.trans hF5 (fun j hj e => ?_)).setCell _ _ (.inr (.inl rfl));rcases hsub g (by simp[kids,Value.ownBlock])with h | h
  ·exact .inr (by rw[e];exact h)
  ·omega
def zw8(w:World)(e:TypeId)(g i r:Nat)(x:Value)(xs:List Value)(en:Ending)(w':World):Prop:=∃ g5 c5,en= .returned (.slice (some ⟨g5,0,none⟩) r c5)/\z9e w e g i x xs (.slice (some ⟨g5,0,none⟩) r c5) w'
def zzh(w:World)(e:TypeId)(r:Nat)(xs:List Value)(en:Ending)(w':World):Prop:=∃ g4 c4,en= .returned (.slice (some ⟨g4,0,none⟩) r c4)/\zcg w e xs (.slice (some ⟨g4,0,none⟩) r c4) w'
theorem zmm(w:World)(b g c:Nat)(bs:List Blk)(mv pv:Value)(k:ByteArray)(h0:0<bs.length)
  (hh:w.heap[b]?=some (z1e true mv (.slice (some ⟨g,0,none⟩) bs.length c) pv)) (hK:KRep w (.slice (some ⟨g,0,none⟩) bs.length c) bs)
  (hbk:b∉kids (.slice (some ⟨g,0,none⟩) bs.length c) bs) (hk:k∉z01 bs) (hb:(z01 bs).length<1000000000000) :
  Calls Tryz.prog 206 #[.pointer (some ⟨b,0,none⟩),.string k] w
   (z9g w b (.slice (some ⟨g,0,none⟩) bs.length c) bs mv pv ((z01 bs).take (lb (z01 bs) k)++k::(z01 bs).drop (lb (z01 bs) k))):=by
 obtain⟨A,x,C,e,hA,hl⟩:=place hK.ne hK.srt k h0;have hx:x∈bs:=by rw[e];simp
 have hxA:=hK.rows x hx;have hxl:=z6s hx;have hbl:=z5x hK.ne;obtain⟨m,hm⟩:∃ m,m=x.keys.length:=⟨_,rfl⟩;obtain⟨n,hn⟩:∃ n,n=bs.length:=⟨_,rfl⟩;obtain⟨i,hi⟩:∃ i,i=A.length:=⟨_,rfl⟩;obtain⟨p,hp⟩:∃ p,p=lb x.keys k:=⟨_,rfl⟩;have hin:i<n:=by rw[hi,hn,e];simp
 have hpm:p<=m:=by rw[hp,hm];exact zae _ _
 have hbw:=z02 hh;have hgw:=hK.lt g (by simp[kids,Value.ownBlock]);have hxw:=hxA.lt;obtain⟨_,_,hb2,_,hfz⟩:=z0q hh;have hrow:w.cell? ⟨g,i,none⟩=some (.slice (some ⟨x.g,0,none⟩) m x.cap):=by
  have:=hK.row.cells (g:=g) rfl i x.val (by rw[hi,e];simp);rw[Addr.add_lit,Nat.zero_add]at this;rw[this,hm];rfl
 have hfind:=zgl w b g c bs k (z4o hK.ne hK.srt) (by omega) h0 hb2 (hK.lasts (by omega));rw[<- hA,<- hi]at hfind
 have hsearch:=zbu w x.g x.cap x.keys k (z3x hK.srt hx) (by omega) (fun j y hj=>by
  have:=hxA.2.cells (g:=x.g) rfl j (.string y) (by simp[strs,hj])
  rwa [Addr.add_lit,Nat.zero_add]at this)
 rw[<- hm,<- hp]at hsearch;have hown1:Own (w.alloc (.cells #[.string k] 9)) 9 1 (.slice (some ⟨x.g,0,none⟩) x.keys.length x.cap) x.keys.length (strs x.keys):=
  hxA.2.frame (fun j hj=>by simp[Blk.val,Value.ownBlock]at hj;subst hj;exact heap_alloc_old w _ hxw)
 have hins:=ztr (w.alloc (.cells #[.string k] 9)) x.g x.cap x.keys w.heap.size k p (by rw[hp];exact zae _ _) hown1 (heap_alloc_new w _) (by omega) (by omega);rw[<- hm]at hins;have HF:=zh hfind;have HS:=zh hsearch;have HI:=zh hins;have HQ:=zh (show True from trivial);rw[<- hn]at hb2 ⊢;have hnb:n<4611686018427387904:=by omega
 have hmb:m<4611686018427387904:=by omega
 have HH:=zh hh;have HK:=zh hK;have HX:=zh hxA;clear hfind hsearch hins hown1 hxA hK hh;have H0:=zh hA;have H1:=zh hl;have H2:=zh e;have H3:=zh hm;have H4:=zh hn;have H5:=zh hi;have H6:=zh hp;have H7:=zh hbk;have H8:=zh hk;have H9:=zh hfz;clear hA hl e hm hn hi hp hbk hk hx hfz;go_enter Tryz.func206,Tryz.ntmps206;go_wp2_with (first | (go_at_call 169;refine HF.out.mono ?_;rintro e w' ⟨rfl,rfl⟩)|(go_at_call 238;refine HS.out.mono ?_;rintro e w' ⟨⟨f,rfl⟩,rfl⟩));refine HI.out.mono ?_;rintro e2 w2 ⟨v',rfl,hI⟩;have hsl:(strs x.keys).length=m:=by rw[z5r,H3.out]
 have hO:=hI.own;rw[hsl]at hO;obtain⟨g2,c2,rfl⟩:=hO.inv (by omega);have hbk:=H7.out;have hgk:g≠x.g:=by
  have h:=HK.out.nd;intro e;rw[H2.out]at h;simp[kids,Value.ownBlock,e]at h
 have hbx:b≠x.g:=by
  intro e;apply hbk;rw[H2.out,e];simp[kids]
 have hbg:b≠g:=by
  intro e;apply hbk;rw[e];simp[kids,Value.ownBlock]
 have hg2:=hI.block g2 rfl;simp only[World.size_alloc]at hg2;have hF2:=hI.fr;have hh2:w2.heap[b]?=some (z1e true mv (.slice (some ⟨g,0,none⟩) bs.length c) pv):=by
  rw[hF2.block b (by simp;omega) (by omega),heap_alloc_old w _ hbw];exact HH.out
 obtain⟨_,_,hb22,_,hfz2⟩:=z0q hh2;rw[<- H4.out]at hb22;have hfz22:=hfz2 2;have hR2:Own w2 220 1 (.slice (some ⟨g,0,none⟩) n c) n (bs.map Blk.val):=by
  rw[H4.out];exact HK.out.row.frame (fun j hj=>by simp[Value.ownBlock]at hj;subst hj;rw[hF2.block _ (by simp;omega) (by omega),heap_alloc_old w _ hgw])
 have hrow2:w2.cell? ⟨g,i,none⟩=some (.slice (some ⟨x.g,0,none⟩) m x.cap):=by
  have:=hR2.cells (g:=g) rfl i x.val (by rw[H5.out,H2.out];simp);rw[Addr.add_lit,Nat.zero_add]at this;rw[this,H3.out];rfl
 have hfg2:w2.frozen? ⟨g,i,none⟩=false:=zet hR2 i;have HO:=zh hO;have HH2:=zh hh2;have HR2:=zh hR2;have HG2:=zh hg2;have HF2:=zh hF2;clear hO hh2 hR2 hg2 hF2 hI hsl hfz2
 by_cases h64:m+1<=64
 ·go_wp2
  go_returns
  have hK:=HK.out;have hh2:=HH2.out;rw[<- H4.out]at hK hh2;exact⟨rfl,zjm hK H8.out H2.out H1.out H3.out H4.out H5.out H6.out hh2 HO.out HR2.out HG2.out HF2.out hbg hgk⟩
 ·have h65:¬ (m:Int)+1<=64:=by omega
  obtain⟨q,hq⟩:∃ q:Nat,q=(m+1)/2:=⟨_,rfl⟩;have hqi:((m:Int)+1)/2=(q:Int):=by omega
  have hmc:m+1<=c2/\c2<=maxLen:=by
   rcases HO.out.2 with⟨h,_⟩ | ⟨_,_,_,h,_,h1,h2,_⟩
   ·cases h
   ·cases h;exact⟨h1,h2⟩
  have hq1:0<q:=by omega
  have hq2:q<=m:=by omega
  have hq3:q<=c2:=by omega
  have hq4:¬ q=0:=by omega
  have hcq:¬ c2=q:=by omega
  have hmc1:=hmc.1;have hcm:c2<=9223372036854775807:=hmc.2;have HQ1:=zh hq;have HMC:=zh hmc;clear hq hmc;go_wp2
  go_still_tail 9,(by kernel_rfl)
  change wpList _ _ _ _ _ w2.drew;go_wp2;have hK:=HK.out;have hh2:=HH2.out;rw[<- H4.out]at hK hh2;obtain⟨w3,hw3⟩:∃ w3,w3=(w2.setCell ⟨g,i,none⟩ (.slice (some ⟨g2,0,none⟩) q q)).drew:=⟨_,rfl⟩;obtain⟨hK3,hh3,hO3,hF3⟩:=zvg hK H8.out H2.out H1.out H3.out H4.out H5.out H6.out hq1 hq2 hh2 HO.out HR2.out HG2.out HF2.out hbg hgk w3 hw3;rw[<- hw3];obtain⟨ks,hks⟩:∃ ks,ks=x.keys.take p++k::x.keys.drop p:=⟨_,rfl⟩;rw[<- hks]at hK3 hO3;have hkl:ks.length=m+1:=by rw[hks,H3.out];have:=H3.out;simp only[List.length_append,List.length_take,List.length_cons,List.length_drop];omega
  obtain⟨_,_,hb23,_,hfz3⟩:=z0q hh3;have hfz32:=hfz3 2
  have hcl:=zml w3.drew ⟨g2,q,none⟩ (c2-q) (ks.drop q) (fun j u hj=>by
   have:=hO3.cells (g:=g2) rfl (q+j) u (by rw[<- List.getElem?_drop];simpa [strs]using hj);rw[Addr.add_lit]at this ⊢;rw[Nat.zero_add]at this
   exact this) (by have:=H3.out;simp;omega)
  rw[show(ks.drop q).length=m+1-q by simp;omega]at hcl
  have HC:Hid (Calls Tryz.prog 241 #[.slice (some ⟨g2,q,none⟩) (m+1-q) (c2-q)] w3.drew (zzh w3.drew 9 (m+1-q) (strs (ks.drop q)))):=
   hcl.mono fun e w' ⟨v,he,hc⟩=>by
    obtain⟨g4,c4,rfl⟩:=hc.own.inv (by simp[strs];omega);rw[show(strs (ks.drop q)).length=m+1-q by simp[strs];omega]at he hc
    exact⟨g4,c4,he,hc⟩
  have hn3:n=(A++(⟨g2,q,ks.take q⟩:Blk)::C).length:=by rw[H4.out,H2.out];simp
  have hil:i+1<=(A++(⟨g2,q,ks.take q⟩:Blk)::C).length:=by rw[<- hn3];omega
  have hbn:(A++(⟨g2,q,ks.take q⟩:Blk)::C).length<1099511627776:=by rw[<- hn3,H4.out];omega
  have hic:((i+1:Nat):Int)=(i:Int)+1:=by omega
  have HINS:Hid (∀ g4 c4 w4,zcg w3.drew 9 (strs (ks.drop q)) (.slice (some ⟨g4,0,none⟩) (m+1-q) c4) w4 ->
    Calls Tryz.prog 240 #[.slice (some ⟨g,0,none⟩) n c,.int .i64 ((i:Int)+1),.slice (some ⟨w4.heap.size,0,none⟩) 1 1] (w4.alloc (.cells #[.slice (some ⟨g4,0,none⟩) (m+1-q) c4] 220))
     (zw8 (w4.alloc (.cells #[.slice (some ⟨g4,0,none⟩) (m+1-q) c4] 220)) 220 g (i+1) (n+1) (.slice (some ⟨g4,0,none⟩) (m+1-q) c4) ((A++(⟨g2,q,ks.take q⟩:Blk)::C).map Blk.val))):=fun g4 c4 w4 hC=>by
   have hr3:=hK3.row;rw[<- hn3]at hr3;have hg3:g<w3.heap.size:=hK3.lt g (by simp[kids,Value.ownBlock]);have h34:w3.heap.size<=w4.heap.size:=hC.fr.size;have:=zta (w4.alloc (.cells #[.slice (some ⟨g4,0,none⟩) (m+1-q) c4] 220)) g c (A++(⟨g2,q,ks.take q⟩:Blk)::C) w4.heap.size (.slice (some ⟨g4,0,none⟩) (m+1-q) c4) (i+1) hil
    (by rw[<- hn3];exact hr3.frame (fun j hj=>by simp[Value.ownBlock]at hj;subst hj;rw[heap_alloc_old w4 _ (by omega)];exact hC.fr.block _ hg3 id))
    (heap_alloc_new w4 _) (by omega) rfl hbn
   rw[<- hn3,hic]at this;refine this.mono fun e w' ⟨v,he,hI⟩ => ?_
   have hO:=hI.own;rw[List.length_map,<- hn3]at hO;obtain⟨g5,c5,rfl⟩:=hO.inv (by omega);exact⟨g5,c5,he,hI⟩
  have HB5:Hid (∀ g4 c4 w4 v5 w5,zcg w3.drew 9 (strs (ks.drop q)) (.slice (some ⟨g4,0,none⟩) (m+1-q) c4) w4 ->
    z9e (w4.alloc (.cells #[.slice (some ⟨g4,0,none⟩) (m+1-q) c4] 220)) 220 g (i+1) (.slice (some ⟨g4,0,none⟩) (m+1-q) c4) ((A++(⟨g2,q,ks.take q⟩:Blk)::C).map Blk.val) v5 w5 ->
    w5.cell? ⟨b,2,none⟩=some (.slice (some ⟨g,0,none⟩) n c)/\w5.frozen? ⟨b,2,none⟩=false):=fun g4 c4 w4 v5 w5 hC hI=>by
   have hb3:=z02 hh3;have h34:w3.heap.size<=w4.heap.size:=hC.fr.size;have h5:w5.heap[b]?=some (z1e true mv (.slice (some ⟨g,0,none⟩) n c) pv):=by
    rw[hI.fr.block b (by simp;omega) hbg,heap_alloc_old w4 _ (by omega),hC.fr.block b hb3 id];exact hh3
   obtain⟨_,_,h6,_,h7⟩:=z0q h5;exact⟨h6,h7 2⟩
  have HKL:=zh hkl;have HK3:=zh hK3;have HH3:=zh hh3;have HO3:=zh hO3;have HF3:=zh hF3;have HKS:=zh hks;clear hcl hkl hK3 hh3 hO3 hF3 hks hw3 hh2 hK hfz3;have HB4:Hid (∀ g4 c4 w4,zcg w3.drew 9 (strs (ks.drop q)) (.slice (some ⟨g4,0,none⟩) (m+1-q) c4) w4->w4.cell? ⟨b,2,none⟩=some (.slice (some ⟨g,0,none⟩) n c)/\(∀ o,(w4.alloc o).cell? ⟨b,2,none⟩=some (.slice (some ⟨g,0,none⟩) n c))/\b<w4.heap.size/\¬ b=w4.heap.size):=fun g4 c4 w4 hC=>by
   have h5:w4.heap[b]?=some (z1e true mv (.slice (some ⟨g,0,none⟩) n c) pv):=by
    rw[hC.fr.block b (z02 HH3.out) id];exact HH3.out
   have hlt:=z02 h5;exact⟨(z0q h5).2.2.1,fun o=>(z0q (by rw[heap_alloc_old w4 o hlt];exact h5)).2.2.1,hlt,by omega⟩
  have HEND:Hid (∀ g4 c4 w4 g5 c5 w5,zcg w3.drew 9 (strs (ks.drop q)) (.slice (some ⟨g4,0,none⟩) (m+1-q) c4) w4 ->
    z9e (w4.alloc (.cells #[.slice (some ⟨g4,0,none⟩) (m+1-q) c4] 220)) 220 g (i+1) (.slice (some ⟨g4,0,none⟩) (m+1-q) c4) ((A++(⟨g2,q,ks.take q⟩:Blk)::C).map Blk.val) (.slice (some ⟨g5,0,none⟩) (n+1) c5) w5 ->
    Keyed w b (.slice (some ⟨g,0,none⟩) n c) bs mv pv ((z01 bs).take (lb (z01 bs) k)++k::(z01 bs).drop (lb (z01 bs) k)) (w5.setCell ⟨b,2,none⟩ (.slice (some ⟨g5,0,none⟩) (n+1) c5))):=fun g4 c4 w4 g5 c5 w5 hC hI=>by
   have hsub:∀ j∈kids (.slice (some ⟨g,0,none⟩) n c) (A++(⟨g2,q,ks.take q⟩:Blk)::C),j∈kids (.slice (some ⟨g,0,none⟩) n c) bs\/w.heap.size<=j:=fun j hj=>by
    have hg2:=HG2.out;rw[H2.out];simp only[kids,List.map_append,List.map_cons,List.mem_append,List.mem_cons]at hj ⊢;rcases hj with h | h | h | h
    ·exact .inl (.inl h)
    ·exact .inl (.inr (.inl h))
    ·rcases hg2 with h2 | h2
     ·exact .inl (.inr (.inr (.inl (h.trans h2))))
     ·right;rw[h];omega
    ·exact .inl (.inr (.inr (.inr h)))
   have hbk3:b∉kids (.slice (some ⟨g,0,none⟩) n c) (A++(⟨g2,q,ks.take q⟩:Blk)::C):=fun hm=>by
    rcases hsub b hm with h | h
    ·exact hbk (by rw[<- H4.out];exact h)
    ·omega
   have hall:z01 (A++(⟨g2,q,ks.take q⟩:Blk)::(⟨g4,c4,ks.drop q⟩:Blk)::C)=(z01 bs).take (lb (z01 bs) k)++k::(z01 bs).drop (lb (z01 bs) k):=by
    have h1:=zak A C x k p (by rw[H6.out];exact zae _ _);rw[<- H2.out,H6.out,<- H1.out,<- H6.out,<- HKS.out]at h1;rw[h1,z0r,z0y,z0y,<- List.append_assoc (List.take q ks),List.take_append_drop]
   exact zpl HK3.out HH3.out hbk3 H5.out hC (by have:=HKL.out;simp;omega) (by
    intro h;have h1:=congrArg List.length h;have:=HKL.out;simp at h1
    omega) hI (by rw[hall];exact insert_sorted HK.out.srt H8.out) hall HF3.out hsub
  have HN3:=zh hn3;clear hn3 hil hbn hic
  go_region_with (first | (go_at_call 241;refine HC.out.mono ?_;rintro e w4 ⟨g4,c4,rfl,hC4⟩;obtain⟨hb24,hb24a,hb24b,hb24c⟩:=HB4.out _ _ _ hC4)|(go_at_call 240;refine(HINS.out _ _ _ hC4).mono ?_;rintro e w5 ⟨g5,c5,rfl,hI5⟩;obtain⟨hb25,hfz5⟩:=HB5.out _ _ _ _ _ hC4 hI5))
  all_goals
   go_returns
   exact⟨rfl,HEND.out _ _ _ _ _ _ hC4 hI5⟩
end Go.Proofs.YtnkilceibkkjlaaGreat
