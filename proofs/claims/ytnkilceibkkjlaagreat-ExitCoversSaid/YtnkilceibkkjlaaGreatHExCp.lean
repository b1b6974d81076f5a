/- What is proved here: ExitCovers' state in the world: the store, the three slices, the magnitude's row; behind each call of a round. Conditions: at most forty rounds. -/
import Derived.Test.YtnkilceibkkjlaaGreatHExCo
import Derived.Test.YtnkilceibkkjlaaGreatHExActA
import Derived.Test.YtnkilceibkkjlaaGreatHExEqB
set_option maxRecDepth 100000
set_option maxHeartbeats 16000000
namespace Go.Proofs.YtnkilceibkkjlaaGreat
open Go.RowKit
def idsV (n:Nat):List Value:=(List.range n).map fun i => .int .i64 ((i+1:Nat):Int)
def stsV (es:List CE):List Value:=es.map fun e => .int .i64 (e.st:Int)
def csV:List CE→List Value
 | [] => []
 | e :: es => .int .u64 e.c.1 :: .int .u64 e.c.2.1 :: .int .u64 e.c.2.2.1 :: .int .u64 e.c.2.2.2 :: csV es
theorem idsV_succ (n:Nat):idsV (n+1)=idsV n ++ [.int .i64 ((n+1:Nat):Int)]:=by
 unfold idsV
 rw [List.range_succ,List.map_append]; rfl
theorem idsV_at {n i:Nat} (h:i < n):(idsV n)[i]? = some (.int .i64 ((i+1:Nat):Int)):=by
 unfold idsV
 rw [List.getElem?_map,List.getElem?_range h]; rfl
theorem stsV_at {es:List CE} {i:Nat} {e:CE} (h:es[i]? = some e):(stsV es)[i]? = some (.int .i64 (e.st:Int)):=by
 unfold stsV
 rw [List.getElem?_map,h]; rfl
theorem stsV_append (es:List CE) (e:CE):stsV (es ++ [e])=stsV es ++ [.int .i64 (e.st:Int)]:=by
 unfold stsV
 rw [List.map_append]; rfl
theorem csV_append:∀ (es:List CE) (e:CE),csV (es ++ [e])=csV es ++ [.int .u64 e.c.1,.int .u64 e.c.2.1,.int .u64 e.c.2.2.1,.int .u64 e.c.2.2.2]
 | [],_=>rfl
 | x :: es,e=>by
  show _ :: _ :: _ :: _ :: csV (es ++ [e])=_
  rw [csV_append es e]; rfl
theorem csV_at:∀ {es:List CE} {i:Nat} {e:CE},es[i]? = some e→∀ (j:Nat) v,(uL e.c)[j]? = some v→(csV es)[i*4+j]? = some v
 | [],_,_,h,_,_,_=>by simp at h
 | x :: es,0,e,h,j,v,hj=>by
  simp only [List.getElem?_cons_zero,Option.some.injEq] at h
  subst h
  rw [Nat.zero_mul,Nat.zero_add]
  have hj4:j < 4:=(Array.getElem?_eq_some_iff.1 hj).1
  match j,hj4 with
  | 0,_=>exact hj
  | 1,_=>exact hj
  | 2,_=>exact hj
  | 3,_=>exact hj
 | x :: es,i+1,e,h,j,v,hj=>by
  have:=csV_at (es:=es) (i:=i) (by simpa using h) j v hj
  rw [show (i+1)*4+j=(i*4+j)+1+1+1+1 by omega]
  simpa [csV] using this
theorem csV_set:∀ {es:List CE} {i:Nat} {e:CE} (t:W4),es[i]? = some e→(((((csV es).set (i*4) (.int .u64 t.1)).set (i*4+1) (.int .u64 t.2.1)).set (i*4+2) (.int .u64 t.2.2.1)).set (i*4+3) (.int .u64 t.2.2.2))=csV (es.set i { e with c:=t })
 | [],_,_,_,h=>by simp at h
 | x :: es,0,e,t,h=>by
  simp only [List.getElem?_cons_zero,Option.some.injEq] at h
  subst h
  rfl
 | x :: es,i+1,e,t,h=>by
  have:=csV_set (es:=es) (i:=i) t (by simpa using h)
  rw [show (i+1)*4=i*4+1+1+1+1 by omega,show i*4+1+1+1+1+1=(i*4+1)+1+1+1+1 by omega,show i*4+1+1+1+1+2=(i*4+2)+1+1+1+1 by omega,show i*4+1+1+1+1+3=(i*4+3)+1+1+1+1 by omega]
  simp only [csV,List.set_cons_succ]
  rw [this]
def mixL (b d:Nat) (m:W4):Nat→List CE→List CE
 | 0,es=>es
 | _+1,[] => []
 | i+1,e :: es=>cCut b d m e :: mixL b d m i es
theorem mixL_len (b d:Nat) (m:W4):∀ (i:Nat) (es:List CE),(mixL b d m i es).length=es.length
 | 0,_=>rfl
 | _+1,[]=>rfl
 | i+1,_ :: es=>by
  show (mixL b d m i es).length+1=es.length+1
  rw [mixL_len b d m i es]
theorem mixL_all (b d:Nat) (m:W4):∀ (i:Nat) (es:List CE),es.length≤i→mixL b d m i es=es.map (cCut b d m)
 | 0,[],_=>rfl
 | 0,_ :: _,h=>by simp at h
 | _+1,[],_=>rfl
 | i+1,e :: es,h=>by
  show _ :: mixL b d m i es=_
  rw [mixL_all b d m i es (by simpa using h)]; rfl
theorem mixL_at (b d:Nat) (m:W4):∀ (i:Nat) (es:List CE),(mixL b d m i es)[i]? = es[i]?
 | 0,_=>rfl
 | _+1,[]=>rfl
 | i+1,e :: es=>by
  show (_ :: mixL b d m i es)[i+1]? = _
  rw [List.getElem?_cons_succ,List.getElem?_cons_succ,mixL_at b d m i es]
theorem mixL_succ (b d:Nat) (m:W4):∀ (i:Nat) (es:List CE) (e:CE),es[i]? = some e→mixL b d m (i+1) es=(mixL b d m i es).set i (cCut b d m e)
 | 0,[],_,h=>by simp at h
 | 0,x :: es,e,h=>by
  simp only [List.getElem?_cons_zero,Option.some.injEq] at h
  subst h; rfl
 | i+1,[],_,h=>by simp at h
 | i+1,x :: es,e,h=>by
  show _ :: mixL b d m (i+1) es=(_ :: mixL b d m i es).set (i+1) _
  rw [mixL_succ b d m i es e (by simpa using h)]; rfl
theorem mixL_sts (b d:Nat) (m:W4):∀ (i:Nat) (es:List CE),stsV (mixL b d m i es)=stsV es
 | 0,_=>rfl
 | _+1,[]=>rfl
 | i+1,e :: es=>by
  show Value.int .i64 ((cCut b d m e).st:Int) :: stsV (mixL b d m i es)=Value.int .i64 (e.st:Int) :: stsV es
  rw [mixL_sts b d m i es,(cCut_at b d m e).1]
theorem cvSetSelf {α:Type}:∀ {l:List α} {i:Nat} {e:α},l[i]? = some e→l.set i e=l
 | [],_,_,h=>by simp at h
 | x :: l,0,e,h=>by
  simp only [List.getElem?_cons_zero,Option.some.injEq] at h
  subst h; rfl
 | x :: l,i+1,e,h=>by
  show x :: l.set i e=_
  rw [cvSetSelf (by simpa using h)]
structure CL (wb:World) (q:Option Addr) (L:List Nat) (k b d:Nat) (m:W4) (ve vs vc:Value) (es ec:List CE) (s:St) (rs:List (Nat × Obj)) (W:World):Prop where
 ev:EV wb q L s ⟨3,1,ve,es.length,idsV es.length⟩ ⟨3,1,vs,es.length,stsV es⟩ ⟨24,4,vc,es.length,csV es⟩ rs W
 st:CvSt (2*k) 0 s ec
 mm:CvM s ec b d m
 fit:s.Fit (16*k)
 len:ec.length=es.length∧es.length≤k
 bl:b≤4*k
section
variable {wb W W':World} {q:Option Addr} {L:List Nat} {k b d:Nat} {m:W4} {ve vs vc:Value} {es ec:List CE} {s:St} {rs rs':List (Nat × Obj)}
theorem CL.to (h:CL wb q L k b d m ve vs vc es ec s rs W) (hv:EV wb q L s ⟨3,1,ve,es.length,idsV es.length⟩ ⟨3,1,vs,es.length,stsV es⟩ ⟨24,4,vc,es.length,csV es⟩ rs W→EV wb q L s ⟨3,1,ve,es.length,idsV es.length⟩ ⟨3,1,vs,es.length,stsV es⟩ ⟨24,4,vc,es.length,csV es⟩ rs' W'):CL wb q L k b d m ve vs vc es ec s rs' W' :=
 ⟨hv h.ev,h.st,h.mm,h.fit,h.len,h.bl⟩
theorem CL.below (h:CL wb q L k b d m ve vs vc es ec s rs W) (hb:Below W.heap.size W W'):CL wb q L k b d m ve vs vc es ec s rs W':=h.to fun h=>h.below hb
theorem CL.drew (h:CL wb q L k b d m ve vs vc es ec s rs W):CL wb q L k b d m ve vs vc es ec s rs W.drew:=h.to fun h=>h.drew
theorem CL.alloc (h:CL wb q L k b d m ve vs vc es ec s rs W) (o:Obj):CL wb q L k b d m ve vs vc es ec s ((W.heap.size,o) :: rs) (W.alloc o):=h.to fun h=>h.alloc o
theorem CL.less (h:CL wb q L k b d m ve vs vc es ec s rs W) (hs:∀ x,x∈rs'→x∈rs):CL wb q L k b d m ve vs vc es ec s rs' W:=h.to fun h=>h.less hs
theorem CL.row (h:CL wb q L k b d m ve vs vc es ec s rs W) {g:Nat} {o:Obj} (hm:(g,o)∈rs):W.heap[g]? = some o:=h.ev.row hm
theorem CL.lt (h:CL wb q L k b d m ve vs vc es ec s rs W) {g:Nat} {o:Obj} (hm:(g,o)∈rs):g < W.heap.size:=lt_of_at (h.row hm)
theorem CL.reads (h:CL wb q L k b d m ve vs vc es ec s rs W) {f:FuncId} {args:Array Value} {v:Value} (hC:Calls Tryz.prog f args W fun e W'=>e = .returned v∧Below W.heap.size W W'):Calls Tryz.prog f args W fun e W'=>e = .returned v∧CL wb q L k b d m ve vs vc es ec s rs W' :=
 hC.mono fun _ _ ⟨he,hb⟩=>⟨he,h.below hb⟩
theorem CL.put4 (h:CL wb q L k b d m ve vs vc es ec s rs W) {g:Nat} {y:W4} (x:W4) (hm:(g,uO y)∈rs) (qs:List (Nat × Obj)) (hqs:∀ x,x∈qs→x∈rs∧x.1≠g) :
  CL wb q L k b d m ve vs vc es ec s ((g,uO x) :: qs) ((((W.setCell ⟨g,0,none⟩ (.int .u64 x.1)).setCell ⟨g,1,none⟩ (.int .u64 x.2.1)).setCell ⟨g,2,none⟩ (.int .u64 x.2.2.1)).setCell ⟨g,3,none⟩ (.int .u64 x.2.2.2)):=h.to fun h=>h.put4 x hm qs hqs
theorem CL.next (h:CL wb q L k b d m ve vs vc es ec s rs W):CL wb q L (k+1) b d m ve vs vc es ec s rs W :=
 ⟨h.ev,⟨h.st.g.more (by omega),h.st.cnt,h.st.ex,h.st.non,h.st.cv⟩,h.mm,h.fit.mono (by omega),⟨h.len.1,by have:=h.len.2; omega⟩,by have:=h.bl; omega⟩
theorem CL.later (h:CL wb q L k b d m ve vs vc es es s rs W) {x:Nat} (hx:x≤4):CL wb q L (k+1) (b+x) d m ve vs vc es (es.map (cCut (b+x) d m)) s rs W:=by
 have hm:=h.mm.later (b':=b+x) (by omega)
 have h2:=h.next
 rw [hm.id]
 exact ⟨h2.ev,h2.st,hm,h2.fit,h2.len,by have:=h.bl; omega⟩
theorem CL.add (h:CL wb q L k b d m ve vs vc es es s rs W) (hk:k≤40) {a:W4} (ha:a.Ok) :
  Calls Tryz.prog 37 #[.pointer q,.agg (CE.ex ⟨b,a,m,m⟩ es.length).L] W fun e W'=>∃ n er:Int,e = .returned (.tuple #[.int .i64 n,.int .i64 er])∧((er≠0∧CL wb q L (k+1) b d m ve vs vc es es s rs W') ∨
   (er=0∧n=((es.length+1:Nat):Int)∧∃ s',EV wb q L s' ⟨3,1,ve,es.length,idsV es.length⟩ ⟨3,1,vs,es.length,stsV es⟩ ⟨24,4,vc,es.length,csV es⟩ rs W'∧CvSt (2*(k+1)) 0 s' (es ++ [⟨b,a,m,m⟩])∧CvM s' (es ++ [⟨b,a,m,m⟩]) b d m∧s'.Fit (16*(k+1)))):=by
 have hlen:=h.len.2
 have hbl:=h.bl
 have hxo:(CE.ex ⟨b,a,m,m⟩ es.length).Ok:=⟨show I63 ((1+es.length / 8:Nat):Int) from i63_lt (by omega),(by show I63 9; unfold I63; omega),(by show I63 1; unfold I63; omega),show I63 (b:Int) from i63_lt (by omega),ha,h.mm.mo⟩
 have hC:=h.ev.call (s':=(⟨q,true,[]⟩:Hand).xadSt s (CE.ex ⟨b,a,m,m⟩ es.length)) (f:=37) (args:=#[.pointer q,.agg (CE.ex ⟨b,a,m,m⟩ es.length).L]) (v:=.tuple #[.int .i64 ((⟨q,true,[]⟩:Hand).xadN s (CE.ex ⟨b,a,m,m⟩ es.length)),.int .i64 (xadE s (CE.ex ⟨b,a,m,m⟩ es.length))]) fun L' hq=>xadd_q W ⟨q,true,L'⟩ s (16*k) _ rfl hxo hq h.fit (by omega) (by have:=h.st.g.hlen' hxo.op hxo.sg; omega)
  (fun hgd=>by have:=(h.st.g.ad26 (h:=⟨q,true,L'⟩) (by omega) hxo hgd).1.cnt; exact Nat.lt_of_le_of_lt this (by omega)) (fun hgd=>by have:=(h.st.g.ad26 (h:=⟨q,true,L'⟩) (by omega) hxo hgd).2.op' hxo.st; exact Nat.lt_of_le_of_lt this (by omega))
 refine hC.mono fun e W' ⟨he,hv⟩=>⟨_,_,he,?_⟩
 by_cases hE:xadE s (CE.ex ⟨b,a,m,m⟩ es.length)=0
 ·obtain ⟨c1,c2,c3⟩:=CvSt.add (h:=⟨q,true,[]⟩) rfl h.st h.mm (by omega) (by omega) (by omega) ha hE
  exact .inr ⟨hE,c1,_,hv,(by rw [show 2*(k+1)=2*k+2 by omega]; exact c2),c3,(by rw [show 16*(k+1)=16*k+16 by omega]; exact Hand.xadSt_fit h.fit _)⟩
 ·refine .inl ⟨hE,?_⟩
  have hs:(⟨q,true,[]⟩:Hand).xadSt s (CE.ex ⟨b,a,m,m⟩ es.length)=s:=by unfold Hand.xadSt; rw [if_neg hE]
  rw [hs] at hv
  exact (h.to fun _=>hv).next
theorem CL.grew {es:List CE} {e:CE} {s':St} (hv:EV wb q L s' ⟨3,1,ve,es.length+1,idsV es.length ++ [.int .i64 ((es.length+1:Nat):Int)]⟩ ⟨3,1,vs,es.length+1,stsV es ++ [.int .i64 (e.st:Int)]⟩ ⟨24,4,vc,es.length+1,csV es ++ [.int .u64 e.c.1,.int .u64 e.c.2.1,.int .u64 e.c.2.2.1,.int .u64 e.c.2.2.2]⟩ rs W)
  (h1:CvSt (2*(k+1)) 0 s' (es ++ [e])) (h2:CvM s' (es ++ [e]) b d m) (h3:s'.Fit (16*(k+1))) (hl:es.length≤k) (hb:b≤4*k):CL wb q L (k+1) b d m ve vs vc (es ++ [e]) ((es ++ [e]).map (cCut b d m)) s' rs W:=by
 rw [h2.id]
 have hn:(es ++ [e]).length=es.length+1:=by rw [List.length_append]; rfl
 refine ⟨?_,h1,h2,h3,⟨rfl,by omega⟩,by omega⟩
 rw [hn,idsV_succ,stsV_append,csV_append]
 exact hv
theorem CL.cut (h:CL wb q L k b d m ve vs vc es es s rs W) (hk:k≤40) {tq:W4} (hto:tq.Ok) (hle:uN tq≤uN m) (hpos:1≤uN tq) :
  Calls Tryz.prog 40 #[.pointer q,.int .i64 9,.int .i64 1,.int .i64 b,.int .i64 d,uV tq,uV m] W fun e W'=>∃ u:W4,e = .returned (.tuple #[uV u,.int .i64 0])∧∃ s',CL wb q L (k+1) b d tq ve vs vc es (es.map (cCut b d tq)) s' rs W':=by
 have hbl:=h.bl
 have i9:I63 9:=by unfold I63; omega
 have i1:I63 1:=by unfold I63; omega
 obtain ⟨c1,c2,c3⟩:=CvSt.cut (h:=⟨q,true,[]⟩) rfl h.st h.mm hto hle hpos
 have hSL:∀ W2 L',QSt W2 ⟨q,true,L'⟩ s→Calls Tryz.prog 46 #[.pointer q,.int .i64 9,.int .i64 1,.int .i64 b,.int .i64 d] W2 fun e w'=>e = .returned (uV (s.slash 9 1 b d))∧Below W2.heap.size W2 w':=fun W2 L' h2 =>
  xslash_q W2 ⟨q,true,L'⟩ s (16*k) 9 1 b d i9 i1 (i63_lt (by omega)) h2 h.fit (by omega) (by have:=h.st.g.hlen' i9 i1; omega)
 have hC:=h.ev.call (s':=(⟨q,true,[]⟩:Hand).cutX s (s.slash 9 1 b d) 9 1 b d tq m) (f:=40) (args:=#[.pointer q,.int .i64 9,.int .i64 1,.int .i64 b,.int .i64 d,uV tq,uV m]) fun L' hq=>xcut_q W ⟨q,true,L'⟩ s (16*k) 9 1 b d tq m (s.slash 9 1 b d) i1 hto h.mm.mo (slash_ok _ _ _ _ _) hSL hq h.fit (by omega)
 rw [c1] at hC
 refine hC.mono fun e W' h2 => ?_
 obtain ⟨he,hv⟩:=h2
 refine ⟨xcutA s (s.slash 9 1 b d) 9 1 b d tq m,he,(⟨q,true,[]⟩:Hand).cutX s (s.slash 9 1 b d) 9 1 b d tq m,?_⟩
 exact ⟨hv,⟨c2.g.more (by omega),c2.cnt,c2.ex,c2.non,c2.cv⟩,c3,(by rw [show 16*(k+1)=16*k+16 by omega]; exact Hand.cutX_fit h.fit _ _ _ _ _ _ _),⟨by rw [List.length_map],by have:=h.len.2; omega⟩,by omega⟩
theorem CL.mixN {n:Nat} (hn:es.length≤n) (h:CL wb q L k b d m ve vs vc (mixL b d m n es) (es.map (cCut b d m)) s rs W):CL wb q L k b d m ve vs vc (es.map (cCut b d m)) (es.map (cCut b d m)) s rs W:=by
 rw [mixL_all b d m n es hn] at h; exact h
theorem CL.skip {i:Nat} {e:CE} (h:CL wb q L k b d m ve vs vc (mixL b d m i es) ec s rs W) (he:es[i]? = some e) (hb:¬ b≤e.st+d):CL wb q L k b d m ve vs vc (mixL b d m (i+1) es) ec s rs W:=by
 have e1:cCut b d m e=e:=by unfold cCut; rw [if_neg hb]
 rw [mixL_succ b d m i es e he,e1,cvSetSelf (by rw [mixL_at]; exact he)]
 exact h
theorem CL.mark {i g:Nat} {e:CE} (h:CL wb q L k b d m ve vs vc (mixL b d m i es) ec s rs W) (he:es[i]? = some e) (hb:b≤e.st+d) (hg:vc.ownBlock=some g) :
  CL wb q L k b d m ve vs vc (mixL b d m (i+1) es) ec s rs ((((W.setCell ⟨g,i*4,none⟩ (.int .u64 m.1)).setCell ⟨g,i*4+1,none⟩ (.int .u64 m.2.1)).setCell ⟨g,i*4+2,none⟩ (.int .u64 m.2.2.1)).setCell ⟨g,i*4+3,none⟩ (.int .u64 m.2.2.2)):=by
 have he2:(mixL b d m i es)[i]? = some e:=by rw [mixL_at]; exact he
 have e1:cCut b d m e = { e with c:=m }:=by unfold cCut; rw [if_pos hb]
 have hl1:=mixL_len b d m (i+1) es
 have hl0:=mixL_len b d m i es
 have hv:=(h.ev.rot.set4 hg (i*4) (.int .u64 m.1) (.int .u64 m.2.1) (.int .u64 m.2.2.1) (.int .u64 m.2.2.2)).rot.rot
 dsimp only at hv
 rw [csV_set m he2] at hv
 have hs:=mixL_sts b d m
 refine ⟨?_,h.st,h.mm,h.fit,⟨by rw [hl1,← hl0]; exact h.len.1,by rw [hl1,← hl0]; exact h.len.2⟩,h.bl⟩
 rw [hl1,← hl0,hs (i+1) es,← hs i es,mixL_succ b d m i es e he,e1]
 exact hv
end
theorem Own.form2 {W:World} {e:TypeId} {sz:Nat} {v:Value} {n:Nat} {xs:List Value} (h:Own W e sz v n xs):(n=0∧v = .slice none 0 0)∨∃ g c,v = .slice (some ⟨g,0,none⟩) n c∧v.ownBlock=some g∧(∀ j u,xs[j]? = some u→W.cell? ⟨g,j,none⟩=some u)∧∀ j,W.frozen? ⟨g,j,none⟩=false:=by
 have hc:=fun g hg=>h.cells (g:=g) hg
 rcases h.2 with ⟨rfl,rfl⟩ | ⟨g,cap,cur,rfl,hg,_⟩
 ·exact .inl ⟨rfl,rfl⟩
 ·refine .inr ⟨g,cap,rfl,rfl,fun j u hu => ?_,fun j=>frozen_of_row _ _ _ _ _ hg⟩
  have:=hc g rfl j u hu
  rw [Addr.add_lit,Nat.zero_add] at this
  exact this
theorem CL.cov {wb W:World} {q:Option Addr} {L:List Nat} {k b d:Nat} {m:W4} {ve vs vc:Value} {es:List CE} {s:St} {rs:List (Nat × Obj)} (h:CL wb q L k b d m ve vs vc es es s rs W) (hk:k≤41) :
  Calls Tryz.prog 41 #[.pointer q,ve,vc] W fun e W'=>e = .returned (.bool true)∧CL wb q L k b d m ve vs vc es es s rs W':=by
 obtain ⟨L',hq⟩:=h.ev.st
 have hlen:=h.len.2
 have fe:=Own.form2 h.ev.fa
 have fc:=Own.form2 h.ev.fc
 dsimp only at fe fc
 have he:∃ ae ce,ve = .slice ae es.length ce∧∀ i,i < es.length→∃ ad,ae=some ad∧W.cell? (ad.add i)=some (.int .i64 ((i+1:Nat):Int)):=by
  rcases fe with ⟨e0,e1⟩ | ⟨g,c,e1,_,hc,_⟩
  ·exact ⟨none,0,by rw [e0]; exact e1,fun i hi=>absurd hi (by omega)⟩
  ·refine ⟨_,c,e1,fun i hi=>⟨_,rfl,?_⟩⟩
   rw [Addr.add_lit,Nat.zero_add]
   exact hc i _ (idsV_at hi)
 have hcc:∃ ac cc,vc = .slice ac es.length cc∧∀ i e,es[i]? = some e→∃ ad,ac=some ad∧∀ j v,(uL e.c)[j]? = some v→W.cell? ((ad.add (i*4)).add j)=some v:=by
  rcases fc with ⟨e0,e1⟩ | ⟨g,c,e1,_,hc,_⟩
  ·exact ⟨none,0,by rw [e0]; exact e1,fun i e hi=>absurd (List.getElem?_eq_some_iff.1 hi).1 (by omega)⟩
  ·refine ⟨_,c,e1,fun i e hi=>⟨_,rfl,fun j v hj => ?_⟩⟩
   rw [Addr.add_lit,Addr.add_lit,Nat.zero_add]
   exact hc _ _ (csV_at hi j v hj)
 obtain ⟨ae,ce,rfl,hE⟩:=he
 obtain ⟨ac,cc,rfl,hC⟩:=hcc
 exact h.reads (covered_any W ⟨q,true,L'⟩ s (16*k) (2*k) b es hq h.fit (by omega) h.st h.mm.ok (by omega) ae ac ce cc hE hC)
structure CD (wb:World) (q:Option Addr) (L:List Nat) (k j b:Nat) (ve vs vc:Value) (es:List CE) (s:St) (W:World):Prop where
 ev:EV wb q L s ⟨3,1,ve,es.length,idsV es.length⟩ ⟨3,1,vs,es.length,stsV es⟩ ⟨24,4,vc,es.length,csV es⟩ [] W
 st:CvSt (2*k) j s es
 ok:∀ e∈es,e.Ok b
 fit:s.Fit (16*k+10*j)
theorem CD.begin {wb W:World} {q:Option Addr} {L:List Nat} {k b d:Nat} {m:W4} {ve vs vc:Value} {es:List CE} {s:St} {rs:List (Nat × Obj)} (h:CL wb q L k b d m ve vs vc es es s rs W):CD wb q L k 0 b ve vs vc es s W :=
 ⟨h.ev.less (fun x hx=>by cases hx),h.st,h.mm.ok,h.fit⟩
section
variable {wb W W':World} {q:Option Addr} {L:List Nat} {k j b:Nat} {ve vs vc:Value} {es:List CE} {s:St}
theorem CD.below (h:CD wb q L k j b ve vs vc es s W) (hb:Below W.heap.size W W'):CD wb q L k j b ve vs vc es s W':=⟨h.ev.below hb,h.st,h.ok,h.fit⟩
theorem CD.done (h:CD wb q L k j b ve vs vc es s W) (hk:k≤41) (hl:es.length≤41) {e:CE} (he:es[j]? = some e) :
  Calls Tryz.prog 42 #[.pointer q,.int .i64 ((j+1:Nat):Int),uV e.c] W fun e' W'=>∃ u:W4,e' = .returned (.tuple #[uV u,.int .i64 0])∧∃ s',CD wb q L k (j+1) b ve vs vc es s' W':=by
 have hj:=(List.getElem?_eq_some_iff.1 he).1
 have ok:=h.ok e (List.mem_of_getElem? he)
 obtain ⟨c1,c2⟩:=CvSt.done (h:=⟨q,true,[]⟩) rfl h.st (by omega) he ok
 have hC:=h.ev.call (s':=(⟨q,true,[]⟩:Hand).dnSt s ((j+1:Nat):Int) e.c) (f:=42) (args:=#[.pointer q,.int .i64 ((j+1:Nat):Int),uV e.c]) fun L' hq=>xdone_q W ⟨q,true,L'⟩ s (16*k+10*j) ((j+1:Nat):Int) e.c rfl (i63_lt (by omega)) ok.c hq h.fit (by omega)
 rw [c1] at hC
 refine hC.mono fun e' W' h2 => ?_
 obtain ⟨he',hv⟩:=h2
 refine ⟨xdnW s ((j+1:Nat):Int) e.c,he',(⟨q,true,[]⟩:Hand).dnSt s ((j+1:Nat):Int) e.c,?_⟩
 exact ⟨hv,c2,h.ok,by rw [show 16*k+10*(j+1)=16*k+10*j+10 by omega]; exact Hand.dnSt_fit h.fit _ _⟩
theorem CD.all (h:CD wb q L k es.length b ve vs vc es s W) (hk:k≤41) (hl:es.length≤41) :
  Calls Tryz.prog 43 #[.pointer q] W fun e' W'=>∃ a c,e' = .returned (.slice a 0 c)∧CD wb q L k es.length b ve vs vc es s W':=by
 obtain ⟨L',hq⟩:=h.ev.st
 have:=xall_q W ⟨q,true,L'⟩ s (16*k+10*es.length) hq h.fit (by omega) (fun x hx=>Nat.lt_of_le_of_lt (h.st.g.b.keys x hx) (by decide))
 refine this.mono fun e' W' h2 => ?_
 obtain ⟨v,he,ho,hb⟩:=h2
 rw [h.st.none pAll] at ho
 have ho2:Own W' 3 1 v 0 []:=Own.of_owns ho
 obtain ⟨a,c,hv,_⟩:=Own.form ho2
 exact ⟨a,c,by rw [he,hv],h.below hb⟩
end
end Go.Proofs.YtnkilceibkkjlaaGreat
