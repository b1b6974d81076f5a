/- What is proved here: laws on memory that name no program: -/
import Derived.Test.YtnkilceibkkjlaaGreatRows
import Derived.WalkKit
import Derived.Handy
import Derived.WalkLawsBesides
import Derived.WalkSpells
import Derived.Deep.QuietTactic
import Derived.BigQuiet
import Derived.Lib.Hide
import Derived.Deep.RegionLaw
import Derived.Laws.CopyOwn
import Derived.StillTailTactics
import Derived.Deep.RegionHeld3
import Derived.Deep.DeepCutAuto
import Derived.Deep.DeepFit
import Derived.Deep.DeepMust
set_option maxRecDepth 100000
set_option maxHeartbeats 16000000
namespace Go.Proofs.YtnkilceibkkjlaaGreat
open Go.RowKit
theorem zh{p : Prop}(h : p) : RowKit.Hid p := h
theorem zb{B : Nat}{w : World} : Below B w w := Below.refl B w
theorem zm{P : Program}{f : FuncId}{args : Array Value}{w : World}{R R' : Ending -> World -> Prop}(h : Calls P f args w R)(hr : ∀ e w', R e w' -> R' e w') : Calls P f args w R' := h.mono hr
theorem zk2{a b:Bool}(h:a=b):Ending.returned (.bool a)= .returned (.bool b):=by rw[h]
theorem zvz{k:IntKind}{a b:Int}(h:a=b):Ending.returned (.int k a)= .returned (.int k b):=by rw[h]
theorem zis{a b:ByteArray}(h:a=b):Ending.returned (.string a)= .returned (.string b):=by rw[h]
structure Fr (S:Nat->Prop) (w w':World):Prop where
 os:w'.os=w.os
 tape:w'.tape=w.tape
 output:w'.output=w.output
 size:w.heap.size<=w'.heap.size
 block:∀ k,k<w.heap.size->¬ S k->w'.heap[k]?=w.heap[k]?
theorem Fr.refl(S:Nat->Prop)(w:World):Fr S w w:=⟨rfl,rfl,rfl,Nat.le_refl _,fun _ _ _=>rfl⟩
theorem Fr.trans{S S1:Nat->Prop}{w w1 w2:World}(h:Fr S w w1)(h1:Fr S1 w1 w2)(hs:∀ k,k<w.heap.size->S1 k->S k):Fr S w w2:=
 ⟨h1.os.trans h.os,h1.tape.trans h.tape,h1.output.trans h.output,Nat.le_trans h.size h1.size,
  fun k hk hn=>(h1.block k (Nat.lt_of_lt_of_le hk h.size) (fun e=>hn (hs k hk e))).trans (h.block k hk hn)⟩
theorem Fr.mono{S S1:Nat->Prop}{w w':World}(h:Fr S w w')(hs:∀ k,k<w.heap.size->S k->S1 k):Fr S1 w w':=
 ⟨h.os,h.tape,h.output,h.size,fun k hk hn=>h.block k hk (fun e=>hn (hs k hk e))⟩
theorem Fr.alloc{S:Nat->Prop}{w w1:World}(h:Fr S w w1)(o:Obj):Fr S w (w1.alloc o):=
 h.trans (S1:=fun _=>False) ⟨rfl,rfl,rfl,by simp,fun k hk _=>heap_alloc_old _ _ hk⟩ (fun _ _ e=>e.elim)
theorem Fr.drew{S:Nat->Prop}{w w1:World}(h:Fr S w w1):Fr S w w1.drew:=⟨h.os,h.tape,h.output,h.size,h.block⟩
theorem Fr.setCell{S:Nat->Prop}{w w1:World}(h:Fr S w w1)(a:Addr)(v:Value)(ha:w.heap.size<=a.block\/S a.block):Fr S w (w1.setCell a v):=
 h.trans (S1:=fun k=>k=a.block) ⟨rfl,rfl,rfl,by simp[World.setCell],fun k _ hn=>Below.heap_setCell _ _ _ _ hn⟩
  (fun k hk e=>by subst e;rcases ha with ha | ha;omega;exact ha)
theorem Fr.setRow{S:Nat->Prop}{w w1:World}(h:Fr S w w1)(g:Nat)(cs:Array Value)(ha:w.heap.size<=g\/S g):Fr S w (w1.setRow g cs):=
 h.trans (S1:=fun k=>k=g) ⟨rfl,rfl,rfl,by simp,fun k _ hn=>setRow_other _ _ _ _ hn⟩
  (fun k hk e=>by subst e;rcases ha with ha | ha;omega;exact ha)
theorem Fr.grown{S:Nat->Prop}{w w1 w2:World}{row:Option Nat}(h:Fr S w w1)(hg:w1.grownBy w2 row)(hr:∀ k,row=some k->w.heap.size<=k\/S k):Fr S w w2:=
 h.trans (S1:=fun k=>row=some k) ⟨hg.os,hg.tape,hg.output,hg.size,fun k hk hn=>hg.block k hk (fun e=>hn e.symm)⟩
  (fun k hk e=>by rcases hr k e with h | h;omega;exact h)
theorem Fr.below{w w':World}(h:Fr (fun _=>False) w w'):Below w.heap.size w w':=
 ⟨h.os,h.tape,h.output,h.size,fun k hk=>h.block k hk (fun e=>e)⟩
theorem Fr.of_below{w w':World}(h:Below w.heap.size w w')(S:Nat->Prop):Fr S w w':=
 ⟨h.os,h.tape,h.output,h.size,fun k hk _=>h.block k hk⟩
theorem Fr.cell{S:Nat->Prop}{w w':World}(h:Fr S w w'){b o:Nat}{v:Value}(hc:w.cell? ⟨b,o,none⟩=some v)(hn:¬ S b):w'.cell? ⟨b,o,none⟩=some v:=by
 have hb:b<w.heap.size:=World.block_lt_of_cell? w ⟨b,o,none⟩ hc;rw[World.cell?_of_block (w:=w) (a:=⟨b,o,none⟩) (h.block b hb hn)];exact hc
theorem Fr.at{S:Nat->Prop}{w w':World}(h:Fr S w w'){b:Nat}{o:Obj}(hc:w.heap[b]?=some o)(hn:¬ S b):w'.heap[b]?=some o:=by
 rw[h.block b (Array.getElem?_eq_some_iff.1 hc).1 hn];exact hc
theorem z02{w:World}{b:Nat}{o:Obj}(hc:w.heap[b]?=some o):b<w.heap.size:=(Array.getElem?_eq_some_iff.1 hc).1
def Own(w:World)(e:TypeId)(size:Nat)(v:Value)(n:Nat)(xs:List Value):Prop:=
  xs.length=n*size /\
  ((v= .slice none 0 0/\n=0) \/
   ∃ g cap cur,v= .slice (some ⟨g,0,none⟩) n cap/\w.heap[g]?=some (.cells cur e (0,0))/\n<=cap/\cap<=maxLen/\cap*size<=cur.size/\cur.toList.take (n*size)=xs)
theorem Own.nil(w:World)(e:TypeId)(size:Nat):Own w e size (.slice none 0 0) 0 []:=⟨by simp,.inl ⟨rfl,rfl⟩⟩
theorem Own.lt{w:World}{e:TypeId}{size:Nat}{v:Value}{n:Nat}{xs:List Value}(h:Own w e size v n xs):∀ k,v.ownBlock=some k->k<w.heap.size:=by
 intro k hk;rcases h.2 with⟨rfl,_⟩ | ⟨g,cap,cur,rfl,hg,_⟩
 ·simp[Value.ownBlock]at hk
 ·simp[Value.ownBlock]at hk;subst hk;exact z02 hg
theorem Own.frame{w w':World}{e:TypeId}{size:Nat}{v:Value}{n:Nat}{xs:List Value}(h:Own w e size v n xs)(hb:∀ k,v.ownBlock=some k->w'.heap[k]?=w.heap[k]?):Own w' e size v n xs:=by
 refine⟨h.1,?_⟩;rcases h.2 with hn | ⟨g,cap,cur,rfl,hg,rest⟩
 ·exact .inl hn
 ·exact .inr ⟨g,cap,cur,rfl,by rw[hb g rfl];exact hg,rest⟩
theorem Own.fr{S:Nat->Prop}{w w':World}{e:TypeId}{size:Nat}{v:Value}{n:Nat}{xs:List Value}(h:Own w e size v n xs)(hf:Fr S w w')(hn:∀ k,v.ownBlock=some k->¬ S k):Own w' e size v n xs:=
 h.frame fun k hk=>hf.block k (h.lt k hk) (hn k hk)
theorem Own.cells{w:World}{e:TypeId}{size:Nat}{v:Value}{n:Nat}{xs:List Value}(h:Own w e size v n xs){g:Nat}(hg:v.ownBlock=some g):∀ j u,xs[j]?=some u->w.cell? ((⟨g,0,none⟩:Addr).add j)=some u:=by
 intro j u hu;rcases h.2 with⟨rfl,_⟩ | ⟨g',cap,cur,rfl,hgg,_,_,_,htake⟩
 ·simp[Value.ownBlock]at hg
 ·simp[Value.ownBlock]at hg;subst hg;rw[Addr.add_lit,cell_of_row w g' (0+j) cur e (0,0) hgg];rw[<- htake,List.getElem?_take]at hu;split at hu
  ·simpa using hu
  ·cases hu
theorem Own.whole{w:World}{e:TypeId}{size:Nat}{g n:Nat}{xs:List Value}(hl:xs.length=n*size)(hg:w.heap[g]?=some (.cells xs.toArray e (0,0)))(hm:n<=maxLen):Own w e size (.slice (some ⟨g,0,none⟩) n n) n xs:=
 ⟨hl,.inr ⟨g,n,xs.toArray,rfl,hg,Nat.le_refl _,hm,by simp[hl],by simp[<- hl]⟩⟩
section
variable {P:Program} (w:World)
theorem zdt(t t2 ty e:TypeId)(i:TypeInfo)(z:Value)(size bytes:Nat)(ht:P.underlying t=some (.slice e))(ht2:P.underlying t2=some (.slice e))(hi:P.info? e=some i)(hz:i.zero=some z)
  (hsize:i.size=size) (hby:i.bytes=bytes) (hzs:z.cells.size=size) (hsz:0<size)
  (v:Value) (n:Nat) (xs:List Value) (hown:Own w e size v n xs)
  (a:Addr) (m c:Nat) (news:List Value) (hl:news.length=m*size) (hnews:∀ j u,news[j]?=some u->w.cell? (a.add j)=some u) (h1:∀ u∈news,u.oneCell'=true)
  (h63:n+m<=maxLen) (hbytes:(n+m)*bytes<=140737488355328) :
  ∃ v' w',(Builtin.append_ #[t,t2] ty #[v,.slice (some a) m c]).run P w= .ok v' w'/\Own w' e size v' (n+m) (xs++news)/\w.grownBy w' v.ownBlock /\
   (v' = .slice none 0 0↔v= .slice none 0 0/\m=0)/\(∀ k,v'.ownBlock=some k->v.ownBlock=some k\/w.heap.size<=k):=by
 have e12:∀ x l k,(Builtin.append_ #[t,t2] ty #[.slice x l k,.slice (some a) m c]).run P w=(Builtin.append_ #[t,t] ty #[.slice x l k,.slice (some a) m c]).run P w:=by
  intro x l k;simp[Builtin.append_,run_underlying ht,run_underlying ht2]
 subst hsize;subst hby;have hsmall:n+m<=9223372036854775807:=by simp only[maxLen]at h63;omega
 have hlen:(xs++news).length=(n+m)*i.size:=by rw[List.length_append,hown.1,hl,Nat.add_mul]
 have grown:∀ (old:Nat),old<n+m->∀ (row:Option Nat),
   Own (w.drew.alloc (.cells (xs.toArray++news.toArray++Builtin.zeroCells z.cells (grownCap w (n+m) old e-(n+m))) e)) e i.size
    (.slice (some ⟨w.heap.size,0,none⟩) (n+m) (grownCap w (n+m) old e)) (n+m) (xs++news) /\
   w.grownBy (w.drew.alloc (.cells (xs.toArray++news.toArray++Builtin.zeroCells z.cells (grownCap w (n+m) old e-(n+m))) e)) row:=by
  intro old ho row;have hge:=grownCap_ge w (n+m) old e;have hcm:grownCap w (n+m) old e<=maxLen:=grownCap_le_maxLen w (n+m) old e h63;refine⟨⟨hlen,.inr ⟨w.heap.size,_,_,rfl,heap_alloc_new w.drew _,hge,hcm,?_,?_⟩⟩,⟨rfl,rfl,rfl,by simp,fun k hk _=>heap_alloc_old w.drew _ hk⟩⟩
  ·simp only[Array.size_append,List.size_toArray,size_zeroCells,hzs,hown.1,hl,<- Nat.add_mul];apply Nat.le_of_eq;congr 1;omega
  ·simp only[Array.toList_append,List.append_assoc];rw[<- List.append_assoc,<- hlen];exact List.take_left
 rcases hown.2 with⟨rfl,rfl⟩ | ⟨g,cap,cur,rfl,hg,hnc,hcm,hcs,htake⟩
 ·have hx:xs = []:=List.eq_nil_of_length_eq_zero (by simpa using hown.1);subst hx
  by_cases hm:m=0
  ·subst hm;have hn:news = []:=List.eq_nil_of_length_eq_zero (by simpa using hl);subst hn;simp only[e12];refine⟨.slice none 0 0,w,?_,Own.nil w e i.size,⟨rfl,rfl,rfl,Nat.le_refl _,fun _ _ _=>rfl⟩,by simp,by simp[Value.ownBlock]⟩;simp[Builtin.append_,run_underlying ht,sizeOf,typeInfo,hi,Builtin.lenOf,Builtin.firstCells,loadCells,loadCellsFrom]
  ·have hr:=run_append_nil (P:=P) w t ty e i z ht hi hz a m c news hl hnews (by omega) (by omega) (by have hb:=hbytes;simp only[Nat.zero_add]at hb;omega);have hgr:=grown 0 (by omega) (Value.ownBlock (.slice none 0 0));simp only[Nat.zero_add,List.nil_append,Array.empty_append]at hgr ⊢;simp only[e12];exact⟨_,_,hr,hgr.1,hgr.2,by simp[hm],by simp[Value.ownBlock]⟩
 ·by_cases hroom:n+m<=cap
  ·have hfit:n*i.size+news.length<=cur.size:=by rw[hl,<- Nat.add_mul];exact Nat.le_trans (Nat.mul_le_mul_right _ hroom) hcs
   have hr:=run_append_room (P:=P) w t ty e i ht hi g n cap cur hg a m c news hl hnews h1 hroom hfit;simp only[e12];refine⟨_,_,hr,⟨hlen,.inr ⟨g,cap,_,rfl,setRow_heap w g cur _ e _ hg,hroom,hcm,?_,?_⟩⟩,⟨rfl,rfl,rfl,by simp,fun k _ hk=>setRow_other w g k _ (fun e=>hk (by simp[Value.ownBlock,e]))⟩,by simp,by simp[Value.ownBlock]⟩
   ·simp only[List.size_toArray,List.length_append,List.length_take,List.length_drop,Array.length_toList];omega
   ·rw[htake,<- hlen];exact List.take_left
  ·have holds:∀ j u,xs[j]?=some u->w.cell? ((⟨g,0,none⟩:Addr).add j)=some u:=hown.cells (g:=g) rfl;have hr:=run_append_grow (P:=P) w t ty e i z ht hi hz ⟨g,0,none⟩ n cap xs hown.1 holds a m c news hl hnews (by omega) (by omega) (growslice_fits (by omega) hbytes);have hgr:=grown cap (by omega) (Value.ownBlock (.slice (some ⟨g,0,none⟩) n cap));simp only[e12];exact⟨_,_,hr,hgr.1,hgr.2,by simp,by simp[Value.ownBlock]⟩
end
structure z1j (P:Program) (t e:TypeId) (z:Value) (size bytes:Nat):Prop where
 und:P.underlying t=some (.slice e)
 info:(P.info? e).map (fun i=>(i.zero,i.size,i.bytes))=some (some z,size,bytes)
 zs:z.cells.size=size
 pos:0<size
section
variable {P:Program} {w:World} {ops:Array Oper} {rest:List Oper} {o:Oper} {a:Act} {Q:Exit->Act->World->Prop} {K:Act->World->Prop} {E:Prop}
theorem z0c(hgd:o.guard=none)(v:Value)(w':World)(hr:(execOp a.eval o).run P w= .ok (.value v) w')(h:wpList P ops Q rest (a.put o.dst v) w'):wpList P ops Q (o::rest) a w:=
 wpList_plain hgd fun _ hK=>by unfold Oper.wp;rw[hr];exact hK _ _ h
theorem z8b(hgd:o.guard=none)(v:Value)(w':World)(hr:(execOp a.eval o).run P w= .ok (.value v) w')(h:K (a.put o.dst v) w') :
  if Region.wanted o (yielded ops a.tmps)=true then Oper.wp P o a w K Q else E:=by
 have hw:Region.wanted o (yielded ops a.tmps)=true:=by simp[Region.wanted,hgd]
 rw[if_pos hw];unfold Oper.wp;rw[hr];exact h
theorem z16{s x:Operand}{t t2:TypeId}(ho:o.op= .call { callee:=.builtin .append,args:=#[s,x],argTypes:=#[t,t2] }){v y r:Value}{w':World}(hs:a.eval s=v)(hx:a.eval x=y)
  (hr:(Builtin.append_ #[t,t2] o.type #[v,y]).run P w= .ok r w'):(execOp a.eval o).run P w= .ok (.value r) w':=by
 unfold execOp;simp only[ho,resolve,invoke,builtin,Sem.run_bind,Sem.run_pure,Result.andThen_ok,List.map_toArray,List.map_cons,List.map_nil,hs,hx,hr]
theorem z4p{s x:Operand}{t t2:TypeId}(ho:o.op= .call { callee:=.builtin .copy,args:=#[s,x],argTypes:=#[t,t2] }){v y r:Value}{w':World}(hs:a.eval s=v)(hx:a.eval x=y)
  (hr:(Builtin.copy_ #[t,t2] o.type #[v,y]).run P w= .ok r w'):(execOp a.eval o).run P w= .ok (.value r) w':=by
 unfold execOp;simp only[ho,resolve,invoke,builtin,Sem.run_bind,Sem.run_pure,Result.andThen_ok,List.map_toArray,List.map_cons,List.map_nil,hs,hx,hr]
theorem z88{s:Operand}{t:TypeId}(ho:o.op= .call { callee:=.builtin .clear,args:=#[s],argTypes:=#[t] }){v r:Value}{w':World}(hs:a.eval s=v)
  (hr:(Builtin.clear_ #[t] o.type #[v]).run P w= .ok r w'):(execOp a.eval o).run P w= .ok (.value r) w':=by
 unfold execOp;simp only[ho,resolve,invoke,builtin,Sem.run_bind,Sem.run_pure,Result.andThen_ok,List.map_toArray,List.map_cons,List.map_nil,hs,hr]
structure z0s (w:World) (e:TypeId) (size:Nat) (v:Value) (n m:Nat) (xs news:List Value) (v':Value) (w':World):Prop where
 own:Own w' e size v' (n+m) (xs++news)
 grown:w.grownBy w' v.ownBlock
 nil:v' = .slice none 0 0↔v= .slice none 0 0/\m=0
 block:∀ k,v'.ownBlock=some k->v.ownBlock=some k\/w.heap.size<=k
theorem z4t{t t2 e:TypeId}{z:Value}{size bytes:Nat}(T:z1j P t e z size bytes)(T2:z1j P t2 e z size bytes)(ty:TypeId)
  {v:Value} {n:Nat} {xs:List Value} (hown:Own w e size v n xs)
  {ad:Addr} {m c:Nat} (news:List Value) (hl:news.length=m*size) (hnews:∀ j u,news[j]?=some u->w.cell? (ad.add j)=some u) (h1:∀ u∈news,u.oneCell'=true)
  (h63:n+m<=maxLen) (hbytes:(n+m)*bytes<=140737488355328) :
  ∃ v' w',(Builtin.append_ #[t,t2] ty #[v,.slice (some ad) m c]).run P w= .ok v' w'/\z0s w e size v n m xs news v' w':=by
 obtain⟨i,hi,hz0,hz1,hz2⟩:=info_parts T.info;obtain⟨v',w',h1,h2,h3,h4,h5⟩:=zdt (P:=P) w t t2 ty e i z size bytes T.und T2.und hi hz0 hz1 hz2 T.zs T.pos v n xs hown ad m c news hl hnews h1 h63 hbytes;exact⟨v',w',h1,h2,h3,h4,h5⟩
theorem z08(hgd:o.guard=none)(s x:Operand)(t t2:TypeId)(ho:o.op= .call { callee:=.builtin .append,args:=#[s,x],argTypes:=#[t,t2] })
  {e:TypeId} {z:Value} {size bytes:Nat} (T:z1j P t e z size bytes) (T2:z1j P t2 e z size bytes)
  (v:Value) (n:Nat) (xs:List Value) (hs:a.eval s=v) (hown:Own w e size v n xs)
  (ad:Addr) (m c:Nat) (news:List Value) (hx:a.eval x= .slice (some ad) m c) (hl:news.length=m*size) (hnews:∀ j u,news[j]?=some u->w.cell? (ad.add j)=some u) (h1:∀ u∈news,u.oneCell'=true)
  (h63:n+m<=maxLen) (hbytes:(n+m)*bytes<=140737488355328)
  (h:∀ v' w',z0s w e size v n m xs news v' w'->wpList P ops Q rest (a.put o.dst v') w'):wpList P ops Q (o::rest) a w:=by
 obtain⟨v',w',hr,hA⟩:=z4t T T2 o.type hown news hl hnews h1 h63 hbytes;exact z0c hgd v' w' (z16 ho hs hx hr) (h v' w' hA)
theorem z7l(hgd:o.guard=none)(s x:Operand)(t t2:TypeId)(ho:o.op= .call { callee:=.builtin .append,args:=#[s,x],argTypes:=#[t,t2] })
  {e:TypeId} {z:Value} {size bytes:Nat} (T:z1j P t e z size bytes) (T2:z1j P t2 e z size bytes)
  (v:Value) (n:Nat) (xs:List Value) (hs:a.eval s=v) (hown:Own w e size v n xs)
  (ad:Addr) (m c:Nat) (news:List Value) (hx:a.eval x= .slice (some ad) m c) (hl:news.length=m*size) (hnews:∀ j u,news[j]?=some u->w.cell? (ad.add j)=some u) (h1:∀ u∈news,u.oneCell'=true)
  (h63:n+m<=maxLen) (hbytes:(n+m)*bytes<=140737488355328)
  (h:∀ v' w',z0s w e size v n m xs news v' w'->K (a.put o.dst v') w') :
  if Region.wanted o (yielded ops a.tmps)=true then Oper.wp P o a w K Q else E:=by
 obtain⟨v',w',hr,hA⟩:=z4t T T2 o.type hown news hl hnews h1 h63 hbytes;exact z8b hgd v' w' (z16 ho hs hx hr) (h v' w' hA)
theorem zc5{t t2 e:TypeId}{z:Value}{size bytes:Nat}(T:z1j P t e z size bytes)(T2:z1j P t2 e z size bytes)(ty:TypeId)
  {v:Value} {n:Nat} {xs:List Value} (hown:Own w e size v n xs) (c:Nat) :
  (Builtin.append_ #[t,t2] ty #[v,.slice none 0 c]).run P w= .ok v w:=by
 obtain⟨i,hi,hz0,hz1,hz2⟩:=info_parts T.info;rcases hown.2 with⟨rfl,rfl⟩ | ⟨g,cap,cur,rfl,hg,hnc,hcm,hcs,htake⟩
 ·simp[Builtin.append_,run_underlying T.und,run_underlying T2.und,sizeOf,typeInfo,hi,Builtin.lenOf,Builtin.firstCells]
 ·simp[Builtin.append_,run_underlying T.und,run_underlying T2.und,sizeOf,typeInfo,hi,Builtin.lenOf,Builtin.firstCells,hnc,storeCells]
theorem z7c{t t2 e:TypeId}{z:Value}{size bytes:Nat}(T:z1j P t e z size bytes)(T2:z1j P t2 e z size bytes)(ty:TypeId)
  {g n cap:Nat} {cur:Array Value} (hg:w.heap[g]?=some (.cells cur e (0,0)))
  {ad:Addr} {m c:Nat} (news:List Value) (hl:news.length=m*size) (hnews:∀ j u,news[j]?=some u->w.cell? (ad.add j)=some u) (h1:∀ u∈news,u.oneCell'=true)
  (hroom:n+m<=cap) (hfit:n*size+news.length<=cur.size) :
  (Builtin.append_ #[t,t2] ty #[.slice (some ⟨g,0,none⟩) n cap,.slice (some ad) m c]).run P w =
   .ok (.slice (some ⟨g,0,none⟩) (n+m) cap) (w.setRow g (cur.toList.take (n*size)++news++cur.toList.drop (n*size+news.length)).toArray):=by
 obtain⟨i,hi,hz0,hz1,hz2⟩:=info_parts T.info;subst hz1;rw[<- run_append_room (P:=P) w t ty e i T.und hi g n cap cur hg ad m c news hl hnews h1 hroom hfit];simp[Builtin.append_,run_underlying T.und,run_underlying T2.und]
theorem z4s{t t2 e:TypeId}{z:Value}{bytes:Nat}(T:z1j P t e z 1 bytes)(ty:TypeId){g off dLen dCap:Nat}{ad:Addr}{sLen sCap:Nat}{cur:Array Value}{te:TypeId}(cs:List Value)
  (hg:w.heap[g]?=some (.cells cur te (0,0))) (hn:cs.length=Nat.min sLen dLen)
  (hsrc:∀ j v,cs[j]?=some v->w.cell? (ad.add j)=some v) (hfit:off+cs.length<=cur.size) (h1:∀ v∈cs,v.oneCell'=true) :
  (Builtin.copy_ #[t,t2] ty #[.slice (some ⟨g,off,none⟩) dLen dCap,.slice (some ad) sLen sCap]).run P w =
   .ok (goInt cs.length) (w.setRow g (cur.toList.take off++cs++cur.toList.drop (off+cs.length)).toArray):=by
 refine run_copy_row (P:=P) w t t2 ty e g off dLen dCap ad sLen sCap cur te cs T.und ?_ hg hn hsrc hfit h1;obtain⟨i,hi,hz0,hz1,hz2⟩:=info_parts T.info;simp[hi,hz1]
theorem zeu{t e:TypeId}{z:Value}{bytes:Nat}(T:z1j P t e z 1 bytes)(h1:z.oneCell'=true)(hzc:z.cells=#[z])(ty:TypeId){g off n c:Nat}{cur:Array Value}{te:TypeId}
  (hg:w.heap[g]?=some (.cells cur te (0,0))) (hfit:off+n<=cur.size) :
  (Builtin.clear_ #[t] ty #[.slice (some ⟨g,off,none⟩) n c]).run P w =
   .ok (.tuple #[]) (w.setRow g (cur.toList.take off++List.replicate n z++cur.toList.drop (off+n)).toArray):=by
 obtain⟨i,hi,hz0,hz1,hz2⟩:=info_parts T.info;cases n with
 | zero =>
  simp[Builtin.clear_,run_underlying T.und];rw[setRow_self w g cur te (0,0) hg]
 | succ n =>
  have hzero:(Builtin.zeroCells z.cells (n+1)).toList=List.replicate (n+1) z:=by
   apply List.ext_getElem
   ·simp[size_zeroCells,hzc]
   ·intro j h1 h2;have:j<n+1:=by simpa using h2
    simp[Builtin.zeroCells,hzc,Nat.mod_one]
  have hst:=run_storeCells_at P g off te (List.replicate (n+1) z) 0 cur w hg (by simpa using hfit) (by intro v hv;rw[List.eq_of_mem_replicate hv];exact h1);simp only[Nat.add_zero,List.length_replicate]at hst;simp[Builtin.clear_,run_underlying T.und,zeroValue,typeInfo,hi,hz0,hzero,hst]
end
def Src(w:World)(size:Nat)(y:Value)(m:Nat)(news:List Value):Prop:=
 news.length=m*size/\∃ a c,y= .slice a m c/\∀ j u,news[j]?=some u->∃ ad,a=some ad/\w.cell? (ad.add j)=some u
theorem Own.src{w:World}{e:TypeId}{size:Nat}{v:Value}{n:Nat}{xs:List Value}(h:Own w e size v n xs):Src w size v n xs:=by
 refine⟨h.1,?_⟩;rcases h.2 with⟨rfl,rfl⟩ | ⟨g,c,cur,rfl,hg,_⟩
 ·have:=h.1;rw[Nat.zero_mul]at this;have:=List.eq_nil_of_length_eq_zero this;subst this;exact⟨none,0,rfl,fun j u hj=>by cases hj⟩
 ·exact⟨_,c,rfl,fun j u hj=>⟨_,rfl,h.cells (g:=g) rfl j u hj⟩⟩
theorem Src.to{w w':World}{size:Nat}{y:Value}{m:Nat}{news:List Value}(h:Src w size y m news)(hc:∀ a u,w.cell? a=some u->y.ownBlock=some a.block->w'.cell? a=some u):Src w' size y m news:=by
 obtain⟨h1,a,c,rfl,h2⟩:=h;refine⟨h1,a,c,rfl,fun j u hj => ?_⟩;obtain⟨ad,rfl,h3⟩:=h2 j u hj;refine⟨ad,rfl,hc _ _ h3 ?_⟩;show some ad.block=some (ad.add j).block
 unfold Addr.add;split<;>rfl
theorem Src.below{w w':World}{size:Nat}{y:Value}{m:Nat}{news:List Value}(h:Src w size y m news)(hb:Below w.heap.size w w'):Src w' size y m news:=
 h.to fun a u hc _=>by rw[hb.cell (World.block_lt_of_cell? w a hc)];exact hc
section
variable {P:Program} {w:World} {ops:Array Oper} {rest:List Oper} {o:Oper} {a:Act} {Q:Exit->Act->World->Prop} {K:Act->World->Prop} {E:Prop}
theorem ze1{t t2 e:TypeId}{z:Value}{size bytes:Nat}(T:z1j P t e z size bytes)(T2:z1j P t2 e z size bytes)(ty:TypeId)
  {v:Value} {n:Nat} {xs:List Value} (hown:Own w e size v n xs) {y:Value} {m:Nat} {news:List Value} (hs:Src w size y m news) (h1:∀ u∈news,u.oneCell'=true)
  (h63:n+m<=maxLen) (hbytes:(n+m)*bytes<=140737488355328) :
  ∃ v' w',(Builtin.append_ #[t,t2] ty #[v,y]).run P w= .ok v' w'/\z0s w e size v n m xs news v' w':=by
 obtain⟨hl,b,c,rfl,hc⟩:=hs;cases b with
 | some ad =>
  refine z4t T T2 ty hown news hl (fun j u hj => ?_) h1 h63 hbytes;obtain⟨ad',e,h⟩:=hc j u hj;cases e;exact h
 | none =>
  have hn:news = []:=by
   cases news with
   | nil=>rfl
   | cons x l=>obtain⟨_,e,_⟩:=hc 0 x rfl;cases e
  subst hn;have hm:m=0:=by
   rw[List.length_nil]at hl;rcases Nat.mul_eq_zero.1 hl.symm with h | h
   ·exact h
   ·have:=T.pos;omega
  subst hm;exact⟨v,w,zc5 T T2 ty hown c,by simpa using hown,⟨rfl,rfl,rfl,Nat.le_refl _,fun _ _ _=>rfl⟩,by simp,fun k hk => .inl hk⟩
theorem z2a(hgd:o.guard=none)(s x:Operand)(t t2:TypeId)(ho:o.op= .call { callee:=.builtin .append,args:=#[s,x],argTypes:=#[t,t2] })
  {e:TypeId} {z:Value} {size bytes:Nat} (T:z1j P t e z size bytes) (T2:z1j P t2 e z size bytes)
  (v:Value) (n:Nat) (xs:List Value) (hs:a.eval s=v) (hown:Own w e size v n xs)
  (y:Value) (m:Nat) (news:List Value) (hx:a.eval x=y) (hsrc:Src w size y m news) (h1:∀ u∈news,u.oneCell'=true)
  (h63:n+m<=maxLen) (hbytes:(n+m)*bytes<=140737488355328)
  (h:∀ v' w',z0s w e size v n m xs news v' w'->wpList P ops Q rest (a.put o.dst v') w'):wpList P ops Q (o::rest) a w:=by
 obtain⟨v',w',hr,hA⟩:=ze1 T T2 o.type hown hsrc h1 h63 hbytes;exact z0c hgd v' w' (z16 ho hs hx hr) (h v' w' hA)
theorem zat{t:TypeId}{x:Operand}{lo hi mx:Option Operand}(ho:o.op= .slice t x lo hi mx){v r:Value}(hx:a.eval x=v)
  (hr:(Instr.sliceAt t v (lo.map a.eval) (hi.map a.eval) (mx.map a.eval)).run P w= .ok r w):(execOp a.eval o).run P w= .ok (.value r) w:=by
 unfold execOp;simp only[ho,Sem.run_bind,Sem.run_pure,Result.andThen_ok,hx,hr]
theorem z7v{t e:TypeId}(h:P.underlying t=some (.slice e)):P.elem t=e:=by simp[Program.elem,h]
theorem zc4{t e:TypeId}{z:Value}{size bytes:Nat}(T:z1j P t e z size bytes){v:Value}{n:Nat}{xs:List Value}(hown:Own w e size v n xs){ad:Option Addr}{c:Nat}(hv:v= .slice ad n c)(i:Nat)(hi:i<=n) :
  (∀ w1,(Instr.sliceAt t v none (some (.int .i64 i)) none).run P w1= .ok (.slice ad i c) w1)/\Src w size (.slice ad i c) i (xs.take (i*size)):=by
 have hu:P.underlying t=some (.slice (P.elem t)):=by rw[z7v T.und];exact T.und
 obtain⟨inf,hinf,_,hz1,_⟩:=info_parts T.info;have hs:∀ w,(sizeOf (P.elem t)).run P w= .ok size w:=fun w=>by rw[z7v T.und];simp[sizeOf,typeInfo,hinf,hz1]
 have hnc:n<=c:=by
  rcases hown.2 with⟨h1,h2⟩ | ⟨g,c',cur,h1,_,h2,_⟩
  ·rw[hv]at h1;cases h1;omega
  ·rw[hv]at h1;cases h1;exact h2
 subst hv;constructor
 ·intro w;rw[run_sliceAt_slice w t _ _ _ _ hu,run_slice_h w t ad n c hu .i64 i (by omega) (by omega),hs];simp only[Result.andThen,sliced,Int.toNat_natCast,Nat.sub_zero,Nat.zero_mul];have:(if c=0 then ad else ad.map (·.add 0))=ad:=by
   cases ad with
   | none=>simp
   | some x=>simp[Addr.add]
  rw[this]
 ·obtain⟨hl,b,c',hv,hc⟩:=hown.src;cases hv;refine⟨by rw[List.length_take,hl];exact Nat.min_eq_left (Nat.mul_le_mul_right _ hi),ad,c,rfl,fun j u hj=>hc j u ?_⟩;rw[List.getElem?_take]at hj;split at hj
  ·exact hj
  ·cases hj
theorem zfp{t e:TypeId}{z:Value}{size bytes:Nat}(T:z1j P t e z size bytes){v:Value}{n:Nat}{xs:List Value}(hown:Own w e size v n xs){ad:Option Addr}{c:Nat}(hv:v= .slice ad n c)(i:Nat)(hi:i<=n) :
  ∃ ad' c',(∀ w1,(Instr.sliceAt t v (some (.int .i64 i)) none none).run P w1= .ok (.slice ad' (n-i) c') w1)/\Src w size (.slice ad' (n-i) c') (n-i) (xs.drop (i*size)):=by
 have hu:P.underlying t=some (.slice (P.elem t)):=by rw[z7v T.und];exact T.und
 obtain⟨inf,hinf,_,hz1,_⟩:=info_parts T.info;have hs:∀ w,(sizeOf (P.elem t)).run P w= .ok size w:=fun w=>by rw[z7v T.und];simp[sizeOf,typeInfo,hinf,hz1]
 have hnc:n<=c:=by
  rcases hown.2 with⟨h1,h2⟩ | ⟨g,c',cur,h1,_,h2,_⟩
  ·rw[hv]at h1;cases h1;omega
  ·rw[hv]at h1;cases h1;exact h2
 subst hv;refine⟨if c=i then ad else ad.map (·.add (i*size)),c-i,?_,?_⟩
 ·intro w;rw[run_sliceAt_slice w t _ _ _ _ hu,run_slice_l w t ad n c hu .i64 i (by omega) (by omega),hs];simp only[Result.andThen,sliced,Int.toNat_natCast]
 ·obtain⟨hl,b,c',hv,hc⟩:=hown.src;cases hv;refine⟨by rw[List.length_drop,hl,<- Nat.sub_mul],_,_,rfl,fun j u hj => ?_⟩;rw[List.getElem?_drop]at hj;obtain⟨x,rfl,hx⟩:=hc _ u hj;have hi':i≠c:=by
   intro e;subst e;have:n=i:=by omega
   subst this;rw[List.getElem?_eq_none (by omega)]at hj;cases hj
  refine⟨x.add (i*size),by rw[if_neg (fun e=>hi' e.symm)];rfl,?_⟩;have e:(x.add (i*size)).add j=x.add (i*size+j):=by
   unfold Addr.add
   by_cases h1:i*size=0<;>by_cases h2:j=0<;>simp[h1,h2,Nat.add_assoc]
  rw[e];exact hx
end
def KLt(a b:ByteArray):Prop:=a.data.toList<b.data.toList
instance (a b:ByteArray):Decidable (KLt a b):=inferInstanceAs (Decidable (a.data.toList<b.data.toList))
theorem zhl{a b:ByteArray}(h:a.data.toList=b.data.toList):a=b:=by
 cases a;cases b;congr;exact Array.toList_inj.1 h
theorem KLt.irrefl(a:ByteArray):¬ KLt a a:=List.lt_irrefl _
theorem KLt.trans{a b c:ByteArray}(h:KLt a b)(h1:KLt b c):KLt a c:=List.lt_trans h h1
theorem KLt.asymm{a b:ByteArray}(h:KLt a b):¬ KLt b a:=List.lt_asymm h
theorem KLt.eq{a b:ByteArray}(h:¬ KLt a b)(h1:¬ KLt b a):a=b:=zhl (List.le_antisymm (List.not_lt.1 h1) (List.not_lt.1 h))
theorem KLt.zu3{a b c:ByteArray}(h:¬ KLt b a)(h1:KLt b c):KLt a c:=by
 by_cases h2:KLt a b
 ·exact h2.trans h1
 ·rw[KLt.eq h2 h];exact h1
theorem KLt.ne{a b:ByteArray}(h:KLt a b):a≠b:=fun e=>KLt.irrefl a (by rw[e]at h ⊢;exact h)
theorem z9t:∀ (x y:List UInt8),Op.bytesLess x y=decide (x<y)
 | [],[]=>by simp[Op.bytesLess]
 | _::_,[]=>by simp[Op.bytesLess]
 | [],_::_=>by simp[Op.bytesLess]
 | a::x,b::y=>by
  rw[Op.bytesLess,z9t x y]
  simp only[List.cons_lt_cons_iff]
  by_cases h1:a<b<;>by_cases h2:a=b<;>by_cases h3:x<y<;>simp[h1,h2,h3]
theorem z4a(a b:ByteArray):Op.bytesLess a.toList b.toList=decide (KLt a b):=by
 rw[z9t,ByteArray.toList_eq,ByteArray.toList_eq];rfl
theorem z4i(a b:ByteArray):(a.toList==b.toList)=decide (a=b):=by
 rw[ByteArray.toList_eq,ByteArray.toList_eq,Bool.eq_iff_iff];simp only[beq_iff_eq,decide_eq_true_eq];exact⟨zhl,fun h=>by rw[h]⟩
def z1p(l:List ByteArray):Prop:=l.Pairwise KLt
def lb(l:List ByteArray)(k:ByteArray):Nat:=(l.takeWhile fun x=>decide (KLt x k)).length
theorem z92(x:ByteArray)(l:List ByteArray)(k:ByteArray):lb (x::l) k=if KLt x k then lb l k+1 else 0:=by
 unfold lb;by_cases h:KLt x k<;>simp[h]
theorem zae(l:List ByteArray)(k:ByteArray):lb l k<=l.length:=(List.takeWhile_prefix _).length_le
theorem z2d{l:List ByteArray}(hs:z1p l)(k:ByteArray):∀ (i:Nat) (h:i<l.length),KLt l[i] k↔i<lb l k:=by
 induction l with
 | nil=>intro i h;simp at h
 | cons x l ih =>
  have hp:=List.pairwise_cons.1 hs;intro i h;rw[z92];cases i with
  | zero=>by_cases hx:KLt x k<;>simp[hx]
  | succ i =>
   simp only[List.length_cons,Nat.add_lt_add_iff_right]at h;simp only[List.getElem_cons_succ];rw[ih hp.2 i h]
   by_cases hx:KLt x k
   ·simp[hx]
   ·simp only[hx,if_false,Nat.not_lt_zero,iff_false];intro hlt;have h1:=(ih hp.2 i h).2 hlt;exact hx ((hp.1 _ (List.getElem_mem h)).trans h1)
theorem zp8{l:List ByteArray}(hs:z1p l)(k:ByteArray)(n:Nat)(hn:n<=l.length)(h1:∀ i (h:i<l.length),i<n->KLt l[i] k)(h2:∀ i (h:i<l.length),n<=i->¬ KLt l[i] k):lb l k=n:=by
 have hl:=zae l k;rcases Nat.lt_trichotomy (lb l k) n with h | h | h
 ·exact absurd ((z2d hs k _ (by omega)).1 (h1 (lb l k) (by omega) h)) (Nat.lt_irrefl _)
 ·exact h
 ·exact absurd ((z2d hs k n (by omega)).2 h) (h2 n (by omega) (Nat.le_refl _))
abbrev Ent:=ByteArray × ByteArray
def Sorted(l:List Ent):Prop:=l.Pairwise fun a b=>KLt a.1 b.1
theorem Sorted.keys{l:List Ent}(h:Sorted l):z1p (l.map Prod.fst):=by
 unfold z1p;rw[List.pairwise_map];exact h
def getE:List Ent->ByteArray->Option ByteArray
 | [],_=>none
 | (a,b)::r,k=>if a=k then some b else getE r k
def putE:List Ent->ByteArray->ByteArray->List Ent
 | [],k,v => [(k,v)]
 | (a,b)::r,k,v=>if KLt a k then(a,b)::putE r k v else if a=k then(k,v)::r else(k,v)::(a,b)::r
def delE:List Ent->ByteArray->List Ent
 | [],_ => []
 | (a,b)::r,k=>if a=k then r else(a,b)::delE r k
theorem z2q{l:List Ent}{k v:ByteArray}(h:getE l k=some v):(k,v)∈l:=by
 induction l with
 | nil=>simp[getE]at h
 | cons x r ih =>
  obtain⟨a,b⟩:=x;simp only[getE]at h;split at h
  ·rename_i e;simp at h;subst e;subst h;simp
  ·simp[ih h]
theorem z4r{l:List Ent}{k:ByteArray}:getE l k=none↔k∉l.map Prod.fst:=by
 induction l with
 | nil=>simp[getE]
 | cons x r ih =>
  obtain⟨a,b⟩:=x;simp only[getE,List.map_cons,List.mem_cons,not_or]
  by_cases e:a=k
  ·simp[e]
  ·simp[e,ih,Ne.symm e]
theorem z1o{l:List Ent}(hs:Sorted l){k v:ByteArray}(h:(k,v)∈l):getE l k=some v:=by
 induction l with
 | nil=>simp at h
 | cons x r ih =>
  obtain⟨a,b⟩:=x;have hp:=List.pairwise_cons.1 hs;simp only[getE];rcases List.mem_cons.1 h with e | h
  ·simp at e;simp[e.1,e.2]
  ·have:=hp.1 _ h;rw[if_neg (fun e=>KLt.irrefl k (by simpa [e]using this)),ih hp.2 h]
theorem zg7{l:List Ent}{k v:ByteArray}{x:Ent}(h:x∈putE l k v):x=(k,v)\/x∈l:=by
 induction l with
 | nil=>simp[putE]at h;exact .inl h
 | cons y r ih =>
  obtain⟨a,b⟩:=y;simp only[putE]at h;split at h
  ·rcases List.mem_cons.1 h with e | h
   ·exact .inr (by simp[e])
   ·rcases ih h with e | e
    ·exact .inl e
    ·exact .inr (by simp[e])
  ·split at h
   ·rcases List.mem_cons.1 h with e | h
    ·exact .inl e
    ·exact .inr (by simp[h])
   ·rcases List.mem_cons.1 h with e | h
    ·exact .inl e
    ·exact .inr h
theorem z5n{l:List Ent}(hs:Sorted l)(k v:ByteArray):Sorted (putE l k v):=by
 induction l with
 | nil=>simp[putE,Sorted]
 | cons y r ih =>
  obtain⟨a,b⟩:=y;have hp:=List.pairwise_cons.1 hs;simp only[putE];split
  ·rename_i h;refine List.pairwise_cons.2 ⟨fun x hx => ?_,ih hp.2⟩;rcases zg7 hx with e | e
   ·rw[e];exact h
   ·exact hp.1 x e
  ·rename_i h;split
   ·rename_i e;exact List.pairwise_cons.2 ⟨fun x hx=>by have:=hp.1 x hx;rw[e]at this;exact this,hp.2⟩
   ·rename_i e;have hk:KLt k a:=by
     by_cases h2:KLt k a
     ·exact h2
     ·exact absurd (KLt.eq h h2) e
    refine List.pairwise_cons.2 ⟨fun x hx => ?_,hs⟩;rcases List.mem_cons.1 hx with e | hx
    ·rw[e];exact hk
    ·exact hk.trans (hp.1 x hx)
theorem zfn{l:List Ent}{k:ByteArray}{x:Ent}(h:x∈delE l k):x∈l:=by
 induction l with
 | nil=>simp[delE]at h
 | cons y r ih =>
  obtain⟨a,b⟩:=y;simp only[delE]at h;split at h
  ·simp[h]
  ·rcases List.mem_cons.1 h with e | h
   ·simp[e]
   ·simp[ih h]
theorem z5h{l:List Ent}(hs:Sorted l)(k:ByteArray):Sorted (delE l k):=by
 induction l with
 | nil=>simp[delE,Sorted]
 | cons y r ih =>
  obtain⟨a,b⟩:=y;have hp:=List.pairwise_cons.1 hs;simp only[delE];split
  ·exact hp.2
  ·exact List.pairwise_cons.2 ⟨fun x hx=>hp.1 x (zfn hx),ih hp.2⟩
theorem z9r(l:List Ent)(hs:Sorted l)(k v j:ByteArray):getE (putE l k v) j=if k=j then some v else getE l j:=by
 induction l with
 | nil=>simp[putE,getE]
 | cons y r ih =>
  obtain⟨a,b⟩:=y;have hp:=List.pairwise_cons.1 hs;simp only[putE];split
  ·rename_i h;simp only[getE,ih hp.2]
   by_cases e:a=j
   ·have:k≠j:=fun e2=>KLt.irrefl k (by rw[e,<- e2]at h;exact h)
    simp[e,this]
   ·simp[e]
  ·split
   ·rename_i e;simp only[getE,e]
    by_cases e2:k=j<;>simp[e2]
   ·simp only[getE]
theorem z9m(l:List Ent)(hs:Sorted l)(k j:ByteArray):getE (delE l k) j=if k=j then none else getE l j:=by
 induction l with
 | nil=>simp[delE,getE]
 | cons y r ih =>
  obtain⟨a,b⟩:=y;have hp:=List.pairwise_cons.1 hs;simp only[delE];split
  ·rename_i e;simp only[getE]
   by_cases e2:k=j
   ·simp only[e2,if_true];rw[z4r];intro hm;obtain⟨x,hx,hx2⟩:=List.mem_map.1 hm;have:=hp.1 x hx;simp only[hx2,e,e2]at this;exact KLt.irrefl j this
   ·simp[e,e2]
  ·rename_i e;simp only[getE,ih hp.2]
   by_cases e2:a=j
   ·have:k≠j:=fun e3=>e (e2.trans e3.symm)
    simp[e2,this]
   ·simp[e2]
structure Was where
 key:ByteArray
 val:ByteArray
 there:Bool
structure St where
 ents:List Ent
 past:List Was
def z05:ByteArray:=⟨#[]⟩
def St.get(s:St)(k:ByteArray):Option ByteArray:=getE s.ents k
def St.val(s:St)(k:ByteArray):ByteArray:=(getE s.ents k).getD z05
def St.was(s:St)(k:ByteArray):Was:=⟨k,s.val k,(getE s.ents k).isSome⟩
def layE(l:List Ent)(k v:ByteArray)(there:Bool):List Ent:=if there then putE l k v else delE l k
def St.lay(s:St)(k v:ByteArray)(there:Bool):St:={ s with ents:=layE s.ents k v there }
def St.set(s:St)(k v:ByteArray):St:=if getE s.ents k=some v then s else⟨putE s.ents k v,s.past ++ [s.was k]⟩
def St.del(s:St)(k:ByteArray):St:=if (getE s.ents k).isSome then⟨delE s.ents k,s.past ++ [s.was k]⟩else s
def St.size(s:St):Nat:=s.ents.length+s.past.length
theorem zjh{l:List Ent}(hs:Sorted l)(k v:ByteArray)(t:Bool):Sorted (layE l k v t):=by
 unfold layE;split
 ·exact z5n hs k v
 ·exact z5h hs k
theorem zdq(l:List Ent)(k v:ByteArray):(putE l k v).length<=l.length+1:=by
 induction l with
 | nil=>simp[putE]
 | cons y r ih =>
  obtain⟨a,b⟩:=y;simp only[putE];split
  ·simpa using ih
  ·split<;>simp
theorem zci(l:List Ent)(k:ByteArray):(delE l k).length<=l.length:=by
 induction l with
 | nil=>simp[delE]
 | cons y r ih =>
  obtain⟨a,b⟩:=y;simp only[delE];split
  ·simp
  ·simpa using ih
theorem St.zsl(s:St)(k v:ByteArray):(s.set k v).size<=s.size+2:=by
 unfold St.set St.size;split
 ·omega
 ·have:=zdq s.ents k v;simp;omega
theorem St.zt7(s:St)(k:ByteArray):(s.del k).size<=s.size+1:=by
 unfold St.del St.size;split
 ·have:=zci s.ents k;simp;omega
 ·omega
theorem St.ze6{s:St}(h:Sorted s.ents)(k v:ByteArray):Sorted (s.set k v).ents:=by
 unfold St.set;split
 ·exact h
 ·exact z5n h k v
theorem St.zej{s:St}(h:Sorted s.ents)(k:ByteArray):Sorted (s.del k).ents:=by
 unfold St.del;split
 ·exact z5h h k
 ·exact h
theorem zfb{l:List Ent}(hs:Sorted l)(k v:ByteArray)(h:k∈l.map Prod.fst):(putE l k v).map Prod.fst=l.map Prod.fst:=by
 induction l with
 | nil=>simp at h
 | cons y r ih =>
  obtain⟨a,b⟩:=y;have hp:=List.pairwise_cons.1 hs;simp only[putE];simp only[List.map_cons,List.mem_cons]at h
  by_cases h1:KLt a k
  ·rcases h with h | h
   ·exact absurd h.symm h1.ne
   ·simp[h1,ih hp.2 h]
  ·by_cases e:a=k
   ·simp[e,KLt.irrefl]
   ·rcases h with h | h
    ·exact absurd h.symm e
    ·obtain⟨x,hx,rfl⟩:=List.mem_map.1 h;exact absurd (hp.1 x hx) h1
theorem zfh{l:List Ent}(hs:Sorted l)(k v:ByteArray)(h:k∉l.map Prod.fst) :
  (putE l k v).map Prod.fst=(l.map Prod.fst).take (lb (l.map Prod.fst) k)++k::(l.map Prod.fst).drop (lb (l.map Prod.fst) k):=by
 induction l with
 | nil=>simp[putE]
 | cons y r ih =>
  obtain⟨a,b⟩:=y;have hp:=List.pairwise_cons.1 hs;simp only[List.map_cons,List.mem_cons,not_or]at h;simp only[putE,List.map_cons,z92]
  by_cases h1:KLt a k
  ·simp[h1,ih hp.2 h.2]
  ·simp[h1,Ne.symm h.1]
theorem zhv{l:List Ent}(hs:Sorted l){k:ByteArray}(v:ByteArray)(h:(getE l k).isSome=true):(putE l k v).map Prod.fst=l.map Prod.fst:=by
 refine zfb hs k v ?_;obtain⟨x,hx⟩:=Option.isSome_iff_exists.1 h;exact List.mem_map.2 ⟨_,z2q hx,rfl⟩
theorem zfo{l:List Ent}(hs:Sorted l){k:ByteArray}(v:ByteArray)(h:(getE l k).isSome=false) :
  (putE l k v).map Prod.fst=(l.map Prod.fst).take (lb (l.map Prod.fst) k)++k::(l.map Prod.fst).drop (lb (l.map Prod.fst) k):=
 zfh hs k v (z4r.1 (by simpa using h))
theorem zo8{l:List Ent}(hs:Sorted l){k:ByteArray}(h:(getE l k).isSome=true) :
  (delE l k).map Prod.fst=(l.map Prod.fst).take (lb (l.map Prod.fst) k)++(l.map Prod.fst).drop (lb (l.map Prod.fst) k+1):=by
 induction l with
 | nil=>simp[getE]at h
 | cons y r ih =>
  obtain⟨a,b⟩:=y;have hp:=List.pairwise_cons.1 hs;simp only[delE,List.map_cons,z92]
  by_cases e:a=k
  ·simp[e,KLt.irrefl]
  ·simp only[getE,e,if_false]at h;obtain⟨v,hv⟩:=Option.isSome_iff_exists.1 h;have hlt:KLt a k:=hp.1 _ (z2q hv);simp[e,hlt,ih hp.2 h]
theorem z6z{l:List Ent}{k:ByteArray}(h:(getE l k).isSome=false):delE l k=l:=by
 induction l with
 | nil=>rfl
 | cons y r ih =>
  obtain⟨a,b⟩:=y
  by_cases e:a=k
  ·simp[getE,e]at h
  ·simp only[getE,e,if_false]at h;simp[delE,e,ih h]
theorem zvr{l:List ByteArray}(hs:z1p l){k:ByteArray}(h:k∈l):∃ hlt:lb l k<l.length,l[lb l k]=k:=by
 obtain⟨i,hi,rfl⟩:=List.getElem_of_mem h
 have:lb l l[i]=i:=zp8 hs _ i (by omega) (fun j hj hji=>List.pairwise_iff_getElem.1 hs j i hj hi hji) (fun j hj hij=>by
  rcases Nat.eq_or_lt_of_le hij with e | e
  ·subst e;exact KLt.irrefl _
  ·exact(List.pairwise_iff_getElem.1 hs i j hi hj e).asymm)
 exact⟨by rw[this];exact hi,by simp only[this]⟩
theorem zdv{A B:List ByteArray}{k:ByteArray}(h:lb A k<A.length):lb (A++B) k=lb A k:=by
 induction A with
 | nil=>simp at h
 | cons x A ih =>
  simp only[List.cons_append,z92]at h ⊢
  by_cases hx:KLt x k
  ·simp only[hx,if_true,List.length_cons]at h ⊢;rw[ih (by omega)]
  ·simp[hx]
theorem zbt{A B:List ByteArray}{k:ByteArray}(h:∀ x∈A,KLt x k):lb (A++B) k=A.length+lb B k:=by
 induction A with
 | nil=>simp
 | cons x A ih =>
  have hx:=h x (by simp);simp only[List.cons_append,z92,hx,if_true,List.length_cons,ih (fun y hy=>h y (by simp[hy]))];omega
end Go.Proofs.YtnkilceibkkjlaaGreat
