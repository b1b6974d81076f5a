/- What is proved here: alloc.Mature, of more that waited. I -/
import Derived.Test.YtnkilceibkkjlaaGreatJRow
import Derived.Lib.SmallJoins
import Derived.ChangeSlices
import Derived.Deep.MidRow
import Derived.Deep.WholeRow
import Derived.Test.YtnkilceibkkjlaaGreatJAlPg
set_option maxRecDepth 100000
set_option maxHeartbeats 16000000
namespace Go.Proofs.YtnkilceibkkjlaaGreat
open Go.RowKit
structure IAt (w:World) (b:Nat) (L:List Nat) (s:St) (x:I4) (W:World):Prop where
 hb:Below w.heap.size w W
 hs:SRep W b s L
 hA:W.heap[w.heap.size]?=some (.cells (idL x) 34 (0,0))
def z9w:W4:=(500000000000000000,0,0,0)
def x7:I4:=(7,1,9,0)
theorem zt9:x7.Ok:=by
 intro n hn;simp[x7]at hn;omega
theorem zx5:W4.Ok z9w:=⟨by decide,by decide,by decide,by decide⟩
abbrev LvC(H:Nat)(w':World):Prop:=(w'.cell? ⟨H,0,none⟩=some (.int .u64 500000000000000000)/\w'.cell? ⟨H,1,none⟩=some (.int .u64 0)/\w'.cell? ⟨H,2,none⟩=some (.int .u64 0)/\w'.cell? ⟨H,3,none⟩=some (.int .u64 0))/\(w'.cell? ⟨H+1,0,none⟩=some (.int .i64 7)/\w'.cell? ⟨H+1,1,none⟩=some (.int .i64 1)/\w'.cell? ⟨H+1,2,none⟩=some (.int .i64 9)/\w'.cell? ⟨H+1,3,none⟩=some (.int .i64 0))
structure AW (wb:World) (q:Option Addr) (L:List Nat) (k:Nat) (s:St) (m:W4) (rs:List (Nat × Obj)) (W:World):Prop where
 hv:HV ⟨q,true,L⟩ wb s rs W
 ar:AR (2*k) (16*k) s m
section
variable {wb W W':World} {q:Option Addr} {L:List Nat} {k:Nat} {m:W4} {s:St} {rs rs':List (Nat × Obj)}
end
open Go.ChangeShapes Go.WideShapes Go.ChangeAt Go.Joins
section
variable {H:Type} {enc:TypeId × Value->H} {P:Program} {w:World} {base:Nat} {spare:Nat->Bool} {held:Bool}
def zh9(P:Program)(fs:Array Field):Bool:=(List.range fs.size).all fun i=>match fs[i]? with
 | some f=>f.offset==i&&P.cellsOf f.type==1&&(match P.underlying f.type with | some (.int .i64)=>true | _=>false)
 | none=>false
theorem zif{fs:Array Field}(h:zh9 P fs=true)(i:Nat)(f:Field)(hf:fs[i]?=some f):f.offset=i/\P.cellsOf f.type=1/\P.underlying f.type=some (.int .i64):=by
 have hi:i<fs.size:=(Array.getElem?_eq_some_iff.1 hf).1;have:=List.all_eq_true.1 h i (by simpa using hi);simp only[hf,Bool.and_eq_true,beq_iff_eq]at this;refine⟨this.1.1,this.1.2,?_⟩;have h2:=this.2;split at h2
 ·assumption
 ·cases h2
end
section
variable {H:Type} {enc:TypeId × Value->H} {w:World} {base:Nat} {spare:Nat->Bool} {held:Bool}
theorem q0j{n:Int}(h:(Lit.int .i64 n).wf=true) : -9223372036854775808<=n/\n<9223372036854775808:=by
 have e1:IntKind.i64.min = -9223372036854775808:=rfl;have e2:IntKind.i64.max=9223372036854775807:=rfl;simp only[Lit.wf,Bool.and_eq_true,decide_eq_true_eq,e1,e2]at h;omega
end
section
variable {H:Type} {enc:TypeId × Value->H} {w:World} {base:Nat} {spare:Nat->Bool} {held:Bool}
end
section
variable {H:Type} {enc:TypeId × Value->H} {P:Program} {w:World} {base:Nat} {spare:Nat->Bool} {held:Bool}
theorem ze9{fuel:Nat}{t:TypeId}{fs:Array Field}{cs:List Value}{x:DataW H × List MemPlace}(hs:P.underlying t=some (.struct fs))(hone:zh9 P fs=true)(hC:P.cellsOf t=fs.size)
  (h:DataW.trod enc P w base spare held fuel t cs=some x):∃ ns:List Int,ns.length=fs.size/\cs=ns.map (fun n=>Value.int .i64 n)/\∀ n∈ns,(Lit.int .i64 n).wf=true:=by
 obtain⟨xs,n,_,hx,hlen,hxl,hg⟩:=DataW.trod_struct hs h;rw[hC]at hlen;have hcell:∀ i (hi:i<cs.length),∃ n:Int,cs[i]= .int .i64 n/\(Lit.int .i64 n).wf=true:=by
  intro i hi;have hfi:fs[i]?=some fs[i]:=Array.getElem?_eq_getElem (by omega);obtain⟨ho,hk,hu⟩:=zif hone i _ hfi;have h1:=hg i _ hfi;rw[ho,hk]at h1;rw[List.drop_eq_getElem_cons hi]at h1;have hxi:xs[i]?=some (xs[i]'(by omega)):=List.getElem?_eq_getElem (by omega);rw[hxi]at h1;obtain⟨n,hn,hx⟩:=DataW.trod_int hu h1;have hn2:cs[i]::List.take 0 (List.drop (i+1) cs) = [.int .i64 n]:=hn;exact⟨n,(List.cons.inj hn2).1,hx.2⟩
 refine⟨cs.map intOf,by simpa using hlen,?_,fun n hn => ?_⟩
 ·rw[List.map_map];apply List.ext_getElem
  ·simp
  ·intro i h1 h2;obtain⟨n,hn,_⟩:=hcell i h1;simp[hn,intOf]
 ·obtain⟨v,hv,rfl⟩:=List.mem_map.1 hn;obtain⟨i,hi,he⟩:=List.mem_iff_getElem.1 hv;obtain⟨m,hm,hw⟩:=hcell i hi;have:v= .int .i64 m:=by rw[<- he,<- hm]
  rw[this];exact hw
end
structure LAct where
 kd:Int
 x:I4
 tt:W4
 mx:W4
 bk:Int
 dl:Int
 tl:Int
 sl:Bool
 fv:W4
def LAct.L(A:LAct):Array Value:=#[.int .i64 A.kd,.int .i64 A.x.1,.int .i64 A.x.2.1,.int .i64 A.x.2.2.1,.int .i64 A.x.2.2.2,.int .u64 A.tt.1,.int .u64 A.tt.2.1,.int .u64 A.tt.2.2.1,.int .u64 A.tt.2.2.2,.int .u64 A.mx.1,.int .u64 A.mx.2.1,.int .u64 A.mx.2.2.1,.int .u64 A.mx.2.2.2,.int .i64 A.bk,.int .i64 A.dl,.int .i64 A.tl,.bool A.sl,.int .u64 A.fv.1,.int .u64 A.fv.2.1,.int .u64 A.fv.2.2.1,.int .u64 A.fv.2.2.2]
structure LAct.Ok (A:LAct):Prop where
 x:A.x.Ok
 tt:A.tt.Ok
 mx:A.mx.Ok
 fv:A.fv.Ok
structure zlt (w:World) (a:Option Addr) (l:List LAct):Prop where
 at0:∀ k A,l[k]?=some A->∃ ad,a=some ad/\∀ j v,A.L[j]?=some v->w.cell? ((ad.add (k*21)).add j)=some v
 ok:∀ A∈l,A.Ok
theorem zgy{α:Type}{P:Nat->α->Prop}:∀ n,(∀ i,i<n->∃ y,P i y)->∃ l:List α,l.length=n/\∀ (i:Nat) y,l[i]?=some y->P i y
 | 0,_=>⟨[],rfl,fun i y h=>by simp at h⟩
 | n+1,h=>by
  obtain⟨l,hl,hp⟩:=zgy n fun i hi=>h i (by omega)
  obtain⟨z,hz⟩:=h n (by omega)
  refine⟨l ++ [z],by simp[hl],fun i y hy => ?_⟩
  rw[List.getElem?_append]at hy
  split at hy
  ·exact hp i y hy
  ·rename_i hi
   have:i=n:=by
    have:=(List.getElem?_eq_some_iff.1 hy).1;simp at this;omega
   subst this;rw[hl,Nat.sub_self]at hy;cases hy;exact hz
theorem zgd{n:Int}(h:(Lit.int .u64 n).wf=true):∃ m:Nat,n=m/\m<18446744073709551616:=by
 have e1:IntKind.u64.min=0:=rfl;have e2:IntKind.u64.max=18446744073709551615:=rfl;simp only[Lit.wf,Bool.and_eq_true,decide_eq_true_eq,e1,e2]at h;exact⟨n.toNat,by omega,by omega⟩
section
variable {H:Type} {enc:TypeId × Value->H} {w:World} {base:Nat} {spare:Nat->Bool} {held:Bool}
theorem zgf{fuel:Nat}{cs:List Value}{x:DataW H × List MemPlace}(h:DataW.trod enc Tryz.prog w base spare held fuel 24 cs=some x):∃ y:W4,cs=(uL y).toList/\y.Ok:=by
 have hc1:Tryz.prog.cellsOf 22=1:=by kernel_rfl
 have hc4:Tryz.prog.cellsOf 24=4:=by kernel_rfl
 obtain⟨xs,m,_,_,hlen,hxl,hf⟩:=DataW.trod_array Tryz.underlying24 h;rw[hc4]at hlen
 match cs,hlen,xs,hxl with
 | [c0,c1,c2,c3],_,[y0,y1,y2,y3],_ =>
  have h0:=hf 0 (by omega);have h1:=hf 1 (by omega);have h2:=hf 2 (by omega);have h3:=hf 3 (by omega);simp[hc1]at h0 h1 h2 h3;obtain⟨n0,e0,_,s0⟩:=DataW.trod_int Tryz.underlying22 h0;obtain⟨n1,e1,_,s1⟩:=DataW.trod_int Tryz.underlying22 h1;obtain⟨n2,e2,_,s2⟩:=DataW.trod_int Tryz.underlying22 h2;obtain⟨n3,e3,_,s3⟩:=DataW.trod_int Tryz.underlying22 h3;obtain⟨m0,rfl,b0⟩:=zgd s0;obtain⟨m1,rfl,b1⟩:=zgd s1;obtain⟨m2,rfl,b2⟩:=zgd s2;obtain⟨m3,rfl,b3⟩:=zgd s3;simp only[List.cons.injEq,and_true]at e0 e1 e2 e3;subst e0 e1 e2 e3;exact⟨(m0,m1,m2,m3),rfl,b0,b1,b2,b3⟩
theorem zt4{fuel:Nat}{cs:List Value}{x:DataW H × List MemPlace}(h:DataW.trod enc Tryz.prog w base spare held fuel 36 cs=some x):∃ (a b:W4) (k d t:Int) (s:Bool),cs=(chL a b k d t s).toList/\a.Ok/\b.Ok:=by
 have hc1:Tryz.prog.cellsOf 3=1:=by kernel_rfl
 have hcb:Tryz.prog.cellsOf 4=1:=by kernel_rfl
 have hc4:Tryz.prog.cellsOf 24=4:=by kernel_rfl
 have hc12:Tryz.prog.cellsOf 36=12:=by kernel_rfl
 obtain⟨xs,m,_,_,hlen,hxl,hf⟩:=DataW.trod_struct Tryz.underlying36 h;rw[hc12]at hlen
 match cs,hlen,xs,hxl with
 | [c0,c1,c2,c3,c4,c5,c6,c7,c8,c9,c10,c11],_,[y0,y1,y2,y3,y4,y5],_ =>
  have h0:=hf 0 _ rfl;have h1:=hf 1 _ rfl;have h2:=hf 2 _ rfl;have h3:=hf 3 _ rfl;have h4:=hf 4 _ rfl;have h5:=hf 5 _ rfl;simp[hc1,hc4,hcb]at h0 h1 h2 h3 h4 h5;obtain⟨a,ea,ka⟩:=zgf h0;obtain⟨b,eb,kb⟩:=zgf h1;obtain⟨n2,e2,_,_⟩:=DataW.trod_int Tryz.underlying3 h2;obtain⟨n3,e3,_,_⟩:=DataW.trod_int Tryz.underlying3 h3;obtain⟨n4,e4,_,_⟩:=DataW.trod_int Tryz.underlying3 h4;obtain⟨s5,e5,_⟩:=DataW.trod_bool Tryz.underlying4 h5;simp only[List.cons.injEq,and_true]at ea eb e2 e3 e4 e5;obtain⟨rfl,rfl,rfl,rfl⟩:=ea;obtain⟨rfl,rfl,rfl,rfl⟩:=eb;subst e2 e3 e4 e5;exact⟨a,b,n2,n3,n4,s5,rfl,ka,kb⟩
theorem zta{fuel:Nat}{cs:List Value}{x:DataW H × List MemPlace}(h:DataW.trod enc Tryz.prog w base spare held fuel 38 cs=some x):∃ A:LAct,cs=A.L.toList/\A.Ok:=by
 have hc1:Tryz.prog.cellsOf 3=1:=by kernel_rfl
 have hcI:Tryz.prog.cellsOf 34=4:=by kernel_rfl
 have hc4:Tryz.prog.cellsOf 24=4:=by kernel_rfl
 have hc12:Tryz.prog.cellsOf 36=12:=by kernel_rfl
 have hc21:Tryz.prog.cellsOf 38=21:=by kernel_rfl
 obtain⟨xs,m,_,_,hlen,hxl,hf⟩:=DataW.trod_struct Tryz.underlying38 h;rw[hc21]at hlen
 match cs,hlen,xs,hxl with
 | [c0,c1,c2,c3,c4,c5,c6,c7,c8,c9,c10,c11,c12,c13,c14,c15,c16,c17,c18,c19,c20],_,[y0,y1,y2,y3],_ =>
  have h0:=hf 0 _ rfl;have h1:=hf 1 _ rfl;have h2:=hf 2 _ rfl;have h3:=hf 3 _ rfl;simp[hc1,hc4,hcI,hc12]at h0 h1 h2 h3;obtain⟨n0,e0,_,_⟩:=DataW.trod_int Tryz.underlying3 h0;obtain⟨ns,hl1,e1,hw⟩:=ze9 Tryz.underlying34 (by kernel_rfl) (by kernel_rfl) h1;obtain⟨a,b,k,dl,tl,s,e2,ka,kb⟩:=zt4 h2;obtain⟨fv,e3,kf⟩:=zgf h3
  match ns,hl1 with
  | [x0,x1,x2,x3],_ =>
   simp only[List.map_cons,List.map_nil,List.cons.injEq,and_true]at e0 e1 e2 e3;obtain⟨rfl,rfl,rfl,rfl⟩:=e1;obtain⟨rfl,rfl,rfl,rfl,rfl,rfl,rfl,rfl,rfl,rfl,rfl,rfl⟩:=e2;obtain⟨rfl,rfl,rfl,rfl⟩:=e3;subst e0;exact⟨⟨n0,(x0,x1,x2,x3),a,b,k,dl,tl,s,fv⟩,rfl,⟨fun n hn=>(q0j (hw n hn)).2,ka,kb,kf⟩⟩
theorem zk9{r:Reach}{b0:Nat}{v:Value}{d:DataW H}{p:List MemPlace}(hv:Value.okWide Tryz.prog w r b0 32 v)(h:DataW.Trod enc Tryz.prog w base spare held 32 v d p) :
  ∃ (l:List LAct) (a:Option Addr) (c:Nat),v= .slice a l.length c/\zlt w a l:=by
 obtain⟨a,len,cap,rfl⟩:=okWide_slice Tryz.underlying32 hv;obtain⟨fuel,hf⟩:=h;have hc21:Tryz.prog.cellsOf 38=21:=by kernel_rfl
 rcases DataW.trod_slice Tryz.underlying32 hf with⟨h1,_⟩ | ⟨a',len',cap',elems,rest,n,_,h1,h2,_,_,_,hlen,hel,_⟩
 ·have h2:[Value.slice a len cap] = [.slice none 0 0]:=h1;cases h2;exact⟨[],none,0,rfl,fun k x hx=>(by simp at hx),fun x hx=>(by cases hx)⟩
 ·have h3:[Value.slice a len cap] = [.slice (some a') len' cap']:=h1;cases h3;rw[hc21]at hel;have each:∀ i,i<len->∃ A:LAct,w.cells? base (a'.add (i*21)) 21=some A.L.toList/\A.Ok:=fun i hi=>by
   have:=hel i hi;rw[List.getElem?_eq_getElem (by omega:i<elems.length),Option.bind_eq_some_iff]at this;obtain⟨cs,hcs,ht⟩:=this;obtain⟨A,rfl,hA⟩:=zta ht;exact⟨A,hcs,hA⟩
  obtain⟨l,hl,hp⟩:=zgy len each;subst hl;refine⟨l,some a',cap,rfl,fun k A hk=>⟨a',rfl,fun j v hj => ?_⟩,fun A hA => ?_⟩
  ·obtain⟨hcs,_⟩:=hp k A hk;obtain⟨_,_,hc⟩:=World.cells?_some hcs;have hj21:j<21:=(Array.getElem?_eq_some_iff.1 hj).1;rw[hc j hj21]
   simpa using hj
  ·obtain⟨i,hi⟩:=List.mem_iff_getElem?.1 hA;exact(hp i A hi).2
end
theorem zg1{P:Program}{ops:Array Oper}{rest:List Oper}{op:Oper}{a:Act}{w:World}{Q:Exit->Act->World->Prop}(hgd:op.guard=none)(ty:TypeId)(x:Operand)(ho:op.op= .load ty x)
  (p:Addr) (hx:a.eval x= .pointer (some p)) (cs:Array Value) (hc:∀ j v,cs[j]?=some v->w.cell? (p.add j)=some v) (d:TypeDesc) (hu:P.underlying ty=some d) (hd:d.isRow=true) (hi:(P.info? ty).map (·.size)=some cs.size)
  (h:wpList P ops Q rest (a.put op.dst (.agg cs)) w):wpList P ops Q (op::rest) a w:=by
 have hl:(loadCells p cs.size).run P w= .ok cs w:=by
  have:=run_loadCells_list (P:=P) w p cs.toList (fun j v hv=>hc j v (by simpa using hv))
  simpa using this
 refine wpList_plain hgd fun _ hK => ?_
 cases hq:P.info? ty with
 | none=>simp[hq]at hi
 | some i =>
  have hs:i.size=cs.size:=by simpa [hq]using hi
  have hagg:(isAgg ty).run P w= .ok true w:=by
   unfold isAgg;rw[Sem.run_bind,run_underlying hu w];cases d<;>simp_all
  have hv:(loadVar ty p).run P w= .ok (.agg cs) w:=by simp[loadVar,Sem.run_bind,hagg,sizeOf,typeInfo,hq,hs,hl]
  unfold Oper.wp execOp;simp only[ho,hx,Instr.loadAt,Instr.sureAddr,Sem.run_bind,Sem.run_pure,Result.andThen_ok,hv];exact hK _ _ h
theorem zto(A:LAct):A.L.all (·.oneCell')=true:=by simp[LAct.L,Value.oneCell']
abbrev actO(A:LAct):Obj:=.cells A.L 38
theorem z7o{w:World}{g:Nat}{A:LAct}(h:w.heap[g]?=some (actO A)):w.cell? ⟨g,0,none⟩=some (.int .i64 A.kd) /\
  (w.cell? ⟨g,1,none⟩=some (.int .i64 A.x.1)/\w.cell? ⟨g,2,none⟩=some (.int .i64 A.x.2.1)/\w.cell? ⟨g,3,none⟩=some (.int .i64 A.x.2.2.1)/\w.cell? ⟨g,4,none⟩=some (.int .i64 A.x.2.2.2)) /\
  (w.cell? ⟨g,5,none⟩=some (.int .u64 A.tt.1)/\w.cell? ⟨g,6,none⟩=some (.int .u64 A.tt.2.1)/\w.cell? ⟨g,7,none⟩=some (.int .u64 A.tt.2.2.1)/\w.cell? ⟨g,8,none⟩=some (.int .u64 A.tt.2.2.2)) /\
  (w.cell? ⟨g,9,none⟩=some (.int .u64 A.mx.1)/\w.cell? ⟨g,10,none⟩=some (.int .u64 A.mx.2.1)/\w.cell? ⟨g,11,none⟩=some (.int .u64 A.mx.2.2.1)/\w.cell? ⟨g,12,none⟩=some (.int .u64 A.mx.2.2.2)) /\
  (w.cell? ⟨g,13,none⟩=some (.int .i64 A.bk)/\w.cell? ⟨g,14,none⟩=some (.int .i64 A.dl)/\w.cell? ⟨g,15,none⟩=some (.int .i64 A.tl)/\w.cell? ⟨g,16,none⟩=some (.bool A.sl)) /\
  (w.cell? ⟨g,17,none⟩=some (.int .u64 A.fv.1)/\w.cell? ⟨g,18,none⟩=some (.int .u64 A.fv.2.1)/\w.cell? ⟨g,19,none⟩=some (.int .u64 A.fv.2.2.1)/\w.cell? ⟨g,20,none⟩=some (.int .u64 A.fv.2.2.2))/\∀ j,w.frozen? ⟨g,j,none⟩=false:=by
 have hc:∀ (o:Nat) v,A.L[o]?=some v->w.cell? ⟨g,o,none⟩=some v:=fun o v hv=>by rw[cell_of_row _ _ _ _ _ _ h];exact hv
 exact⟨hc 0 _ rfl,⟨hc 1 _ rfl,hc 2 _ rfl,hc 3 _ rfl,hc 4 _ rfl⟩,⟨hc 5 _ rfl,hc 6 _ rfl,hc 7 _ rfl,hc 8 _ rfl⟩,⟨hc 9 _ rfl,hc 10 _ rfl,hc 11 _ rfl,hc 12 _ rfl⟩,⟨hc 13 _ rfl,hc 14 _ rfl,hc 15 _ rfl,hc 16 _ rfl⟩,⟨hc 17 _ rfl,hc 18 _ rfl,hc 19 _ rfl,hc 20 _ rfl⟩,fun j=>frozen_of_row _ _ _ _ _ h⟩
section
variable {wb W:World} {q:Option Addr} {L:List Nat} {k:Nat} {m:W4} {s:St} {rs:List (Nat × Obj)}
end
section
variable {ops:Array Oper} {o:Oper} {a:Go.Act} {w:World} {K:Value->World->Prop} {x y:Operand}
theorem zba(hg:Region.wanted o (yielded ops a.tmps)=true){g:Nat}(ho:o.op= .fieldAddr 38 x 1)(hx:a.eval x= .pointer (some ⟨g,0,none⟩))(hk:K (.pointer (some ⟨g,1,none⟩)) w):rgDo Tryz.prog ops o a w K:=by
 refine z0o hg ?_ hk;clear hg hk;generalize a.eval=ev at hx ⊢;unfold execOp;simp only[ho,hx]
 go_simp
theorem zvi(hg:Region.wanted o (yielded ops a.tmps)=true){i j:Int}{b:Bool}(ho:o.op= .binOp .neq 3 x y 3)(hx:a.eval x= .int .i64 i)(hy:a.eval y= .int .i64 j)(hb:(i != j)=b)(hk:K (.bool b) w):rgDo Tryz.prog ops o a w K:=by
 subst hb;refine z0o hg ?_ hk;clear hg hk;generalize a.eval=ev at hx hy ⊢;unfold execOp;simp only[ho,hx,hy]
 go_simp
theorem zja{u:W4}(hg:Region.wanted o (yielded ops a.tmps)=true)(ho:o.op= .binOp .neq 24 x y 24)(hx:a.eval x=uV u)(hy:a.eval y=uV u)(hk:K (.bool false) w):rgDo Tryz.prog ops o a w K:=by
 refine z0o hg ?_ hk;clear hg hk;generalize a.eval=ev at hx hy ⊢;unfold execOp;have:=eqU u u w;rw[decide_eq_true rfl]at this;have hq:Program.eqGuardType Tryz.prog Tryz.prog.depth 24=false:=by kernel_rfl
 simp only[ho,hx,hy]
 go_simp
end
def z97(q:Option Addr)(on:Bool)(b:Nat)(m:St):World->List Nat->St->Prop:=fun W K s=>∃ L M,K=L++M/\(∀ k∈L,k∉M)/\QSt W ⟨q,on,L⟩ s/\RRep W b m M
theorem z5k(q:Option Addr)(on:Bool)(b:Nat)(m:St):ziz (z97 q on b m):=by
 refine⟨fun W K s h k hk => ?_,fun W W' K s h hs hb => ?_⟩
 ·obtain⟨L,M,rfl,_,h1,h2⟩:=h;rcases List.mem_append.1 hk with h3 | h3
  ·exact h1.lt k h3
  ·exact h2.lt k h3
 ·obtain⟨L,M,rfl,hd,h1,h2⟩:=h;exact⟨L,M,rfl,hd,h1.frame hs fun k hk=>hb k (List.mem_append_left _ hk),h2.frame fun k hk=>hb k (List.mem_append_right _ hk)⟩
theorem QV.zyq{R R':World->List Nat->St->Prop}{w W:World}{L:List Nat}{s s':St}{rs:List (Nat × Obj)}(h:QV R w L s rs W)(hR:ziz R'){f:FuncId}{args:Array Value}{v:Value}(hC:∀ L',R W L' s->Calls Tryz.prog f args W fun e W'=>e= .returned v/\∃ L'',R' W' L'' s'/\Step W L' W' L''):Calls Tryz.prog f args W fun e W'=>e= .returned v/\QV R' w L s' rs W':=by
 obtain⟨L',h1,h2,h3⟩:=h.on;refine(hC L' h1).mono fun e W' ⟨he,L2,hR2,st⟩=>⟨he,hR,⟨L2,hR2,h2.trans st,fun g o hm hk => ?_⟩,fun g o hm=>⟨h.le hm,(st.fr.block g (z01 (h.row hm)) (h3 g o hm)).trans (h.row hm)⟩⟩
 rcases st.own g hk with h4 | h4
 ·exact h3 g o hm h4
 ·exact absurd (z01 (h.row hm)) (Nat.not_lt.2 h4)
abbrev PV(h:Hand)(b:Nat)(m:St)(w:World)(K:List Nat)(s:St)(rs:List (Nat × Obj))(W:World):Prop:=QV (z97 h.ptr h.on b m) w K s rs W
theorem PV.zxa{h:Hand}{b:Nat}{m:St}{w W:World}{K:List Nat}{s s':St}{rs:List (Nat × Obj)}(hP:PV h b m w K s rs W){f:FuncId}{args:Array Value}{v:Value}(hC:∀ L,QSt W ⟨h.ptr,h.on,L⟩ s->Calls Tryz.prog f args W fun e W'=>e= .returned v/\QOn W ⟨h.ptr,h.on,L⟩ s' W') :
  Calls Tryz.prog f args W fun e W'=>e= .returned v/\PV h b m w K s' rs W':=by
 refine QV.call hP fun K' hK => ?_
 obtain⟨L,M,rfl,hd,h1,h2⟩:=hK;refine(hC L h1).mono fun e W' ⟨he,L',h3,st⟩=>⟨he,L'++M,⟨L',M,rfl,fun k hk hm => ?_,h3,h2.frame fun k hk=>st.fr.block k (h2.lt k hk) fun hl=>hd k hl hk⟩,⟨st.fr.mono fun k _ hk=>List.mem_append_left _ hk,fun k hk => ?_⟩⟩
 ·rcases st.own k hk with h4 | h4
  ·exact hd k h4 hm
  ·exact absurd (h2.lt k hm) (Nat.not_lt.2 h4)
 ·rcases List.mem_append.1 hk with h4 | h4
  ·rcases st.own k h4 with h5 | h5
   ·exact .inl (List.mem_append_left _ h5)
   ·exact .inr h5
  ·exact .inl (List.mem_append_right _ h4)
theorem PV.zwa{h:Hand}{b:Nat}{m m':St}{w W:World}{K:List Nat}{s:St}{rs:List (Nat × Obj)}(hP:PV h b m w K s rs W){f:FuncId}{args:Array Value}{v:Value}(hC:∀ M,RRep W b m M->Calls Tryz.prog f args W fun e W'=>e= .returned v/\ROn W b M m' W') :
  Calls Tryz.prog f args W fun e W'=>e= .returned v/\PV h b m' w K s rs W':=by
 refine QV.zyq hP (z5k _ _ _ _) fun K' hK => ?_
 obtain⟨L,M,rfl,hd,h1,h2⟩:=hK;refine(hC M h2).mono fun e W' ⟨he,M',h3,st⟩=>⟨he,L++M',⟨L,M',rfl,fun k hk hm => ?_,h1.frame st.fr.size fun k hk=>st.fr.block k (h1.lt k hk) fun hl=>hd k hk hl,h3⟩,⟨st.fr.mono fun k _ hk=>List.mem_append_right _ hk,fun k hk => ?_⟩⟩
 ·rcases st.own k hm with h4 | h4
  ·exact hd k hk h4
  ·exact absurd (h1.lt k hk) (Nat.not_lt.2 h4)
 ·rcases List.mem_append.1 hk with h4 | h4
  ·exact .inl (List.mem_append_left _ h4)
  ·rcases st.own k h4 with h5 | h5
   ·exact .inl (List.mem_append_right _ h5)
   ·exact .inr h5
theorem PV.zb5{h:Hand}{b:Nat}{m:St}{w W:World}{K:List Nat}{s:St}{rs:List (Nat × Obj)}(hP:PV h b m w K s rs W){f:FuncId}{args:Array Value}{v:Value}(hC:∀ L,QSt W ⟨h.ptr,h.on,L⟩ s->Calls Tryz.prog f args W fun e W'=>e= .returned v/\Below W.heap.size W W') :
  Calls Tryz.prog f args W fun e W'=>e= .returned v/\PV h b m w K s rs W':=
 QV.reads hP fun _ ⟨L,_,_,_,h1,_⟩=>hC L h1
theorem PV.zb3{h:Hand}{b:Nat}{m:St}{w W:World}{K:List Nat}{s:St}{rs:List (Nat × Obj)}(hP:PV h b m w K s rs W){f:FuncId}{args:Array Value}{v:Value}(hC:∀ M,RRep W b m M->Calls Tryz.prog f args W fun e W'=>e= .returned v/\Below W.heap.size W W') :
  Calls Tryz.prog f args W fun e W'=>e= .returned v/\PV h b m w K s rs W':=
 QV.reads hP fun _ ⟨_,M,_,_,_,h2⟩=>hC M h2
def POn(h:Hand)(b:Nat)(w:World)(K:List Nat)(s m:St)(W:World):Prop:=∃ K',z97 h.ptr h.on b m W K' s/\Step w K W K'
theorem PV.done{h:Hand}{b:Nat}{m:St}{w W:World}{K:List Nat}{s:St}{rs:List (Nat × Obj)}(hP:PV h b m w K s rs W):POn h b w K s m W:=QV.done hP
theorem zk4{w0 w W:World}{K K':List Nat}(hb:Below w0.heap.size w0 w)(hK:∀ j∈K,w0.heap.size<=j)(st:Step w K W K'):Below w0.heap.size w0 W/\∀ j∈K',w0.heap.size<=j:=by
 refine⟨⟨st.fr.os.trans hb.os,st.fr.tape.trans hb.tape,st.fr.output.trans hb.output,Nat.le_trans hb.size st.fr.size,fun k hk => ?_⟩,fun j hj => ?_⟩
 ·rw[st.fr.block k (Nat.lt_of_lt_of_le hk hb.size) (fun hm=>absurd (hK k hm) (by omega))];exact hb.block k hk
 ·rcases st.own j hj with h | h
  ·exact hK j h
  ·exact Nat.le_trans hb.size h
theorem PV.two{h:Hand}{b:Nat}{m:St}{w W:World}{K:List Nat}{s:St}{rs:List (Nat × Obj)}(hP:PV h b m w K s rs W):∃ L M,QSt W ⟨h.ptr,h.on,L⟩ s/\RRep W b m M:=by
 obtain⟨K',⟨L,M,_,_,h1,h2⟩,_⟩:=hP.on;exact⟨L,M,h1,h2⟩
abbrev LRow(m:Nat)(a:Option Addr)(n c:Nat)(w:World):Prop:=w.cell? ⟨m,0,none⟩=some (.slice a n c)
theorem zqb(w:World):RRep (w.alloc (.cells #[.slice none 0 0,.slice none 0 0] 45)) w.heap.size ⟨[],[]⟩ [w.heap.size]:=
 ⟨.slice none 0 0,.slice none 0 0,⟨heap_alloc_new w _,Own.nil _ _ _,Own.nil _ _ _,List.Pairwise.nil,by simp[Value.ownBlock]⟩,by simp[rids,Value.ownBlock]⟩
def z7m(s:St)(A:LAct):St:=if A.kd=0 then mdSt s A.x A.tt A.mx A.bk A.dl A.tl A.sl else if A.kd=1 then mtSt s A.x else ctSt s A.x A.fv
def z6t(s:St)(A:LAct):St:=if A.kd=0 then mdSt s A.x A.tt A.mx A.bk A.dl A.tl A.sl else if A.kd=1 then mtSt s A.x else z95 s A.x A.fv
def LPh(h:Hand)(b:Nat)(w:World)(K:List Nat)(s s1 m m1:St)(rs:List (Nat × Obj)):Nat->World->Prop
 | 0,W=>PV h b m w K s rs W
 | 1,W=>PV h b m w K s1 rs W
 | _+2,W=>PV h b m1 w K s1 rs W
theorem LPh.row{h:Hand}{b:Nat}{w W:World}{K:List Nat}{s s1 m m1:St}{rs:List (Nat × Obj)}{p:Nat}(hP:LPh h b w K s s1 m m1 rs p W){g:Nat}{o:Obj}(hm:(g,o)∈rs):W.heap[g]?=some o:=by
 match p,hP with
 | 0,hP=>exact QV.row hP hm
 | 1,hP=>exact QV.row hP hm
 | _+2,hP=>exact QV.row hP hm
section
variable {ops:Array Oper} {o:Oper} {a:Go.Act} {w:World} {K:Value->World->Prop} {x y:Operand} {g:Nat}
theorem zei{A:LAct}(hg:Region.wanted o (yielded ops a.tmps)=true)(ho:o.op= .load 34 x)(hx:a.eval x= .pointer (some ⟨g,1,none⟩))(hr:w.heap[g]?=some (actO A))(hk:K (idV A.x) w):rgDo Tryz.prog ops o a w K:=by
 obtain⟨_,⟨c0,c1,c2,c3⟩,_⟩:=z7o hr;refine z0o hg ?_ hk;clear hg hk hr;generalize a.eval=ev at hx ⊢;unfold execOp;simp only[ho,hx]
 go_simp
theorem zve(hg:Region.wanted o (yielded ops a.tmps)=true){u:Bool}(ho:o.op= .binOp .eql 4 x y 4)(hx:a.eval x= .bool u)(hy:a.eval y= .bool u)(hk:K (.bool true) w):rgDo Tryz.prog ops o a w K:=by
 refine z0o hg ?_ hk;clear hg hk;generalize a.eval=ev at hx hy ⊢;unfold execOp;simp only[ho,hx,hy];cases u<;>go_simp
end
theorem zs7(w:World)(h:Hand)(b:Nat)(K:List Nat)(s m:St)(f0 k:Nat)(A:LAct)(hkd:A.kd=0)(hon:h.on=true)(hA:A.Ok)(hP:z97 h.ptr h.on b m w K s)(hfs:s.Fit f0)(hfm:m.Fit f0)(hm:f0<1000000)(hg:AG k s)(he:s.ents=m.ents)(hk:k<100000) :
  Calls Tryz.prog 16 #[.pointer h.ptr,.pointer (some ⟨b,0,none⟩),.agg A.L] w fun e w'=>e= .returned (.bool true)/\POn h b w K (mdSt s A.x A.tt A.mx A.bk A.dl A.tl A.sl) (mdSt m A.x A.tt A.mx A.bk A.dl A.tl A.sl) w':=by
 have hB:=((QV.start (z5k _ _ _ _) hP).alloc (actO A)).alloc (riO A.x);simp only[World.size_alloc]at hB;have hgm:=hg.congr he;have HT:Hid (∀ rs W',PV h b m w K s rs W'->Calls Tryz.prog 19 #[.pointer h.ptr,idV A.x,chV A.tt A.mx A.bk A.dl A.tl A.sl] W' fun e w'=>e= .returned (.tuple #[.int .i64 (mdN s A.x A.tt A.mx A.bk A.dl A.tl A.sl),.int .i64 (mdE s A.x A.tt A.mx A.bk A.dl A.tl A.sl)])/\PV h b m w K (mdSt s A.x A.tt A.mx A.bk A.dl A.tl A.sl) rs w'):=fun rs W' hW=>PV.zxa hW fun L h1=>zic W' ⟨h.ptr,h.on,L⟩ s f0 A.bk A.dl A.tl A.x A.tt A.mx A.sl hon hA.x hA.tt hA.mx h1 hfs (by omega) fun _ _=>zos hg hk hfs (by omega) _ _ _ _ _ _ _
 have HR:Hid (∀ s1 rs W',PV h b m w K s1 rs W'->Calls Tryz.prog 60 #[.pointer (some ⟨b,0,none⟩),idV A.x,chV A.tt A.mx A.bk A.dl A.tl A.sl] W' fun e w'=>e= .returned (.tuple #[.int .i64 (mdN s A.x A.tt A.mx A.bk A.dl A.tl A.sl),.int .i64 (mdE s A.x A.tt A.mx A.bk A.dl A.tl A.sl)])/\PV h b (mdSt m A.x A.tt A.mx A.bk A.dl A.tl A.sl) w K s1 rs w'):=fun s1 rs W' hW=>by
  rw[zr9 he,zow he];exact PV.zwa hW fun M h1=>zr5 W' b M m f0 A.bk A.dl A.tl A.x A.tt A.mx A.sl hA.x hA.tt hA.mx h1 hfm (by omega) fun _ hb=>⟨zos hgm hk hfm (by omega) _ _ _ _ _ _ _,zvq hgm hk _ _ hb⟩
 have HB:=zh hB;clear hB hgm hP hfs hfm hg he hA hon;generalize mdSt s A.x A.tt A.mx A.bk A.dl A.tl A.sl=s1 at *
 generalize mdSt m A.x A.tt A.mx A.bk A.dl A.tl A.sl=m1 at *
 generalize mdN s A.x A.tt A.mx A.bk A.dl A.tl A.sl=aN at *
 generalize mdE s A.x A.tt A.mx A.bk A.dl A.tl A.sl=aE at *
 obtain⟨kd,⟨x0,x1,x2,x3⟩,T,M,B,D,N,S,F⟩:=A;dsimp only at *
 subst hkd;go_enter Tryz.func16,Tryz.ntmps16;go_upto_region 1 with fail;generalize hwA:w.alloc (.cells (LAct.L ⟨0,(x0,x1,x2,x3),T,M,B,D,N,S,F⟩) 38)=wA at *
 have hrA:wA.heap[w.heap.size]?=some (actO ⟨0,(x0,x1,x2,x3),T,M,B,D,N,S,F⟩):=by rw[<- hwA];exact heap_alloc_new w _
 have hzA:wA.heap.size=w.heap.size+1:=by rw[<- hwA];exact World.size_alloc ..
 obtain⟨_,⟨cx0,cx1,cx2,cx3⟩,_⟩:=z7o hrA;clear hwA hrA;go_upto_region 2 with fail;generalize wA.alloc (riO (x0,x1,x2,x3))=w1 at *
 generalize w.heap.size=g1 at *
 clear cx0 cx1 cx2 cx3 hzA;obtain⟨ck,⟨cx0,cx1,cx2,cx3⟩,⟨ct0,ct1,ct2,ct3⟩,⟨cm0,cm1,cm2,cm3⟩,⟨cb,cd,cl,cs⟩,_⟩:=z7o (HB.out.row (g:=g1) (o:=actO ⟨0,(x0,x1,x2,x3),T,M,B,D,N,S,F⟩) (by simp));have HT1:=zh (HT.out _ _ HB.out);clear HB HT;go_wp2_with fail;refine zm HT1.out ?_;rintro e w2 ⟨rfl,hB2⟩;clear HT1 ck cx0 cx1 cx2 cx3 ct0 ct1 ct2 ct3 cm0 cm1 cm2 cm3 cb cd cl cs;obtain⟨ck,_,⟨ct0,ct1,ct2,ct3⟩,⟨cm0,cm1,cm2,cm3⟩,⟨cb,cd,cl,cs⟩,_⟩:=z7o (hB2.row (g:=g1) (o:=actO ⟨0,(x0,x1,x2,x3),T,M,B,D,N,S,F⟩) (by simp));obtain⟨i0,i1,i2,i3⟩:=z0a (hB2.row (g:=g1+1) (o:=riO (x0,x1,x2,x3)) (by simp));have HR2:=zh (HR.out _ _ _ hB2);clear hB2 HR;go_wp2_with fail;refine zm HR2.out ?_;rintro e w3 ⟨rfl,hB3⟩;have HD:=zh (PV.done hB3);clear hB3 HR2 ck ct0 ct1 ct2 ct3 cm0 cm1 cm2 cm3 cb cd cl cs i0 i1 i2 i3;go_wp2_with fail;go_ret;exact⟨by first | rfl | simp,HD.out⟩
theorem zsv(w:World)(h:Hand)(b:Nat)(K:List Nat)(s m:St)(f0 k:Nat)(A:LAct)(hkd:A.kd=1)(hon:h.on=true)(hA:A.Ok)(hP:z97 h.ptr h.on b m w K s)(hfs:s.Fit f0)(hfm:m.Fit f0)(hm:f0<1000000)(hg:AG k s)(he:s.ents=m.ents)(hk:k<100000) :
  Calls Tryz.prog 16 #[.pointer h.ptr,.pointer (some ⟨b,0,none⟩),.agg A.L] w fun e w'=>e= .returned (.bool true)/\POn h b w K (mtSt s A.x) (mtSt m A.x) w':=by
 have hB:=((QV.start (z5k _ _ _ _) hP).alloc (actO A)).alloc (riO A.x);simp only[World.size_alloc]at hB;have hgm:=hg.congr he;have HT:Hid (∀ rs W',PV h b m w K s rs W'->Calls Tryz.prog 23 #[.pointer h.ptr,idV A.x] W' fun e w'=>e= .returned (.bool (!decide ((pend s A.x).1=0)))/\PV h b m w K (mtSt s A.x) rs w'):=fun rs W' hW=>PV.zxa hW fun L h1=>zhg W' ⟨h.ptr,h.on,L⟩ s f0 A.x hon hA.x h1 hfs (by omega) (Nat.lt_of_le_of_lt ((zln hg A.x).eb _ _) (by omega))
 have HR:Hid (∀ s1 rs W',PV h b m w K s1 rs W'->Calls Tryz.prog 61 #[.pointer (some ⟨b,0,none⟩),idV A.x] W' fun e w'=>e= .returned (.bool (!decide ((pend s A.x).1=0)))/\PV h b (mtSt m A.x) w K s1 rs w'):=fun s1 rs W' hW=>by
  rw[z3g he];exact PV.zwa hW fun M h1=>zol W' b M m f0 A.x hA.x (zyo hgm A.x) h1 hfm (by omega) (Nat.lt_of_le_of_lt ((zln hgm A.x).eb _ _) (by omega))
 have HB:=zh hB;clear hB hgm hP hfs hfm hg he hA hon;generalize mtSt s A.x=s1 at *
 generalize mtSt m A.x=m1 at *
 generalize (!decide ((pend s A.x).1=0))=bv at *
 obtain⟨kd,⟨x0,x1,x2,x3⟩,T,M,B,D,N,S,F⟩:=A;dsimp only at *
 subst hkd;go_enter Tryz.func16,Tryz.ntmps16;go_upto_region 1 with fail;generalize hwA:w.alloc (.cells (LAct.L ⟨1,(x0,x1,x2,x3),T,M,B,D,N,S,F⟩) 38)=wA at *
 have hrA:wA.heap[w.heap.size]?=some (actO ⟨1,(x0,x1,x2,x3),T,M,B,D,N,S,F⟩):=by rw[<- hwA];exact heap_alloc_new w _
 have hzA:wA.heap.size=w.heap.size+1:=by rw[<- hwA];exact World.size_alloc ..
 obtain⟨_,⟨cx0,cx1,cx2,cx3⟩,_⟩:=z7o hrA;clear hwA hrA;go_upto_region 2 with fail;generalize wA.alloc (riO (x0,x1,x2,x3))=w1 at *
 generalize w.heap.size=g1 at *
 clear cx0 cx1 cx2 cx3 hzA;obtain⟨ck,_⟩:=z7o (HB.out.row (g:=g1) (o:=actO ⟨1,(x0,x1,x2,x3),T,M,B,D,N,S,F⟩) (by simp));have H0:Hid (PV h b m w K s [(g1+1,riO (x0,x1,x2,x3)),(g1,actO ⟨1,(x0,x1,x2,x3),T,M,B,D,N,S,F⟩)] w1.drew):=zh (HB.out.below (z0i (Below.refl _ w1)));clear HB;go_upto_region 8 with fail;refine z05 [[],[],[1],[0,2],[],[],[3,4,5],[3,6],[7]]
  [.pointer h.ptr,.pointer (some ⟨g1,1,none⟩),idV (x0,x1,x2,x3),.bool bv,.pointer (some ⟨b,0,none⟩),idV (x0,x1,x2,x3),.bool bv,.bool true,.bool true]
  [3,6] (LPh h b w K s s1 m m1 [(g1+1,riO (x0,x1,x2,x3)),(g1,actO ⟨1,(x0,x1,x2,x3),T,M,B,D,N,S,F⟩)]) _ (by kernel_rfl) (by kernel_rfl) (by kernel_rfl)
  (fun vs=>by simp only[z0z,z1b,List.setIfInBounds_toArray,List.set_cons_zero,List.set_cons_succ];exact rfl)
  (by simp only[List.getD_cons_zero,List.getD_cons_succ];exact rfl) H0.out ?_ ?_
 ·exact⟨
  fun _ _ _ _ hP _=>z0c rfl (.inl rfl) rfl ⟨rfl,hP⟩,
  fun _ _ _ _ hP _=>zba rfl rfl rfl ⟨rfl,hP⟩,
  fun _ _ _ hA hP _=>zei (A:=⟨1,(x0,x1,x2,x3),T,M,B,D,N,S,F⟩) rfl rfl hA.1 (hP.row (by simp)) ⟨rfl,hP⟩,
  fun _ _ _ hA hP hq=>by cases hq 0 rfl;exact z0m rfl rfl rfl (by kernel_rfl) (rgL2 hA.1 hA.2.1) (HT.out _ _ hP) fun _ hP2=>⟨rfl,hP2⟩,
  fun _ _ _ _ hP _=>z0c rfl (.inl rfl) rfl ⟨rfl,hP⟩,
  fun _ _ _ _ hP _=>z3b rfl rfl rfl (hP.row (by simp)) ⟨rfl,hP⟩,
  fun _ _ _ hA hP hq=>by cases hq 1 rfl;exact z0m rfl rfl rfl (by kernel_rfl) (rgL2 hA.2.1 hA.2.2.1) (HR.out _ _ _ hP) fun _ hP2=>⟨rfl,hP2⟩,
  fun _ _ _ hA hP _=>zve rfl rfl hA.1 hA.2.1 ⟨rfl,hP⟩,
  fun _ _ _ hA hP _=>z0c rfl (.inr rfl) hA.1 ⟨rfl,hP⟩,
  trivial⟩
 intro w5 hB5;have HD:=zh (PV.done (rs:=[(g1+1,riO (x0,x1,x2,x3)),(g1,actO ⟨1,(x0,x1,x2,x3),T,M,B,D,N,S,F⟩)]) hB5);clear hB5 ck HT HR H0;go_wp2_with fail;go_ret;exact⟨by first | rfl | simp,HD.out⟩
theorem zug(w:World)(h:Hand)(b:Nat)(K:List Nat)(s m:St)(f0:Nat)(A:LAct)(h0:A.kd≠0)(h1:A.kd≠1)(hon:h.on=true)(hA:A.Ok)(hP:z97 h.ptr h.on b m w K s)(hfs:s.Fit f0)(hfm:m.Fit f0)(hm:f0<1000000)(he:s.ents=m.ents) :
  Calls Tryz.prog 16 #[.pointer h.ptr,.pointer (some ⟨b,0,none⟩),.agg A.L] w fun e w'=>e= .returned (.bool true)/\POn h b w K (ctSt s A.x A.fv) (z95 m A.x A.fv) w':=by
 have hB:=((QV.start (z5k _ _ _ _) hP).alloc (actO A)).alloc (riO A.x);simp only[World.size_alloc]at hB;have HT:Hid (∀ rs W',PV h b m w K s rs W'->Calls Tryz.prog 25 #[.pointer h.ptr,idV A.x,uV A.fv] W' fun e w'=>e= .returned (.tuple #[uV (ctW s A.x A.fv),.int .i64 (ctE s A.x A.fv)])/\PV h b m w K (ctSt s A.x A.fv) rs w'):=fun rs W' hW=>PV.zxa hW fun L h1=>zzl W' ⟨h.ptr,h.on,L⟩ s f0 A.x A.fv hon hA.x hA.fv h1 hfs (by omega)
 have HR:Hid (∀ s1 rs W',PV h b m w K s1 rs W'->Calls Tryz.prog 62 #[.pointer (some ⟨b,0,none⟩),idV A.x,uV A.fv] W' fun e w'=>e= .returned (.tuple #[uV (ctW s A.x A.fv),.int .i64 (ctE s A.x A.fv)])/\PV h b (z95 m A.x A.fv) w K s1 rs w'):=fun s1 rs W' hW=>by
  rw[zrd he,zdb he];exact PV.zwa hW fun M h1=>zyg W' b M m f0 A.x A.fv hA.x hA.fv h1 hfm (by omega)
 have HB:=zh hB;clear hB hP hfs hfm he hA hon;generalize ctSt s A.x A.fv=s1 at *
 generalize z95 m A.x A.fv=m1 at *
 generalize ctW s A.x A.fv=u1 at *
 generalize ctE s A.x A.fv=aE at *
 obtain⟨kd,⟨x0,x1,x2,x3⟩,T,M,B,D,N,S,F⟩:=A;dsimp only at *
 have d0:(kd==0)=false:=by rw[beq_eq_false_iff_ne];exact h0
 have d1:(kd==1)=false:=by rw[beq_eq_false_iff_ne];exact h1
 clear h0 h1;go_enter Tryz.func16,Tryz.ntmps16;go_upto_region 1 with fail;generalize hwA:w.alloc (.cells (LAct.L ⟨kd,(x0,x1,x2,x3),T,M,B,D,N,S,F⟩) 38)=wA at *
 have hrA:wA.heap[w.heap.size]?=some (actO ⟨kd,(x0,x1,x2,x3),T,M,B,D,N,S,F⟩):=by rw[<- hwA];exact heap_alloc_new w _
 have hzA:wA.heap.size=w.heap.size+1:=by rw[<- hwA];exact World.size_alloc ..
 obtain⟨_,⟨cx0,cx1,cx2,cx3⟩,_⟩:=z7o hrA;clear hwA hrA;go_upto_region 2 with fail;generalize wA.alloc (riO (x0,x1,x2,x3))=w1 at *
 generalize w.heap.size=g1 at *
 clear cx0 cx1 cx2 cx3 hzA;obtain⟨ck,⟨cx0,cx1,cx2,cx3⟩,_,_,_,⟨cf0,cf1,cf2,cf3⟩,_⟩:=z7o (HB.out.row (g:=g1) (o:=actO ⟨kd,(x0,x1,x2,x3),T,M,B,D,N,S,F⟩) (by simp));have HT1:=zh (HT.out _ _ HB.out);clear HB HT;go_wp2_with fail;refine zm HT1.out ?_;rintro e w2 ⟨rfl,hB2⟩;have HB3:=zh (hB2.alloc (uO u1));clear HT1 hB2 ck cx0 cx1 cx2 cx3 cf0 cf1 cf2 cf3;go_upto_region 10 with fail;generalize w2.alloc (uO u1)=w3 at *
 generalize w2.heap.size=g3 at *
 obtain⟨_,_,_,_,_,⟨cf0,cf1,cf2,cf3⟩,_⟩:=z7o (HB3.out.row (g:=g1) (o:=actO ⟨kd,(x0,x1,x2,x3),T,M,B,D,N,S,F⟩) (by simp));obtain⟨i0,i1,i2,i3⟩:=z0a (HB3.out.row (g:=g1+1) (o:=riO (x0,x1,x2,x3)) (by simp));have HR3:=zh (HR.out _ _ _ HB3.out);clear HB3 HR;go_wp2_with fail;refine zm HR3.out ?_;rintro e w4 ⟨rfl,hB4⟩;have HB5:=zh (hB4.alloc (uO u1));clear HR3 hB4 cf0 cf1 cf2 cf3 i0 i1 i2 i3;go_upto_region 11 with fail;generalize w4.alloc (uO u1)=w5 at *
 generalize w4.heap.size=g5 at *
 obtain⟨a0,a1,a2,a3,_⟩:=row4 (HB5.out.row (g:=g3) (o:=uO u1) (by simp));obtain⟨b0,b1,b2,b3,_⟩:=row4 (HB5.out.row (g:=g5) (o:=uO u1) (by simp));have HD:=zh (PV.done HB5.out);have hE:∀ w,(Op.equalIn 10000 24 (uV u1) (uV u1)).run Tryz.prog w= .ok true w:=fun w=>by
  have:=eqU u1 u1 w
  rwa [decide_eq_true rfl]at this
 clear HB5;go_wp2_with fail;go_ret;exact⟨by first | rfl | simp,HD.out⟩
theorem zt2(w:World)(h:Hand)(b:Nat)(K:List Nat)(s m:St)(f0 k:Nat)(A:LAct)(hon:h.on=true)(hA:A.Ok)(hP:z97 h.ptr h.on b m w K s)(hfs:s.Fit f0)(hfm:m.Fit f0)(hm:f0<1000000)(hg:AG k s)(he:s.ents=m.ents)(hk:k<100000) :
  Calls Tryz.prog 16 #[.pointer h.ptr,.pointer (some ⟨b,0,none⟩),.agg A.L] w fun e w'=>e= .returned (.bool true)/\POn h b w K (z7m s A) (z6t m A) w':=by
 unfold z7m z6t
 by_cases h0:A.kd=0
 ·rw[if_pos h0,if_pos h0];exact zs7 w h b K s m f0 k A h0 hon hA hP hfs hfm hm hg he hk
 ·rw[if_neg h0,if_neg h0]
  by_cases h1:A.kd=1
  ·rw[if_pos h1,if_pos h1];exact zsv w h b K s m f0 k A h1 hon hA hP hfs hfm hm hg he hk
  ·rw[if_neg h1,if_neg h1];exact zug w h b K s m f0 A h0 h1 hon hA hP hfs hfm hm he
theorem zvn{n:Nat}{s m:St}(h:AG n s)(he:s.ents=m.ents)(A:LAct):(z7m s A).ents=(z6t m A).ents:=by
 unfold z7m z6t;split
 ·exact zm8 he _ _ _ _ _ _ _ (zby h.srt _ _ _ _ _ _ _) (zby (he▸h.srt) _ _ _ _ _ _ _)
 ·split
  ·exact zmd he _
  ·exact zxy he h.srt h.ne _ _
theorem zw0{n:Nat}{s:St}(h:AG n s)(hn:n<100000)(A:LAct):AG (n+2) (z7m s A):=by
 unfold z7m;split
 ·exact zz9 h hn _ _ _ _ _ _ _
 ·split
  ·exact(q0q h hn _).mono (by omega)
  ·exact(q0f h _ _).mono (by omega)
theorem zv4{s:St}{f:Nat}(hf:s.Fit f)(x:I4)(tt mx:W4)(bk dl tl:Int)(sl:Bool):(mdSt s x tt mx bk dl tl sl).Fit (f+16):=by
 obtain⟨j,hj,h⟩:=zua x s tt mx bk dl tl sl;unfold mdSt;split
 ·split
  ·exact(h.fit hf).mono (by omega)
  ·rw[(zby hf.srt x tt mx bk dl tl sl).2];exact hf.mono (by omega)
 ·exact hf.mono (by omega)
theorem zsd{s:St}{f:Nat}(hf:s.Fit f)(A:LAct):(z7m s A).Fit (f+16):=by
 unfold z7m;split
 ·exact zv4 hf _ _ _ _ _ _ _
 ·split
  ·obtain⟨j,hj,h⟩:=zvg A.x s;exact(h.fit hf).mono (by omega)
  ·obtain⟨j,hj,h⟩:=zzq A.x s A.fv;exact(h.fit hf).mono (by omega)
theorem zqy{s:St}{f:Nat}(hf:s.Fit f)(A:LAct):(z6t s A).Fit (f+16):=by
 unfold z6t;split
 ·exact zv4 hf _ _ _ _ _ _ _
 ·split
  ·obtain⟨j,hj,h⟩:=zvg A.x s;exact(h.fit hf).mono (by omega)
  ·obtain⟨j,hj,h⟩:=zxw A.x s A.fv;exact(h.fit hf).mono (by omega)
theorem ztz(w:World)(q:Option Addr)(s:St)(t:Nat)(ht1:1<=t)(ht2:t<=255)(ad:Option Addr)(c:Nat)(l:List Int)(hv:z0v w (.slice ad l.length c) l)(hl:l.length<1000000)(hr:∀ n∈l,n<9223372036854775808)(h:z1a w.heap.size w q s):Calls Tryz.prog 63 #[.pointer q,.int .i64 t,.slice ad l.length c] w fun e w'=>e= .returned (.int .i64 (((ends s t l).2-(ends s t l).1:Nat):Int))/\Below w.heap.size w w':=by
 have HO:=zh (zlb w q s t ht1 ht2 ad c l hv hl hr h);have HL:Hid (∀ w1,Below w.heap.size w w1->Calls Tryz.prog 139 #[.agg (qL q t (.slice ad l.length c) (ends s t l).1 (ends s t l).2)] w1 fun e w'=>e= .returned (.int .i64 (((ends s t l).2-(ends s t l).1:Nat):Int))/\Below w.heap.size w w'):=fun w1 hb=>(zfi w1 q t _ _ _ (z5z s t l) (z9k s t l).2).mono fun e w' ⟨he,h1⟩=>⟨he,z09 hb h1⟩
 clear h hv hr;generalize (ends s t l).1=x at *
 generalize (ends s t l).2=y at *
 go_enter Tryz.func63,Tryz.ntmps63;go_wp2_with fail;refine zm HO.out ?_;rintro e w1 ⟨rfl,hb1⟩;go_wp2_with fail;refine zm (HL.out _ hb1) ?_;rintro e w2 ⟨rfl,hb2⟩;go_wp2_with fail;go_ret;exact⟨rfl,hb2⟩
theorem zo2(w:World)(q:Option Addr)(s:St)(a b:Int)(ha:a<9223372036854775808)(hb:b<9223372036854775808)(h:∀ w1,Below w.heap.size w w1->z1a w1.heap.size w1 q s):Calls Tryz.prog 17 #[.pointer q,.int .i64 a,.int .i64 b] w fun e w'=>e= .returned (.int .i64 (((ends s 33 [a,b]).2-(ends s 33 [a,b]).1:Nat):Int))/\Below w.heap.size w w':=by
 have hb0:=z00 (Below.refl _ w) (.cells #[.int .i64 a,.int .i64 b] 3);have HL:Hid (Calls Tryz.prog 63 #[.pointer q,.int .i64 33,.slice (some ⟨w.heap.size,0,none⟩) 2 2] (w.alloc (.cells #[.int .i64 a,.int .i64 b] 3)) fun e w'=>e= .returned (.int .i64 (((ends s 33 [a,b]).2-(ends s 33 [a,b]).1:Nat):Int))/\Below w.heap.size w w'):=
  (ztz _ q s 33 (by decide) (by decide) _ 2 [a,b] (z2g _ _ _ _ (heap_alloc_new w (.cells #[.int .i64 a,.int .i64 b] 3))) (by simp) (fun m hm=>by
   simp only[List.mem_cons,List.not_mem_nil,or_false]at hm
   rcases hm with rfl | rfl<;>assumption) (h _ hb0)).mono fun e w' ⟨he,h1⟩=>⟨he,z09 hb0 h1⟩
 clear h;generalize (ends s 33 [a,b]).2-(ends s 33 [a,b]).1=n at *
 go_enter Tryz.func17,Tryz.ntmps17;go_wp2_with fail;refine zm HL.out ?_;rintro e w1 ⟨rfl,hb1⟩;go_wp2_with fail;go_ret;exact⟨rfl,hb1⟩
end Go.Proofs.YtnkilceibkkjlaaGreat
