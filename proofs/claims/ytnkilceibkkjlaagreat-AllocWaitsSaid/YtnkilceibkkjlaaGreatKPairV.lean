/- What is proved here: alloc.Mature, of more that waited. I -/
import Derived.Test.YtnkilceibkkjlaaGreatKAlO
import Derived.Test.YtnkilceibkkjlaaGreatKRow
import Derived.Lib.SmallJoins
import Derived.ChangeSlices
import Derived.Deep.MidRow
import Derived.Deep.WholeRow
set_option maxRecDepth 100000
set_option maxHeartbeats 16000000
namespace Go.Proofs.YtnkilceibkkjlaaGreat
open Go.RowKit
structure IAt (w:World) (b:Nat) (L:List Nat) (s:St) (x:I4) (W:World):Prop where
 hb:Below w.heap.size w W
 hs:SRep W b s L
 hA:W.heap[w.heap.size]?=some (.cells (idL x) 34 (0,0))
def z9i:W4:=(500000000000000000,0,0,0)
def x7:I4:=(7,1,9,0)
theorem zse:x7.Ok:=by
 intro n hn;simp[x7]at hn;omega
theorem zv5:W4.Ok z9i:=⟨by decide,by decide,by decide,by decide⟩
abbrev LvC(H:Nat)(w':World):Prop:=(w'.cell? ⟨H,0,none⟩=some (.int .u64 500000000000000000)/\w'.cell? ⟨H,1,none⟩=some (.int .u64 0)/\w'.cell? ⟨H,2,none⟩=some (.int .u64 0)/\w'.cell? ⟨H,3,none⟩=some (.int .u64 0))/\(w'.cell? ⟨H+1,0,none⟩=some (.int .i64 7)/\w'.cell? ⟨H+1,1,none⟩=some (.int .i64 1)/\w'.cell? ⟨H+1,2,none⟩=some (.int .i64 9)/\w'.cell? ⟨H+1,3,none⟩=some (.int .i64 0))
structure AW (wb:World) (q:Option Addr) (L:List Nat) (k:Nat) (s:St) (m:W4) (rs:List (Nat × Obj)) (W:World):Prop where
 hv:HV ⟨q,true,L⟩ wb s rs W
 ar:AR (2*k) (16*k) s m
section
variable {wb W W':World} {q:Option Addr} {L:List Nat} {k:Nat} {m:W4} {s:St} {rs rs':List (Nat × Obj)}
end
open Go.ChangeShapes Go.WideShapes Go.ChangeAt Go.Joins
section
variable {H:Type} {enc:TypeId × Value->H} {P:Program} {w:World} {base:Nat} {spare:Nat->Bool} {held:Bool}
def zho(P:Program)(fs:Array Field):Bool:=(List.range fs.size).all fun i=>match fs[i]? with
 | some f=>f.offset==i&&P.cellsOf f.type==1&&(match P.underlying f.type with | some (.int .i64)=>true | _=>false)
 | none=>false
theorem zhm{fs:Array Field}(h:zho P fs=true)(i:Nat)(f:Field)(hf:fs[i]?=some f):f.offset=i/\P.cellsOf f.type=1/\P.underlying f.type=some (.int .i64):=by
 have hi:i<fs.size:=(Array.getElem?_eq_some_iff.1 hf).1;have:=List.all_eq_true.1 h i (by simpa using hi);simp only[hf,Bool.and_eq_true,beq_iff_eq]at this;refine⟨this.1.1,this.1.2,?_⟩;have h2:=this.2;split at h2
 ·assumption
 ·cases h2
end
section
variable {H:Type} {enc:TypeId × Value->H} {w:World} {base:Nat} {spare:Nat->Bool} {held:Bool}
theorem q08{n:Int}(h:(Lit.int .i64 n).wf=true) : -9223372036854775808<=n/\n<9223372036854775808:=by
 have e1:IntKind.i64.min = -9223372036854775808:=rfl;have e2:IntKind.i64.max=9223372036854775807:=rfl;simp only[Lit.wf,Bool.and_eq_true,decide_eq_true_eq,e1,e2]at h;omega
end
section
variable {H:Type} {enc:TypeId × Value->H} {w:World} {base:Nat} {spare:Nat->Bool} {held:Bool}
end
section
variable {H:Type} {enc:TypeId × Value->H} {P:Program} {w:World} {base:Nat} {spare:Nat->Bool} {held:Bool}
theorem zdw{fuel:Nat}{t:TypeId}{fs:Array Field}{cs:List Value}{x:DataW H × List MemPlace}(hs:P.underlying t=some (.struct fs))(hone:zho P fs=true)(hC:P.cellsOf t=fs.size)
  (h:DataW.trod enc P w base spare held fuel t cs=some x):∃ ns:List Int,ns.length=fs.size/\cs=ns.map (fun n=>Value.int .i64 n)/\∀ n∈ns,(Lit.int .i64 n).wf=true:=by
 obtain⟨xs,n,_,hx,hlen,hxl,hg⟩:=DataW.trod_struct hs h;rw[hC]at hlen;have hcell:∀ i (hi:i<cs.length),∃ n:Int,cs[i]= .int .i64 n/\(Lit.int .i64 n).wf=true:=by
  intro i hi;have hfi:fs[i]?=some fs[i]:=Array.getElem?_eq_getElem (by omega);obtain⟨ho,hk,hu⟩:=zhm hone i _ hfi;have h1:=hg i _ hfi;rw[ho,hk]at h1;rw[List.drop_eq_getElem_cons hi]at h1;have hxi:xs[i]?=some (xs[i]'(by omega)):=List.getElem?_eq_getElem (by omega);rw[hxi]at h1;obtain⟨n,hn,hx⟩:=DataW.trod_int hu h1;have hn2:cs[i]::List.take 0 (List.drop (i+1) cs) = [.int .i64 n]:=hn;exact⟨n,(List.cons.inj hn2).1,hx.2⟩
 refine⟨cs.map intOf,by simpa using hlen,?_,fun n hn => ?_⟩
 ·rw[List.map_map];apply List.ext_getElem
  ·simp
  ·intro i h1 h2;obtain⟨n,hn,_⟩:=hcell i h1;simp[hn,intOf]
 ·obtain⟨v,hv,rfl⟩:=List.mem_map.1 hn;obtain⟨i,hi,he⟩:=List.mem_iff_getElem.1 hv;obtain⟨m,hm,hw⟩:=hcell i hi;have:v= .int .i64 m:=by rw[<- he,<- hm]
  rw[this];exact hw
end
structure LAct where
 kd:Int
 x:I4
 tt:W4
 mx:W4
 bk:Int
 dl:Int
 tl:Int
 sl:Bool
 fv:W4
def LAct.L(A:LAct):Array Value:=#[.int .i64 A.kd,.int .i64 A.x.1,.int .i64 A.x.2.1,.int .i64 A.x.2.2.1,.int .i64 A.x.2.2.2,.int .u64 A.tt.1,.int .u64 A.tt.2.1,.int .u64 A.tt.2.2.1,.int .u64 A.tt.2.2.2,.int .u64 A.mx.1,.int .u64 A.mx.2.1,.int .u64 A.mx.2.2.1,.int .u64 A.mx.2.2.2,.int .i64 A.bk,.int .i64 A.dl,.int .i64 A.tl,.bool A.sl,.int .u64 A.fv.1,.int .u64 A.fv.2.1,.int .u64 A.fv.2.2.1,.int .u64 A.fv.2.2.2]
structure LAct.Ok (A:LAct):Prop where
 x:A.x.Ok
 tt:A.tt.Ok
 mx:A.mx.Ok
 fv:A.fv.Ok
structure zl8 (w:World) (a:Option Addr) (l:List LAct):Prop where
 at0:∀ k A,l[k]?=some A->∃ ad,a=some ad/\∀ j v,A.L[j]?=some v->w.cell? ((ad.add (k*21)).add j)=some v
 ok:∀ A∈l,A.Ok
theorem zhj{α:Type}{P:Nat->α->Prop}:∀ n,(∀ i,i<n->∃ y,P i y)->∃ l:List α,l.length=n/\∀ (i:Nat) y,l[i]?=some y->P i y
 | 0,_=>⟨[],rfl,fun i y h=>by simp at h⟩
 | n+1,h=>by
  obtain⟨l,hl,hp⟩:=zhj n fun i hi=>h i (by omega)
  obtain⟨z,hz⟩:=h n (by omega)
  refine⟨l ++ [z],by simp[hl],fun i y hy => ?_⟩
  rw[List.getElem?_append]at hy
  split at hy
  ·exact hp i y hy
  ·rename_i hi
   have:i=n:=by
    have:=(List.getElem?_eq_some_iff.1 hy).1;simp at this;omega
   subst this;rw[hl,Nat.sub_self]at hy;cases hy;exact hz
theorem zfi{n:Int}(h:(Lit.int .u64 n).wf=true):∃ m:Nat,n=m/\m<18446744073709551616:=by
 have e1:IntKind.u64.min=0:=rfl;have e2:IntKind.u64.max=18446744073709551615:=rfl;simp only[Lit.wf,Bool.and_eq_true,decide_eq_true_eq,e1,e2]at h;exact⟨n.toNat,by omega,by omega⟩
section
variable {H:Type} {enc:TypeId × Value->H} {w:World} {base:Nat} {spare:Nat->Bool} {held:Bool}
theorem zfu{fuel:Nat}{cs:List Value}{x:DataW H × List MemPlace}(h:DataW.trod enc Tryz.prog w base spare held fuel 24 cs=some x):∃ y:W4,cs=(uL y).toList/\y.Ok:=by
 have hc1:Tryz.prog.cellsOf 22=1:=by kernel_rfl
 have hc4:Tryz.prog.cellsOf 24=4:=by kernel_rfl
 obtain⟨xs,m,_,_,hlen,hxl,hf⟩:=DataW.trod_array Tryz.underlying24 h;rw[hc4]at hlen
 match cs,hlen,xs,hxl with
 | [c0,c1,c2,c3],_,[y0,y1,y2,y3],_ =>
  have h0:=hf 0 (by omega);have h1:=hf 1 (by omega);have h2:=hf 2 (by omega);have h3:=hf 3 (by omega);simp[hc1]at h0 h1 h2 h3;obtain⟨n0,e0,_,s0⟩:=DataW.trod_int Tryz.underlying22 h0;obtain⟨n1,e1,_,s1⟩:=DataW.trod_int Tryz.underlying22 h1;obtain⟨n2,e2,_,s2⟩:=DataW.trod_int Tryz.underlying22 h2;obtain⟨n3,e3,_,s3⟩:=DataW.trod_int Tryz.underlying22 h3;obtain⟨m0,rfl,b0⟩:=zfi s0;obtain⟨m1,rfl,b1⟩:=zfi s1;obtain⟨m2,rfl,b2⟩:=zfi s2;obtain⟨m3,rfl,b3⟩:=zfi s3;simp only[List.cons.injEq,and_true]at e0 e1 e2 e3;subst e0 e1 e2 e3;exact⟨(m0,m1,m2,m3),rfl,b0,b1,b2,b3⟩
theorem zsu{fuel:Nat}{cs:List Value}{x:DataW H × List MemPlace}(h:DataW.trod enc Tryz.prog w base spare held fuel 36 cs=some x):∃ (a b:W4) (k d t:Int) (s:Bool),cs=(chL a b k d t s).toList/\a.Ok/\b.Ok:=by
 have hc1:Tryz.prog.cellsOf 3=1:=by kernel_rfl
 have hcb:Tryz.prog.cellsOf 4=1:=by kernel_rfl
 have hc4:Tryz.prog.cellsOf 24=4:=by kernel_rfl
 have hc12:Tryz.prog.cellsOf 36=12:=by kernel_rfl
 obtain⟨xs,m,_,_,hlen,hxl,hf⟩:=DataW.trod_struct Tryz.underlying36 h;rw[hc12]at hlen
 match cs,hlen,xs,hxl with
 | [c0,c1,c2,c3,c4,c5,c6,c7,c8,c9,c10,c11],_,[y0,y1,y2,y3,y4,y5],_ =>
  have h0:=hf 0 _ rfl;have h1:=hf 1 _ rfl;have h2:=hf 2 _ rfl;have h3:=hf 3 _ rfl;have h4:=hf 4 _ rfl;have h5:=hf 5 _ rfl;simp[hc1,hc4,hcb]at h0 h1 h2 h3 h4 h5;obtain⟨a,ea,ka⟩:=zfu h0;obtain⟨b,eb,kb⟩:=zfu h1;obtain⟨n2,e2,_,_⟩:=DataW.trod_int Tryz.underlying3 h2;obtain⟨n3,e3,_,_⟩:=DataW.trod_int Tryz.underlying3 h3;obtain⟨n4,e4,_,_⟩:=DataW.trod_int Tryz.underlying3 h4;obtain⟨s5,e5,_⟩:=DataW.trod_bool Tryz.underlying4 h5;simp only[List.cons.injEq,and_true]at ea eb e2 e3 e4 e5;obtain⟨rfl,rfl,rfl,rfl⟩:=ea;obtain⟨rfl,rfl,rfl,rfl⟩:=eb;subst e2 e3 e4 e5;exact⟨a,b,n2,n3,n4,s5,rfl,ka,kb⟩
theorem zl3{fuel:Nat}{cs:List Value}{x:DataW H × List MemPlace}(h:DataW.trod enc Tryz.prog w base spare held fuel 38 cs=some x):∃ A:LAct,cs=A.L.toList/\A.Ok:=by
 have hc1:Tryz.prog.cellsOf 3=1:=by kernel_rfl
 have hcI:Tryz.prog.cellsOf 34=4:=by kernel_rfl
 have hc4:Tryz.prog.cellsOf 24=4:=by kernel_rfl
 have hc12:Tryz.prog.cellsOf 36=12:=by kernel_rfl
 have hc21:Tryz.prog.cellsOf 38=21:=by kernel_rfl
 obtain⟨xs,m,_,_,hlen,hxl,hf⟩:=DataW.trod_struct Tryz.underlying38 h;rw[hc21]at hlen
 match cs,hlen,xs,hxl with
 | [c0,c1,c2,c3,c4,c5,c6,c7,c8,c9,c10,c11,c12,c13,c14,c15,c16,c17,c18,c19,c20],_,[y0,y1,y2,y3],_ =>
  have h0:=hf 0 _ rfl;have h1:=hf 1 _ rfl;have h2:=hf 2 _ rfl;have h3:=hf 3 _ rfl;simp[hc1,hc4,hcI,hc12]at h0 h1 h2 h3;obtain⟨n0,e0,_,_⟩:=DataW.trod_int Tryz.underlying3 h0;obtain⟨ns,hl1,e1,hw⟩:=zdw Tryz.underlying34 (by kernel_rfl) (by kernel_rfl) h1;obtain⟨a,b,k,dl,tl,s,e2,ka,kb⟩:=zsu h2;obtain⟨fv,e3,kf⟩:=zfu h3
  match ns,hl1 with
  | [x0,x1,x2,x3],_ =>
   simp only[List.map_cons,List.map_nil,List.cons.injEq,and_true]at e0 e1 e2 e3;obtain⟨rfl,rfl,rfl,rfl⟩:=e1;obtain⟨rfl,rfl,rfl,rfl,rfl,rfl,rfl,rfl,rfl,rfl,rfl,rfl⟩:=e2;obtain⟨rfl,rfl,rfl,rfl⟩:=e3;subst e0;exact⟨⟨n0,(x0,x1,x2,x3),a,b,k,dl,tl,s,fv⟩,rfl,⟨fun n hn=>(q08 (hw n hn)).2,ka,kb,kf⟩⟩
theorem zie{r:Reach}{b0:Nat}{v:Value}{d:DataW H}{p:List MemPlace}(hv:Value.okWide Tryz.prog w r b0 32 v)(h:DataW.Trod enc Tryz.prog w base spare held 32 v d p) :
  ∃ (l:List LAct) (a:Option Addr) (c:Nat),v= .slice a l.length c/\zl8 w a l:=by
 obtain⟨a,len,cap,rfl⟩:=okWide_slice Tryz.underlying32 hv;obtain⟨fuel,hf⟩:=h;have hc21:Tryz.prog.cellsOf 38=21:=by kernel_rfl
 rcases DataW.trod_slice Tryz.underlying32 hf with⟨h1,_⟩ | ⟨a',len',cap',elems,rest,n,_,h1,h2,_,_,_,hlen,hel,_⟩
 ·have h2:[Value.slice a len cap] = [.slice none 0 0]:=h1;cases h2;exact⟨[],none,0,rfl,fun k x hx=>(by simp at hx),fun x hx=>(by cases hx)⟩
 ·have h3:[Value.slice a len cap] = [.slice (some a') len' cap']:=h1;cases h3;rw[hc21]at hel;have each:∀ i,i<len->∃ A:LAct,w.cells? base (a'.add (i*21)) 21=some A.L.toList/\A.Ok:=fun i hi=>by
   have:=hel i hi;rw[List.getElem?_eq_getElem (by omega:i<elems.length),Option.bind_eq_some_iff]at this;obtain⟨cs,hcs,ht⟩:=this;obtain⟨A,rfl,hA⟩:=zl3 ht;exact⟨A,hcs,hA⟩
  obtain⟨l,hl,hp⟩:=zhj len each;subst hl;refine⟨l,some a',cap,rfl,fun k A hk=>⟨a',rfl,fun j v hj => ?_⟩,fun A hA => ?_⟩
  ·obtain⟨hcs,_⟩:=hp k A hk;obtain⟨_,_,hc⟩:=World.cells?_some hcs;have hj21:j<21:=(Array.getElem?_eq_some_iff.1 hj).1;rw[hc j hj21]
   simpa using hj
  ·obtain⟨i,hi⟩:=List.mem_iff_getElem?.1 hA;exact(hp i A hi).2
end
theorem za6{P:Program}{ops:Array Oper}{rest:List Oper}{op:Oper}{a:Act}{w:World}{Q:Exit->Act->World->Prop}(hgd:op.guard=none)(ty:TypeId)(x:Operand)(ho:op.op= .load ty x)
  (p:Addr) (hx:a.eval x= .pointer (some p)) (cs:Array Value) (hc:∀ j v,cs[j]?=some v->w.cell? (p.add j)=some v) (d:TypeDesc) (hu:P.underlying ty=some d) (hd:d.isRow=true) (hi:(P.info? ty).map (·.size)=some cs.size)
  (h:wpList P ops Q rest (a.put op.dst (.agg cs)) w):wpList P ops Q (op::rest) a w:=by
 have hl:(loadCells p cs.size).run P w= .ok cs w:=by
  have:=run_loadCells_list (P:=P) w p cs.toList (fun j v hv=>hc j v (by simpa using hv))
  simpa using this
 refine wpList_plain hgd fun _ hK => ?_
 cases hq:P.info? ty with
 | none=>simp[hq]at hi
 | some i =>
  have hs:i.size=cs.size:=by simpa [hq]using hi
  have hagg:(isAgg ty).run P w= .ok true w:=by
   unfold isAgg;rw[Sem.run_bind,run_underlying hu w];cases d<;>simp_all
  have hv:(loadVar ty p).run P w= .ok (.agg cs) w:=by simp[loadVar,Sem.run_bind,hagg,sizeOf,typeInfo,hq,hs,hl]
  unfold Oper.wp execOp;simp only[ho,hx,Instr.loadAt,Instr.sureAddr,Sem.run_bind,Sem.run_pure,Result.andThen_ok,hv];exact hK _ _ h
theorem zsq(A:LAct):A.L.all (·.oneCell')=true:=by simp[LAct.L,Value.oneCell']
abbrev actO(A:LAct):Obj:=.cells A.L 38
theorem z8i{w:World}{g:Nat}{A:LAct}(h:w.heap[g]?=some (actO A)):w.cell? ⟨g,0,none⟩=some (.int .i64 A.kd) /\
  (w.cell? ⟨g,1,none⟩=some (.int .i64 A.x.1)/\w.cell? ⟨g,2,none⟩=some (.int .i64 A.x.2.1)/\w.cell? ⟨g,3,none⟩=some (.int .i64 A.x.2.2.1)/\w.cell? ⟨g,4,none⟩=some (.int .i64 A.x.2.2.2)) /\
  (w.cell? ⟨g,5,none⟩=some (.int .u64 A.tt.1)/\w.cell? ⟨g,6,none⟩=some (.int .u64 A.tt.2.1)/\w.cell? ⟨g,7,none⟩=some (.int .u64 A.tt.2.2.1)/\w.cell? ⟨g,8,none⟩=some (.int .u64 A.tt.2.2.2)) /\
  (w.cell? ⟨g,9,none⟩=some (.int .u64 A.mx.1)/\w.cell? ⟨g,10,none⟩=some (.int .u64 A.mx.2.1)/\w.cell? ⟨g,11,none⟩=some (.int .u64 A.mx.2.2.1)/\w.cell? ⟨g,12,none⟩=some (.int .u64 A.mx.2.2.2)) /\
  (w.cell? ⟨g,13,none⟩=some (.int .i64 A.bk)/\w.cell? ⟨g,14,none⟩=some (.int .i64 A.dl)/\w.cell? ⟨g,15,none⟩=some (.int .i64 A.tl)/\w.cell? ⟨g,16,none⟩=some (.bool A.sl)) /\
  (w.cell? ⟨g,17,none⟩=some (.int .u64 A.fv.1)/\w.cell? ⟨g,18,none⟩=some (.int .u64 A.fv.2.1)/\w.cell? ⟨g,19,none⟩=some (.int .u64 A.fv.2.2.1)/\w.cell? ⟨g,20,none⟩=some (.int .u64 A.fv.2.2.2))/\∀ j,w.frozen? ⟨g,j,none⟩=false:=by
 have hc:∀ (o:Nat) v,A.L[o]?=some v->w.cell? ⟨g,o,none⟩=some v:=fun o v hv=>by rw[cell_of_row _ _ _ _ _ _ h];exact hv
 exact⟨hc 0 _ rfl,⟨hc 1 _ rfl,hc 2 _ rfl,hc 3 _ rfl,hc 4 _ rfl⟩,⟨hc 5 _ rfl,hc 6 _ rfl,hc 7 _ rfl,hc 8 _ rfl⟩,⟨hc 9 _ rfl,hc 10 _ rfl,hc 11 _ rfl,hc 12 _ rfl⟩,⟨hc 13 _ rfl,hc 14 _ rfl,hc 15 _ rfl,hc 16 _ rfl⟩,⟨hc 17 _ rfl,hc 18 _ rfl,hc 19 _ rfl,hc 20 _ rfl⟩,fun j=>frozen_of_row _ _ _ _ _ h⟩
section
variable {wb W:World} {q:Option Addr} {L:List Nat} {k:Nat} {m:W4} {s:St} {rs:List (Nat × Obj)}
end
section
variable {ops:Array Oper} {o:Oper} {a:Go.Act} {w:World} {K:Value->World->Prop} {x y:Operand}
theorem zdl(hg:Region.wanted o (yielded ops a.tmps)=true){g:Nat}(ho:o.op= .fieldAddr 38 x 1)(hx:a.eval x= .pointer (some ⟨g,0,none⟩))(hk:K (.pointer (some ⟨g,1,none⟩)) w):rgDo Tryz.prog ops o a w K:=by
 refine z0n hg ?_ hk;clear hg hk;generalize a.eval=ev at hx ⊢;unfold execOp;simp only[ho,hx]
 go_simp
theorem zbe(hg:Region.wanted o (yielded ops a.tmps)=true){g k:Nat}{r:W4}(ho:o.op= .load 24 x)(hx:a.eval x= .pointer (some ⟨g,k,none⟩))(hc:w.cell? ⟨g,k,none⟩=some (.int .u64 r.1)/\w.cell? ⟨g,k+1,none⟩=some (.int .u64 r.2.1)/\w.cell? ⟨g,k+2,none⟩=some (.int .u64 r.2.2.1)/\w.cell? ⟨g,k+3,none⟩=some (.int .u64 r.2.2.2)/\∀ j,w.frozen? ⟨g,j,none⟩=false)(hk:K (uV r) w):rgDo Tryz.prog ops o a w K:=by
 obtain⟨c0,c1,c2,c3,_⟩:=hc;refine z0n hg ?_ hk;clear hg hk;generalize a.eval=ev at hx ⊢;unfold execOp;simp only[ho,hx]
 go_simp
end
def z96(q:Option Addr)(on:Bool)(b:Nat)(m:St):World->List Nat->St->Prop:=fun W K s=>∃ L M,K=L++M/\(∀ k∈L,k∉M)/\QSt W ⟨q,on,L⟩ s/\RRep W b m M
theorem z5c(q:Option Addr)(on:Bool)(b:Nat)(m:St):zju (z96 q on b m):=by
 refine⟨fun W K s h k hk => ?_,fun W W' K s h hs hb => ?_⟩
 ·obtain⟨L,M,rfl,_,h1,h2⟩:=h;rcases List.mem_append.1 hk with h3 | h3
  ·exact h1.lt k h3
  ·exact h2.lt k h3
 ·obtain⟨L,M,rfl,hd,h1,h2⟩:=h;exact⟨L,M,rfl,hd,h1.frame hs fun k hk=>hb k (List.mem_append_left _ hk),h2.frame fun k hk=>hb k (List.mem_append_right _ hk)⟩
theorem QV.zz1{R R':World->List Nat->St->Prop}{w W:World}{L:List Nat}{s s':St}{rs:List (Nat × Obj)}(h:QV R w L s rs W)(hR:zju R'){f:FuncId}{args:Array Value}{v:Value}(hC:∀ L',R W L' s->Calls Tryz.prog f args W fun e W'=>e= .returned v/\∃ L'',R' W' L'' s'/\Step W L' W' L''):Calls Tryz.prog f args W fun e W'=>e= .returned v/\QV R' w L s' rs W':=by
 obtain⟨L',h1,h2,h3⟩:=h.on;refine(hC L' h1).mono fun e W' ⟨he,L2,hR2,st⟩=>⟨he,hR,⟨L2,hR2,h2.trans st,fun g o hm hk => ?_⟩,fun g o hm=>⟨h.le hm,(st.fr.block g (z02 (h.row hm)) (h3 g o hm)).trans (h.row hm)⟩⟩
 rcases st.own g hk with h4 | h4
 ·exact h3 g o hm h4
 ·exact absurd (z02 (h.row hm)) (Nat.not_lt.2 h4)
abbrev PV(h:Hand)(b:Nat)(m:St)(w:World)(K:List Nat)(s:St)(rs:List (Nat × Obj))(W:World):Prop:=QV (z96 h.ptr h.on b m) w K s rs W
theorem PV.zr2{h:Hand}{b:Nat}{m:St}{w W:World}{K:List Nat}{s s':St}{rs:List (Nat × Obj)}(hP:PV h b m w K s rs W){f:FuncId}{args:Array Value}{v:Value}(hC:∀ L,QSt W ⟨h.ptr,h.on,L⟩ s->Calls Tryz.prog f args W fun e W'=>e= .returned v/\QOn W ⟨h.ptr,h.on,L⟩ s' W') :
  Calls Tryz.prog f args W fun e W'=>e= .returned v/\PV h b m w K s' rs W':=by
 refine QV.call hP fun K' hK => ?_
 obtain⟨L,M,rfl,hd,h1,h2⟩:=hK;refine(hC L h1).mono fun e W' ⟨he,L',h3,st⟩=>⟨he,L'++M,⟨L',M,rfl,fun k hk hm => ?_,h3,h2.frame fun k hk=>st.fr.block k (h2.lt k hk) fun hl=>hd k hl hk⟩,⟨st.fr.mono fun k _ hk=>List.mem_append_left _ hk,fun k hk => ?_⟩⟩
 ·rcases st.own k hk with h4 | h4
  ·exact hd k h4 hm
  ·exact absurd (h2.lt k hm) (Nat.not_lt.2 h4)
 ·rcases List.mem_append.1 hk with h4 | h4
  ·rcases st.own k h4 with h5 | h5
   ·exact .inl (List.mem_append_left _ h5)
   ·exact .inr h5
  ·exact .inl (List.mem_append_right _ h4)
theorem PV.zx8{h:Hand}{b:Nat}{m m':St}{w W:World}{K:List Nat}{s:St}{rs:List (Nat × Obj)}(hP:PV h b m w K s rs W){f:FuncId}{args:Array Value}{v:Value}(hC:∀ M,RRep W b m M->Calls Tryz.prog f args W fun e W'=>e= .returned v/\ROn W b M m' W') :
  Calls Tryz.prog f args W fun e W'=>e= .returned v/\PV h b m' w K s rs W':=by
 refine QV.zz1 hP (z5c _ _ _ _) fun K' hK => ?_
 obtain⟨L,M,rfl,hd,h1,h2⟩:=hK;refine(hC M h2).mono fun e W' ⟨he,M',h3,st⟩=>⟨he,L++M',⟨L,M',rfl,fun k hk hm => ?_,h1.frame st.fr.size fun k hk=>st.fr.block k (h1.lt k hk) fun hl=>hd k hk hl,h3⟩,⟨st.fr.mono fun k _ hk=>List.mem_append_right _ hk,fun k hk => ?_⟩⟩
 ·rcases st.own k hm with h4 | h4
  ·exact hd k hk h4
  ·exact absurd (h1.lt k hk) (Nat.not_lt.2 h4)
 ·rcases List.mem_append.1 hk with h4 | h4
  ·exact .inl (List.mem_append_left _ h4)
  ·rcases st.own k h4 with h5 | h5
   ·exact .inl (List.mem_append_right _ h5)
   ·exact .inr h5
theorem PV.zz7{h:Hand}{b:Nat}{m:St}{w W:World}{K:List Nat}{s:St}{rs:List (Nat × Obj)}(hP:PV h b m w K s rs W){f:FuncId}{args:Array Value}{v:Value}(hC:∀ L,QSt W ⟨h.ptr,h.on,L⟩ s->Calls Tryz.prog f args W fun e W'=>e= .returned v/\Below W.heap.size W W') :
  Calls Tryz.prog f args W fun e W'=>e= .returned v/\PV h b m w K s rs W':=
 QV.reads hP fun _ ⟨L,_,_,_,h1,_⟩=>hC L h1
def POn(h:Hand)(b:Nat)(w:World)(K:List Nat)(s m:St)(W:World):Prop:=∃ K',z96 h.ptr h.on b m W K' s/\Step w K W K'
theorem PV.done{h:Hand}{b:Nat}{m:St}{w W:World}{K:List Nat}{s:St}{rs:List (Nat × Obj)}(hP:PV h b m w K s rs W):POn h b w K s m W:=QV.done hP
theorem zcl{w0 w W:World}{K K':List Nat}(hb:Below w0.heap.size w0 w)(hK:∀ j∈K,w0.heap.size<=j)(st:Step w K W K'):Below w0.heap.size w0 W/\∀ j∈K',w0.heap.size<=j:=by
 refine⟨⟨st.fr.os.trans hb.os,st.fr.tape.trans hb.tape,st.fr.output.trans hb.output,Nat.le_trans hb.size st.fr.size,fun k hk => ?_⟩,fun j hj => ?_⟩
 ·rw[st.fr.block k (Nat.lt_of_lt_of_le hk hb.size) (fun hm=>absurd (hK k hm) (by omega))];exact hb.block k hk
 ·rcases st.own j hj with h | h
  ·exact hK j h
  ·exact Nat.le_trans hb.size h
theorem znm(w:World):RRep (w.alloc (.cells #[.slice none 0 0,.slice none 0 0] 45)) w.heap.size ⟨[],[]⟩ [w.heap.size]:=
 ⟨.slice none 0 0,.slice none 0 0,⟨heap_alloc_new w _,Own.nil _ _ _,Own.nil _ _ _,List.Pairwise.nil,by simp[Value.ownBlock]⟩,by simp[rids,Value.ownBlock]⟩
end Go.Proofs.YtnkilceibkkjlaaGreat
