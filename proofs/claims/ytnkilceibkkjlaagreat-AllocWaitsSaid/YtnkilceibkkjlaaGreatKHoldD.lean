/- What is proved here: holdings of the program: Worth and C -/
import Derived.Test.YtnkilceibkkjlaaGreatKHoldB
set_option maxRecDepth 100000
set_option maxHeartbeats 16000000
namespace Go.Proofs.YtnkilceibkkjlaaGreat
open Go.RowKit
def R0:World->List Nat->St->Prop:=fun _ L _=>L = []
theorem zzv:zju R0:=by
 refine⟨fun _ L _ h k hk => ?_,fun _ _ _ _ h _ _=>h⟩;have h':L = []:=h;rw[h']at hk;cases hk
abbrev BV(w:World)(rs:List (Nat × Obj))(W:World):Prop:=QV R0 w [] ⟨[],[]⟩ rs W
theorem BV.start(w:World):BV w [] w:=QV.start zzv rfl
theorem BV.bl{w W:World}{rs:List (Nat × Obj)}(h:BV w rs W):Below w.heap.size w W:=by
 obtain⟨L',_,st,_⟩:=h.on;exact⟨st.fr.os,st.fr.tape,st.fr.output,st.fr.size,fun k hk=>st.fr.block k hk (by simp)⟩
theorem HV.reads{h:Hand}{w W:World}{s:St}{rs:List (Nat × Obj)}(hq:HV h w s rs W){f:FuncId}{args:Array Value}{v:Value}(hC:∀ L',QSt W ⟨h.ptr,h.on,L'⟩ s->Calls Tryz.prog f args W fun e W'=>e= .returned v/\Below W.heap.size W W'):Calls Tryz.prog f args W fun e W'=>e= .returned v/\HV h w s rs W':=
 QV.reads hq hC
end Go.Proofs.YtnkilceibkkjlaaGreat
