/- What is proved here: AllocWaits' plain law: what Modify l -/
import Derived.Test.YtnkilceibkkjlaaGreatKAlTw
set_option maxRecDepth 100000
set_option maxHeartbeats 16000000
namespace Go.Proofs.YtnkilceibkkjlaaGreat
open Go.RowKit
def AQ(s:St):Prop:=∀ a b:Int,(ends s 33 [a,b]).2-(ends s 33 [a,b]).1<=8
theorem AQ.empty:AQ z2g:=fun a b=>by
 show(z3d (rowOf ((getE [] (keyL 33 [a,b])).getD z05))).2-_<=8
 exact Nat.zero_le _
theorem AQ.put{n:Nat}{s:St}(h:AQ s)(hg:AG n s){k v:ByteArray}(h33:∀ a b:Int,k=keyL 33 [a,b]->k≠z05->(z3d (rowOf v)).2-(z3d (rowOf v)).1<=8):AQ (s.put k v):=fun a b=>by
 by_cases hk0:k=z05
 ·rw[hk0,z5u hg.ne];exact h a b
 ·unfold ends
  rw[z7q s hg.srt k v _ hk0]
  split
  ·exact h33 a b ‹_› hk0
  ·exact h a b
theorem AQ.putT{n:Nat}{s:St}(h:AQ s)(hg:AG n s){t:Nat}(ht:t<=255)(h33:t≠33)(l:List Int)(v:ByteArray):AQ (s.put (keyL t l) v):=h.put hg fun a b e h0=>absurd (z4m ht (by decide) h33 e) h0
theorem AQ.amtT{n:Nat}{s:St}(h:AQ s)(hg:AG n s){t:Nat}(ht:t<=255)(h33:t≠33)(l:List Int)(x:W4):AQ (s.z09 (keyL t l) x):=h.putT hg ht h33 l _
theorem AQ.mtA{n:Nat}{s:St}(h:AQ s)(hg:AG n s)(x:I4):AQ (mtA s x):=by
 unfold Go.Proofs.YtnkilceibkkjlaaGreat.mtA aAll;exact h.amtT hg (by decide) (by decide) _ _
theorem AQ.put3{n:Nat}{s:St}(h:AQ s)(hg:AG n s)(a b c:Int)(v:ByteArray):AQ (s.put (keyL 33 [a,b,c]) v):=h.put hg fun x y e h0=>by
 have e1:=zbf h0
 have e2:=zbf (t:=33) (l:=[x,y]) (by rw[<- e];exact h0)
 rw[e,e2]at e1
 simp at e1
theorem AQ.turn{n:Nat}{s:St}(h:AQ s)(hg:AG n s)(l:List Int){a b:Nat}(ha:a<9223372036854775808)(hb:b<9223372036854775808)(hd:b-a<=8):AQ (z1m s 33 l (a:Int) (b:Int)):=by
 unfold z1m;refine h.put hg fun _ _ _ _ => ?_
 split
 ·rw[z7k [] (fun _ h=>by cases h)];exact Nat.zero_le _
 ·rw[z7k _ (fun n hn=>by
   simp only[List.mem_cons,List.not_mem_nil,or_false]at hn
   rcases hn with rfl | rfl<;>omega)]
  show(z3d [((a:Int)).toNat,((b:Int)).toNat]).2-(z3d [((a:Int)).toNat,((b:Int)).toNat]).1<=8
  rw[Int.toNat_natCast,Int.toNat_natCast];unfold z3d;dsimp only;split
  ·exact hd
  ·exact Nat.zero_le _
theorem AQ.push{n:Nat}{s:St}(h:AQ s)(hg:AG n s)(hn:n<1000000)(a b:Int)(r:List Int):AQ (z2s s 33 [a,b] 8 r):=by
 have hle:=z5o s 33 [a,b];have hb:=hg.eb a b;unfold z2s;split
 ·exact h
 ·exact AQ.turn (h.put3 hg a b _ _) (hg.zmw (Nat.le_refl _) (by simp) _ fun e=>by simp at e) _ (by omega) (by omega) (by omega)
theorem AQ.pop{n:Nat}{s:St}(h:AQ s)(hg:AG n s)(hn:n<1000000)(a b:Int):AQ (z3o s 33 [a,b]):=by
 have hle:=z5o s 33 [a,b];have hb:=hg.eb a b;have h8:=h a b;unfold z3o;split
 ·exact h
 ·rw[z6o];exact AQ.turn (h.put3 hg a b _ _) (hg.zmw (Nat.le_refl _) (by simp) _ fun e=>by simp at e) _ (by omega) (by omega) (by omega)
theorem AQ.zxx{n:Nat}{s:St}(h:AQ s)(hg:AG n s)(x:I4)(way:Nat)(a:W4)(bl:Nat):AQ (z0t s x way a bl):=
 (h.putT hg (t:=30) (by decide) (by decide) _ _).putT (hg.putT (t:=30) (by decide) (by decide) (by decide) (by decide) (by simp) _) (t:=31) (by decide) (by decide) _ _
theorem AQ.due{n:Nat}{s:St}(h:AQ s)(hg:AG n s)(hn:n<1000000)(bl:Nat)(l:List Int):AQ (z4u s bl l):=
 (h.putT hg (t:=26) (by decide) (by decide) _ _).putT (zf3 (l:=l) hg hn bl).1 (t:=27) (by decide) (by decide) _ _
theorem AQ.wait{n:Nat}{s:St}(h:AQ s)(hg:AG n s)(hn:n<1000000)(x:I4)(way:Nat)(a:W4)(bl:Nat):AQ (z19 s x way a bl):=by
 unfold z19;split
 ·exact(h.zxx hg x way a bl).due (z5t hg x way a bl) hn bl _
 ·exact h.zxx hg x way a bl
theorem AQ.mdT{n:Nat}{s:St}(h:AQ s)(hg:AG n s)(hn:n<100000)(x:I4)(tt mx:W4)(bk dl tl:Int)(sl:Bool):AQ (mdTS s x tt mx bk dl tl sl):=by
 have g1:∀ y,AQ (grS1 s x y):=fun y=>h.amtT hg (t:=32) (by decide) (by decide) [x.1,x.2.1] _
 have g2:∀ y,AG n (shS1 s x y)/\AQ (shS1 s x y):=fun y=>by
  unfold shS1;split
  ·exact⟨hg.amtT (t:=32) (by decide) (by decide) (by decide) (by decide) (by simp) _,h.putT hg (t:=32) (by decide) (by decide) _ _⟩
  ·exact⟨hg,h⟩
 unfold mdTS;split
 ·unfold grSt;split
  ·exact h
  ·split
   ·exact(g1 _).putT (zeg hg x _) (t:=29) (by decide) (by decide) _ _
   ·exact(g1 _).wait (zeg hg x _) (by omega) _ _ _ _
 ·unfold shSt;split
  ·split
   ·exact(h.push hg (by omega) _ _ _).wait (zbo hg (by omega) _ _ _) (by omega) _ _ _ _
   ·exact h.push hg (by omega) _ _ _
  ·split
   ·exact(g2 _).2.putT (g2 _).1 (t:=29) (by decide) (by decide) _ _
   ·exact(g2 _).2
theorem AQ.act{n:Nat}{s:St}(h:AQ s)(hg:AG n s)(hn:n<100000)(A:LAct):AQ (z6g s A):=by
 unfold z6g;split
 ·unfold mdSt;split
  ·split
   ·exact h.mdT hg hn _ _ _ _ _ _ _
   ·rw[(z90 hg.srt _ _ _ _ _ _ _).2];exact h
  ·exact h
 ·split
  ·have h1:AG n (mtS1 s A.x)/\AQ (mtS1 s A.x):=by
    unfold mtS1;split
    ·exact⟨hg,h⟩
    ·exact⟨zqg (zb2 hg A.x) (by omega) _ _,AQ.pop (h.mtA hg A.x) (zb2 hg A.x) (by omega) _ _⟩
   unfold mtSt;split
   ·exact h
   ·have h2:=h1.1.amtT (t:=29) (by decide) (by decide) (by decide) (by decide) (l:=A.x.l) (by simp) (mtN s A.x);have h3:=h2.delT (t:=30) (by decide) (by decide) (by decide) (by decide) (l:=A.x.l) (by simp);have q2:AQ ((mtS1 s A.x).z09 (aKey 29 A.x) (mtN s A.x)):=h1.2.putT h1.1 (t:=29) (by decide) (by decide) _ _;have q3:AQ (((mtS1 s A.x).z09 (aKey 29 A.x) (mtN s A.x)).del (aKey 30 A.x)):=by rw[z6o];exact q2.putT h2 (t:=30) (by decide) (by decide) _ _
    rw[z6o];exact q3.putT h3 (t:=31) (by decide) (by decide) _ _
  ·have h2:=hg.amtT (t:=32) (by decide) (by decide) (by decide) (by decide) (l:=[A.x.1,A.x.2.1]) (by simp) (subW (s.amt (aAll A.x)) (puW (cur s A.x) A.fv));have g3:AG n (ctS2 s A.x A.fv):=h2.amtT (t:=29) (by decide) (by decide) (by decide) (by decide) (by simp) _;have q2:AQ (ctS2 s A.x A.fv):=by
    unfold ctS2 ctS1 aAll aKey;exact(h.amtT hg (t:=32) (by decide) (by decide) _ _).amtT h2 (t:=29) (by decide) (by decide) _ _
   unfold ctSt;split
   ·unfold ctS3;split
    ·exact q2.putT g3 (t:=31) (by decide) (by decide) _ _
    ·exact q2
   ·exact h
def Vt(T:List Nat)(s s':St):Prop:=∀ u m,u<=255->u∉T->s'.val (keyL u m)=s.val (keyL u m)
theorem Vt.trans{T U:List Nat}{s s1 s2:St}(h:Vt T s s1)(h2:Vt U s1 s2):Vt (T++U) s s2:=fun u m hu hn=>by
 rw[List.mem_append,not_or]at hn
 rw[h2 u m hu hn.2,h u m hu hn.1]
theorem Vt.put{n:Nat}{s:St}(hg:AG n s){t:Nat}(ht:t<=255)(l:List Int)(v:ByteArray):Vt [t] s (s.put (keyL t l) v):=fun u m hu hn=>by
 by_cases h0:keyL t l=z05
 ·rw[h0,z5u hg.ne]
 ·rw[z7q s hg.srt _ _ _ h0,if_neg]
  exact fun e=>absurd (z4m ht hu (fun e2=>hn (by simp[e2])) e) h0
theorem Vt.amt{n:Nat}{s:St}(hg:AG n s){t:Nat}(ht:t<=255)(l:List Int)(x:W4):Vt [t] s (s.z09 (keyL t l) x):=Vt.put hg ht l _
theorem Vt.cur{T:List Nat}{s s':St}(h:Vt T s s')(hT:29∉T)(x:I4):Go.Proofs.YtnkilceibkkjlaaGreat.cur s' x=Go.Proofs.YtnkilceibkkjlaaGreat.cur s x:=by
 unfold Go.Proofs.YtnkilceibkkjlaaGreat.cur aKey;rw[h 29 x.l (by decide) hT]
theorem Vt.pend{T:List Nat}{s s':St}(h:Vt T s s')(h30:30∉T)(h31:31∉T)(x:I4):Go.Proofs.YtnkilceibkkjlaaGreat.pend s' x=Go.Proofs.YtnkilceibkkjlaaGreat.pend s x:=by
 unfold Go.Proofs.YtnkilceibkkjlaaGreat.pend aKey;rw[h 30 x.l (by decide) h30,h 31 x.l (by decide) h31]
theorem zw7{n:Nat}{s:St}(hg:AG n s)(a b:Int)(r:List Int):Vt [33] s (z2s s 33 [a,b] 8 r):=by
 unfold z2s z1m;split
 ·exact fun _ _ _ _=>rfl
 ·have h1:AG n (s.put (keyL 33 [a,b,(((ends s 33 [a,b]).2:Nat):Int)]) (rowB r)):=hg.zmw (Nat.le_refl _) (by simp) _ fun e=>by simp at e
  intro u m hu hm;exact(Vt.put h1 (by decide) _ _ u m hu hm).trans (Vt.put hg (by decide) _ _ u m hu hm)
theorem zqx{n:Nat}{s:St}(hg:AG n s)(hn:n<1000000)(x:I4)(way:Nat)(a:W4)(bl:Nat):Vt [30,31,26,27] s (z4u (z0t s x way a bl) bl x.l):=by
 have h1:=hg.putT (t:=30) (by decide) (by decide) (by decide) (by decide) (l:=x.l) (by simp) (rowB [(way:Int),(bl:Int)]);have h2:=z5t hg x way a bl;have h3:=zf3 (l:=x.l) h2 hn bl;exact(((Vt.put hg (t:=30) (by decide) x.l _).trans (Vt.put h1 (t:=31) (by decide) x.l _)).trans (Vt.put h2 (t:=26) (by decide) _ _)).trans (Vt.put h3.1 (t:=27) (by decide) [] _)
theorem zed{n:Nat}{s:St}(hg:AG n s)(hn:n<1000000){x:I4}(hx:∀ n∈x.l,0<=n){way bl:Nat}(hw:way<10)(hb:bl<=2199023255552){a:W4}(ha:a.Ok):pend (z4u (z0t s x way a bl) bl x.l) x=(way,a,bl):=by
 have h1:=hg.putT (t:=30) (by decide) (by decide) (by decide) (by decide) (l:=x.l) (by simp) (rowB [(way:Int),(bl:Int)]);have h2:=z5t hg x way a bl;have h3:=zf3 (l:=x.l) h2 hn bl;have hd:Vt [26,27] (z0t s x way a bl) (z4u (z0t s x way a bl) bl x.l):=(Vt.put h2 (t:=26) (by decide) _ _).trans (Vt.put h3.1 (t:=27) (by decide) [] _);rw[hd.pend (by decide) (by decide)];have h30:(z0t s x way a bl).val (aKey 30 x)=rowB [(way:Int),(bl:Int)]:=by
  refine(Vt.put h1 (t:=31) (by decide) x.l _ 30 x.l (by decide) (by decide)).trans ?_;show(s.put (aKey 30 x) _).val (aKey 30 x)=_
  rw[z7q s hg.srt (aKey 30 x) _ _ (za0 30 hx),if_pos rfl]
 have h31:(z0t s x way a bl).amt (aKey 31 x)=a:=by
  unfold z0t;rw[zon (z6u hg.srt _ _) (k:=aKey 31 x) (za0 31 hx) a ha,if_pos rfl]
 rw[zjt,h30,h31,z7k _ (fun n hn=>by
  simp only[List.mem_cons,List.not_mem_nil,or_false]at hn
  rcases hn with rfl | rfl<;>omega)]
 show zb0 [((way:Int)).toNat,((bl:Int)).toNat] a=_
 rw[Int.toNat_natCast,Int.toNat_natCast];rfl
theorem zgb{n:Nat}{s:St}(hg:AG n s){x:I4}(hx:∀ n∈x.l,0<=n){a:W4}(ha:a.Ok):cur (s.z09 (aKey 29 x) a) x=a:=by
 show(s.z09 (aKey 29 x) a).amt (aKey 29 x)=a
 rw[zon hg.srt (k:=aKey 29 x) (za0 29 hx) a ha,if_pos rfl]
theorem zua{n:Nat}{s:St}(hg:AG n s)(hn:n<100000){x:I4}(hx:∀ n∈x.l,0<=n)(hp:(pend s x).1≠0):cur (mtSt s x) x=mtN s x/\(pend (mtSt s x) x).1=0:=by
 have h1:AG n (mtS1 s x):=by
  unfold mtS1;split
  ·exact hg
  ·exact zqg (zb2 hg x) (by omega) _ _
 have hno:(mtN s x).Ok:=by
  unfold mtN;split
  ·exact zhp _
  ·exact zk1 _ _
 have h2:=h1.amtT (t:=29) (by decide) (by decide) (by decide) (by decide) (l:=x.l) (by simp) (mtN s x);have h3:=h2.delT (t:=30) (by decide) (by decide) (by decide) (by decide) (l:=x.l) (by simp);have e:mtSt s x=(((mtS1 s x).z09 (aKey 29 x) (mtN s x)).put (aKey 30 x) z05).put (aKey 31 x) z05:=by
  unfold mtSt;rw[if_neg hp,z6o,z6o]
 rw[z6o]at h3;have v2:Vt [30] ((mtS1 s x).z09 (aKey 29 x) (mtN s x)) (((mtS1 s x).z09 (aKey 29 x) (mtN s x)).put (aKey 30 x) z05):=Vt.put h2 (by decide) x.l _;have v3:Vt [31] (((mtS1 s x).z09 (aKey 29 x) (mtN s x)).put (aKey 30 x) z05) ((((mtS1 s x).z09 (aKey 29 x) (mtN s x)).put (aKey 30 x) z05).put (aKey 31 x) z05):=Vt.put h3 (by decide) x.l _;rw[e];refine⟨?_,?_⟩
 ·rw[v3.cur (by decide),v2.cur (by decide),zgb h1 hx hno]
 ·have e30:(((mtS1 s x).z09 (aKey 29 x) (mtN s x)).put (aKey 30 x) z05).val (aKey 30 x)=z05:=by rw[z7q ((mtS1 s x).z09 (aKey 29 x) (mtN s x)) h2.srt (aKey 30 x) z05 (aKey 30 x) (za0 30 hx),if_pos rfl]
  have h30:((((mtS1 s x).z09 (aKey 29 x) (mtN s x)).put (aKey 30 x) z05).put (aKey 31 x) z05).val (aKey 30 x)=z05:=(v3 30 x.l (by decide) (by decide)).trans e30;rw[zjt,h30,z9a];rfl
theorem zz9{tt c:W4}(ht:tt.Ok)(h:subB tt c=true):sumW c (subW tt c)=tt:=by
 have hle:uN c<=uN tt:=by unfold subB at h;exact of_decide_eq_true h
 have e1:=zj7 (y:=c) ht hle;have hlt:=z2i ht;refine z6c (zhp _) ht ?_;rw[zwo (by rw[e1];omega),e1];omega
theorem zw5{tt c:W4}(ht:tt.Ok)(hc:c.Ok)(h:¬ subB tt c=true):z1b c (subW c tt)=tt:=by
 have hle:¬ uN c<=uN tt:=fun hh=>h (by unfold subB;exact decide_eq_true hh)
 have e1:=zj7 (y:=tt) hc (by omega);refine z6c (zk1 _ _) ht ?_;rw[zt0 hc (zjd _ _),e1];omega
theorem ztx{n:Nat}{s:St}(hg:AG n s)(hn:n<10000){x:I4}(hxo:x.Ok){tt:W4}(ht:tt.Ok)(mx:W4)(bk dl tl:Int)(sl:Bool) :
  (mdE s x tt mx bk dl tl sl≠0->cur (mdSt s x tt mx bk dl tl sl) x=cur s x) /\
  (mdE s x tt mx bk dl tl sl=0->(mdN s x tt mx bk dl tl sl=0/\(pend (mdSt s x tt mx bk dl tl sl) x).1=0/\cur (mdSt s x tt mx bk dl tl sl) x=tt) \/
   (mdN s x tt mx bk dl tl sl≠0/\cur (mdSt s x tt mx bk dl tl sl) x=cur s x/\(pend (mdSt s x tt mx bk dl tl sl) x).2.2=mdN s x tt mx bk dl tl sl /\
    ((pend (mdSt s x tt mx bk dl tl sl) x).1=1/\sumW (cur s x) (pend (mdSt s x tt mx bk dl tl sl) x).2.1=tt\/(pend (mdSt s x tt mx bk dl tl sl) x).1=2/\subW (cur s x) (pend (mdSt s x tt mx bk dl tl sl) x).2.1=tt) /\
    cur (mtSt (mdSt s x tt mx bk dl tl sl) x) x=tt/\(pend (mtSt (mdSt s x tt mx bk dl tl sl) x) x).1=0)):=by
 have hU:=z90 hg.srt x tt mx bk dl tl sl;have hA1:=zrk hg (by omega) x tt mx bk dl tl sl;have hco:=zu1 s x;constructor
 ·intro hE;unfold mdSt;unfold mdE at hE;split
  ·rename_i h0;rw[if_pos h0]at hE;rw[if_neg hE,hU.2]
  ·rfl
 ·intro hE;have h0:mdE0 s x tt bk dl tl=0:=by
   apply Classical.byContradiction;intro h0;unfold mdE at hE;rw[if_neg h0]at hE;exact h0 hE
  have hT:mdTE s x tt mx bk dl tl sl=0:=by
   unfold mdE at hE
   rwa [if_pos h0]at hE
  have eS:mdSt s x tt mx bk dl tl sl=mdTS s x tt mx bk dl tl sl:=by unfold mdSt;rw[if_pos h0,if_pos hT]
  have eN:mdN s x tt mx bk dl tl sl=mdTN s x tt mx bk dl tl sl:=by unfold mdN;rw[if_pos h0,if_pos hT]
  have hgd:(aGd x&&z3j [bk,dl,tl])=true:=by
   cases hb:(aGd x&&z3j [bk,dl,tl])with
   | true=>rfl
   | false=>unfold mdE0 at h0;rw[if_pos (by rw[hb];rfl)]at h0;cases h0
  have hp0:(pend s x).1=0:=by
   apply Classical.byContradiction;intro h;unfold mdE0 at h0;rw[if_neg (by rw[hgd];decide)]at h0
   by_cases h1:uCmp tt oneW<=0
   ·rw[if_neg (by rw[decide_eq_true h1];decide),if_pos h]at h0;cases h0
   ·rw[if_pos (by rw[decide_eq_false h1];rfl)]at h0;cases h0
  obtain⟨hx1,hb1⟩:=Bool.and_eq_true_iff.1 hgd;have hx:∀ n∈x.l,0<=n:=fun m hm=>(zcp hx1 hxo m hm).1
  obtain⟨⟨b1,b2⟩,⟨b3,b4⟩,b5,b6⟩:=z8e hb1;rw[eS]at hA1 ⊢;rw[eN];have hyo:=zha s x tt
  by_cases hu:mdUp s x tt=true
  ·have eT:mdTS s x tt mx bk dl tl sl=grSt s x tt mx (mdY s x tt) bk.toNat dl.toNat:=by unfold mdTS;rw[if_pos hu]
   have eM:mdTN s x tt mx bk dl tl sl=grN s x mx (mdY s x tt) bk.toNat dl.toNat:=by unfold mdTN;rw[if_pos hu]
   have eY:mdY s x tt=subW tt (cur s x):=by unfold mdY;rw[if_pos hu]
   have hY:sumW (cur s x) (mdY s x tt)=tt:=by rw[eY];exact zz9 ht hu
   unfold mdTE at hT;rw[if_pos hu]at hT;rw[eT]at hA1 ⊢;rw[eM];have hB:z7e s x mx (mdY s x tt)=false:=by
    cases hb:z7e s x mx (mdY s x tt)with
    | false=>rfl
    | true=>unfold grE at hT;rw[hb,if_pos rfl]at hT;cases hT
   have g1:=zeg hg x (mdY s x tt);have v1:Vt [32] s (grS1 s x (mdY s x tt)):=by
    unfold grS1 aAll;exact Vt.amt hg (by decide) _ _
   by_cases hd:dl.toNat=0
   ·have eG:grSt s x tt mx (mdY s x tt) bk.toNat dl.toNat=(grS1 s x (mdY s x tt)).z09 (aKey 29 x) tt:=by simp only[grSt,hB,Bool.false_eq_true,↓reduceIte,hd]
    have eK:grN s x mx (mdY s x tt) bk.toNat dl.toNat=0:=by simp only[grN,hB,Bool.false_eq_true,↓reduceIte,hd]
    rw[eG,eK];refine .inl ⟨rfl,?_,zgb g1 hx ht⟩;have v2:Vt [29] (grS1 s x (mdY s x tt)) ((grS1 s x (mdY s x tt)).z09 (aKey 29 x) tt):=Vt.amt g1 (by decide) x.l _;rw[v2.pend (by decide) (by decide),v1.pend (by decide) (by decide)];exact hp0
   ·have eE:grE s x mx (mdY s x tt) bk.toNat dl.toNat=z3h (bk.toNat+dl.toNat):=by simp only[grE,hB,Bool.false_eq_true,↓reduceIte,hd]
    rw[eE]at hT;have hbl:bk.toNat+dl.toNat<=1099511627776:=by
     apply Classical.byContradiction;intro h;unfold z3h at hT;rw[if_neg h]at hT;cases hT
    have eG:grSt s x tt mx (mdY s x tt) bk.toNat dl.toNat=z4u (z0t (grS1 s x (mdY s x tt)) x 1 (mdY s x tt) (bk.toNat+dl.toNat)) (bk.toNat+dl.toNat) x.l:=by simp only[grSt,hB,Bool.false_eq_true,↓reduceIte,hd,z19,hbl]
    have eK:grN s x mx (mdY s x tt) bk.toNat dl.toNat=bk.toNat+dl.toNat:=by simp only[grN,hB,Bool.false_eq_true,↓reduceIte,hd]
    rw[eG]at hA1 ⊢;rw[eK];have hP:=zed g1 (by omega) hx (way:=1) (bl:=bk.toNat+dl.toNat) (by decide) (by omega) hyo;have vc:=(v1.trans (zqx g1 (by omega) x 1 (mdY s x tt) (bk.toNat+dl.toNat))).cur (by decide) x;obtain⟨m1,m2⟩:=zua hA1 (by omega) hx (by rw[hP];exact Nat.one_ne_zero);refine .inr ⟨by omega,vc,by rw[hP],.inl ⟨by rw[hP],by rw[hP];exact hY⟩,?_,m2⟩;rw[m1];unfold mtN;rw[hP,if_pos rfl,vc];exact hY
  ·have eT:mdTS s x tt mx bk dl tl sl=shSt s x tt (mdY s x tt) bk.toNat tl.toNat sl:=by unfold mdTS;rw[if_neg hu]
   have eM:mdTN s x tt mx bk dl tl sl=shN s x bk.toNat tl.toNat sl:=by unfold mdTN;rw[if_neg hu]
   have eY:mdY s x tt=subW (cur s x) tt:=by unfold mdY;rw[if_neg hu]
   have hY:z1b (cur s x) (mdY s x tt)=tt:=by rw[eY];exact zw5 ht hco hu
   have hY2:subW (cur s x) (mdY s x tt)=tt:=by rw[<- (zau hco hyo).1];exact hY
   unfold mdTE at hT;rw[if_neg hu]at hT;rw[eT]at hA1 ⊢;rw[eM]
   by_cases hw:shW sl tl.toNat=true
   ·have eE:shE s x (mdY s x tt) bk.toNat tl.toNat sl=if shPE s x=0 then z3h (bk.toNat+tl.toNat)else shPE s x:=by simp only[shE,hw,↓reduceIte]
    rw[eE]at hT;have hPE:shPE s x=0:=by
     apply Classical.byContradiction;intro h;rw[if_neg h]at hT;exact h hT
    rw[if_pos hPE]at hT;have hbl:bk.toNat+tl.toNat<=1099511627776:=by
     apply Classical.byContradiction;intro h;unfold z3h at hT;rw[if_neg h]at hT;cases hT
    have htl:0<tl.toNat:=by
     unfold shW at hw;exact of_decide_eq_true (Bool.and_eq_true_iff.1 hw).2
    have eG:shSt s x tt (mdY s x tt) bk.toNat tl.toNat sl=z4u (z0t (shP s x) x 2 (mdY s x tt) (bk.toNat+tl.toNat)) (bk.toNat+tl.toNat) x.l:=by simp only[shSt,hw,hPE,↓reduceIte,z19,hbl]
    have eK:shN s x bk.toNat tl.toNat sl=bk.toNat+tl.toNat:=by simp only[shN,hw,hPE,↓reduceIte]
    rw[eG]at hA1 ⊢;rw[eK];have g1:AG (n+1) (shP s x):=zbo hg (by omega) _ _ _;have v1:Vt [33] s (shP s x):=zw7 hg _ _ _;have hP:=zed g1 (by omega) hx (way:=2) (bl:=bk.toNat+tl.toNat) (by decide) (by omega) hyo;have vc:=(v1.trans (zqx g1 (by omega) x 2 (mdY s x tt) (bk.toNat+tl.toNat))).cur (by decide) x;obtain⟨m1,m2⟩:=zua hA1 (by omega) hx (by rw[hP];exact(by decide:(2:Nat)≠0));refine .inr ⟨by omega,vc,by rw[hP],.inr ⟨by rw[hP],by rw[hP];exact hY2⟩,?_,m2⟩;rw[m1];unfold mtN;rw[hP,if_neg (by show ¬ (2:Nat)=1;decide),vc];exact hY
   ·have eE:shE s x (mdY s x tt) bk.toNat tl.toNat sl=shSE s x (mdY s x tt):=by simp only[shE,hw,Bool.false_eq_true,↓reduceIte]
    rw[eE]at hT;have eG:shSt s x tt (mdY s x tt) bk.toNat tl.toNat sl=(shS1 s x (mdY s x tt)).z09 (aKey 29 x) tt:=by simp only[shSt,hw,Bool.false_eq_true,↓reduceIte,hT]
    have eK:shN s x bk.toNat tl.toNat sl=0:=by simp only[shN,hw,Bool.false_eq_true,↓reduceIte]
    rw[eG,eK];have g2:AG n (shS1 s x (mdY s x tt))/\Vt [32] s (shS1 s x (mdY s x tt)):=by
     unfold shS1;rw[if_pos hT];exact⟨hg.amtT (t:=32) (by decide) (by decide) (by decide) (by decide) (by simp) _,Vt.amt hg (by decide) [x.1,x.2.1] _⟩
    refine .inl ⟨rfl,?_,zgb g2.1 hx ht⟩;have v2:Vt [29] (shS1 s x (mdY s x tt)) ((shS1 s x (mdY s x tt)).z09 (aKey 29 x) tt):=Vt.amt g2.1 (by decide) x.l _;rw[v2.pend (by decide) (by decide),g2.2.pend (by decide) (by decide)];exact hp0
open Go.ChangeShapes Go.WideShapes Go.ChangeAt
def PT(w w3:World)(q:Option Addr)(b:Nat)(s t:St)(rs:List (Nat × Obj))(W:World):Prop:=
 ∃ K,(∀ j∈K,w.heap.size<=j)/\Below w.heap.size w w3/\PV ⟨q,true,[]⟩ b t w3 K s rs W
section
variable {w w3 W W':World} {q:Option Addr} {b k:Nat} {s s' t:St} {rs rs':List (Nat × Obj)}
theorem PT.alloc(h:PT w w3 q b s t rs W)(o:Obj):PT w w3 q b s t ((W.heap.size,o)::rs) (W.alloc o):=by
 obtain⟨K,a,c,h1⟩:=h;exact⟨K,a,c,QV.alloc h1 o⟩
theorem PT.put4(h:PT w w3 q b s t rs W){g:Nat}{y:W4}(x:W4)(hm:(g,uO y)∈rs)(qs:List (Nat × Obj))(hqs:∀ x,x∈qs->x∈rs/\x.1≠g) :
  PT w w3 q b s t ((g,uO x)::qs) ((((W.setCell ⟨g,0,none⟩ (.int .u64 x.1)).setCell ⟨g,1,none⟩ (.int .u64 x.2.1)).setCell ⟨g,2,none⟩ (.int .u64 x.2.2.1)).setCell ⟨g,3,none⟩ (.int .u64 x.2.2.2)):=by
 obtain⟨K,a,c,h1⟩:=h;exact⟨K,a,c,QV.put4 h1 x hm qs hqs⟩
theorem PT.row(h:PT w w3 q b s t rs W){g:Nat}{o:Obj}(hm:(g,o)∈rs):W.heap[g]?=some o:=by
 obtain⟨K,a,c,h1⟩:=h;exact QV.row h1 hm
theorem PT.z2o(h:PT w w3 q b s t rs W):Below w.heap.size w W:=by
 obtain⟨K,a,c,h1⟩:=h;obtain⟨K',_,st⟩:=QV.done h1
 exact(zcl c a st).1
theorem PT.drew(h:PT w w3 q b s t rs W):PT w w3 q b s t rs W.drew:=by
 obtain⟨K,a,c,h1⟩:=h;exact⟨K,a,c,QV.below h1 (z0h (Below.refl _ W))⟩
theorem PT.reads(h:PT w w3 q b s t rs W){f:FuncId}{args:Array Value}{v:Value}(hC:∀ L,QSt W ⟨q,true,L⟩ s->Calls Tryz.prog f args W fun e W'=>e= .returned v/\Below W.heap.size W W'):Calls Tryz.prog f args W fun e W'=>e= .returned v/\PT w w3 q b s t rs W':=by
 obtain⟨K,a,c,h1⟩:=h;exact(PV.zz7 h1 hC).mono fun e W' ⟨he,h2⟩=>⟨he,K,a,c,h2⟩
theorem PT.plain(h:PT w w3 q b s t rs W){f:FuncId}{args:Array Value}{v:Value}(hC:Calls Tryz.prog f args W fun e W'=>e= .returned v/\Below W.heap.size W W'):Calls Tryz.prog f args W fun e W'=>e= .returned v/\PT w w3 q b s t rs W':=h.reads fun _ _=>hC
theorem PT.call(h:PT w w3 q b s t rs W){f:FuncId}{args:Array Value}{v:Value}(hC:∀ L,QSt W ⟨q,true,L⟩ s->Calls Tryz.prog f args W fun e W'=>e= .returned v/\QOn W ⟨q,true,L⟩ s' W'):Calls Tryz.prog f args W fun e W'=>e= .returned v/\PT w w3 q b s' t rs W':=by
 obtain⟨K,a,c,h1⟩:=h;exact(PV.zr2 h1 hC).mono fun e W' ⟨he,h2⟩=>⟨he,K,a,c,h2⟩
theorem PT.now(h:PT w w3 q b s t rs W){f:Nat}(hf:s.Fit f)(hm:f<100000)(x:I4)(hx:x.Ok):Calls Tryz.prog 18 #[.pointer q,idV x] W fun e W'=>e= .returned (uV (cur s x))/\PT w w3 q b s t rs W':=
 h.reads fun L hq=>z5e W q s x hx (hq.read hf (by omega))
theorem PT.waits(h:PT w w3 q b s t rs W){f:Nat}(hf:s.Fit f)(hm:f<100000)(x y:Int)(hx:x<9223372036854775808)(hy:y<9223372036854775808):Calls Tryz.prog 17 #[.pointer q,.int .i64 x,.int .i64 y] W fun e W'=>e= .returned (.int .i64 (((ends s 33 [x,y]).2-(ends s 33 [x,y]).1:Nat):Int))/\PT w w3 q b s t rs W':=
 h.reads fun L hq=>znn W q s x y hx hy fun w1 hb=>QSt.read (h:=⟨q,true,L⟩) (hq.below hb) hf (by omega)
theorem PT.pend(h:PT w w3 q b s t rs W){f:Nat}(hf:s.Fit f)(hm:f<100000)(x:I4)(hx:x.Ok):Calls Tryz.prog 20 #[.pointer q,idV x] W fun e W'=>e= .returned (.tuple #[.int .i64 (Go.Proofs.YtnkilceibkkjlaaGreat.pend s x).1,uV (Go.Proofs.YtnkilceibkkjlaaGreat.pend s x).2.1,.int .i64 (Go.Proofs.YtnkilceibkkjlaaGreat.pend s x).2.2])/\PT w w3 q b s t rs W':=
 h.reads fun L hq=>z5p W q s x hx (hq.read hf (by omega))
theorem PT.modify(h:PT w w3 q b s t rs W){f:Nat}(hf:s.Fit f)(hm:f<100000)(hg:AG k s)(hk:k<100000)(A:LAct)(hA:A.Ok):Calls Tryz.prog 19 #[.pointer q,idV A.x,chV A.tt A.mx A.bk A.dl A.tl A.sl] W fun e W'=>e= .returned (.tuple #[.int .i64 (mdN s A.x A.tt A.mx A.bk A.dl A.tl A.sl),.int .i64 (mdE s A.x A.tt A.mx A.bk A.dl A.tl A.sl)])/\PT w w3 q b (mdSt s A.x A.tt A.mx A.bk A.dl A.tl A.sl) t rs W':=
 h.call fun L h1=>zca W ⟨q,true,L⟩ s f A.bk A.dl A.tl A.x A.tt A.mx A.sl rfl hA.x hA.tt hA.mx h1 hf (by omega) fun _ _=>zjx hg hk hf (by omega) _ _ _ _ _ _ _
theorem PT.zu7(h:PT w w3 q b s t rs W){f:Nat}(hf:s.Fit f)(hm:f<100000)(hg:AG k s)(hk:k<100000)(x:I4)(hx:x.Ok):Calls Tryz.prog 23 #[.pointer q,idV x] W fun e W'=>e= .returned (.bool (!decide ((Go.Proofs.YtnkilceibkkjlaaGreat.pend s x).1=0)))/\PT w w3 q b (mtSt s x) t rs W':=
 h.call fun L h1=>zd6 W ⟨q,true,L⟩ s f x rfl hx h1 hf (by omega) (Nat.lt_of_le_of_lt ((zb2 hg x).eb _ _) (by omega))
end
def WPh(w w3:World)(q:Option Addr)(b:Nat)(s1 s2 s3 t:St)(rs:List (Nat × Obj)):Nat->World->Prop
 | 0,W=>PT w w3 q b s1 t rs W
 | 1,W=>PT w w3 q b s2 t rs W
 | 2,W=>PT w w3 q b s2 t rs W
 | _+3,W=>PT w w3 q b s3 t rs W
theorem WPh.ex{w w3 W:World}{q:Option Addr}{b:Nat}{s1 s2 s3 t:St}{rs:List (Nat × Obj)}{p:Nat}(hP:WPh w w3 q b s1 s2 s3 t rs p W):∃ s,PT w w3 q b s t rs W:=by
 match p,hP with
 | 0,hP=>exact⟨_,hP⟩
 | 1,hP=>exact⟨_,hP⟩
 | 2,hP=>exact⟨_,hP⟩
 | _+3,hP=>exact⟨_,hP⟩
theorem WPh.row{w w3 W:World}{q:Option Addr}{b:Nat}{s1 s2 s3 t:St}{rs:List (Nat × Obj)}{p:Nat}(hP:WPh w w3 q b s1 s2 s3 t rs p W){g:Nat}{o:Obj}(hm:(g,o)∈rs):W.heap[g]?=some o:=by
 obtain⟨s,h⟩:=hP.ex;exact h.row hm
theorem WPh.z2o{w w3 W:World}{q:Option Addr}{b:Nat}{s1 s2 s3 t:St}{rs:List (Nat × Obj)}{p:Nat}(hP:WPh w w3 q b s1 s2 s3 t rs p W):Below w.heap.size w W:=by
 obtain⟨s,h⟩:=hP.ex;exact h.z2o
section
variable {ops:Array Oper} {o:Oper} {a:Go.Act} {w:World} {K:Value->World->Prop} {x y:Operand} {g:Nat}
theorem zg2(hg:Region.wanted o (yielded ops a.tmps)=true)(ho:o.op= .fieldAddr 38 x 2)(hx:a.eval x= .pointer (some ⟨g,0,none⟩))(hk:K (.pointer (some ⟨g,5,none⟩)) w):rgDo Tryz.prog ops o a w K:=by
 refine z0n hg ?_ hk;clear hg hk;generalize a.eval=ev at hx ⊢;unfold execOp;simp only[ho,hx]
 go_simp
theorem zkx(hg:Region.wanted o (yielded ops a.tmps)=true)(ho:o.op= .fieldAddr 36 x 0)(hx:a.eval x= .pointer (some ⟨g,5,none⟩))(hk:K (.pointer (some ⟨g,5,none⟩)) w):rgDo Tryz.prog ops o a w K:=by
 refine z0n hg ?_ hk;clear hg hk;generalize a.eval=ev at hx ⊢;unfold execOp;simp only[ho,hx]
 go_simp
theorem zgk{u:W4}(hg:Region.wanted o (yielded ops a.tmps)=true)(ho:o.op= .binOp .eql 24 x y 24)(hx:a.eval x=uV u)(hy:a.eval y=uV u)(hk:K (.bool true) w):rgDo Tryz.prog ops o a w K:=by
 refine z0n hg ?_ hk;clear hg hk;generalize a.eval=ev at hx hy ⊢;unfold execOp;have:=eqU u u w;rw[decide_eq_true rfl]at this;have hq:Program.eqGuardType Tryz.prog Tryz.prog.depth 24=false:=by kernel_rfl
 simp only[ho,hx,hy]
 go_simp
end
theorem zrz{w:World}{A:LAct}{g:Nat}(h:w.heap[g]?=some (actO A)):w.cell? ⟨g,5,none⟩=some (.int .u64 A.tt.1)/\w.cell? ⟨g,5+1,none⟩=some (.int .u64 A.tt.2.1)/\w.cell? ⟨g,5+2,none⟩=some (.int .u64 A.tt.2.2.1)/\w.cell? ⟨g,5+3,none⟩=some (.int .u64 A.tt.2.2.2)/\∀ j,w.frozen? ⟨g,j,none⟩=false:=by
 obtain⟨_,_,⟨c0,c1,c2,c3⟩,_,_,_,cz⟩:=z8i h;exact⟨c0,c1,c2,c3,cz⟩
theorem zyv{s:St}{f:Nat}(hf:s.Fit f)(x:I4):(mtSt s x).Fit (f+16):=by
 obtain⟨j,hj,h⟩:=ztn x s;exact(h.fit hf).mono (by omega)
section
variable {H:Type} {enc:TypeId × Value->H} {w:World} {base:Nat} {spare:Nat->Bool} {held:Bool}
theorem zmi{r:Reach}{b0:Nat}{v:Value}{d:DataW H}{p:List MemPlace}(hv:Value.okWide Tryz.prog w r b0 38 v)(h:DataW.Trod enc Tryz.prog w base spare held 38 v d p) :
  ∃ A:LAct,v= .agg A.L/\A.Ok:=by
 obtain⟨cs,rfl,hsz⟩:=okWide_struct Tryz.underlying38 hv;obtain⟨fuel,hf0⟩:=h;obtain⟨A,e,hA⟩:=zl3 hf0;refine⟨A,?_,hA⟩;obtain⟨l⟩:=cs;have e:l=A.L.toList:=e;rw[e]
end
end Go.Proofs.YtnkilceibkkjlaaGreat
