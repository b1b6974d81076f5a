/- What is proved here: a store of the program and one of the reference side by side, among rows. Condit -/
import Derived.Test.YtnkilceibkkjlaaGreatGExA
import Derived.Test.YtnkilceibkkjlaaGreatGExEqB
set_option maxRecDepth 100000
set_option maxHeartbeats 16000000
namespace Go.Proofs.YtnkilceibkkjlaaGreat
open Go.RowKit
def z7v(q:Option Addr)(on:Bool)(b:Nat)(m:St):World->List Nat->St->Prop:=fun W K s=>∃ L M,K=L++M/\(∀ k∈L,k∉M)/\QSt W ⟨q,on,L⟩ s/\RRep W b m M
theorem z5d(q:Option Addr)(on:Bool)(b:Nat)(m:St):zin (z7v q on b m):=by
 refine⟨fun W K s h k hk => ?_,fun W W' K s h hs hb => ?_⟩
 ·obtain⟨L,M,rfl,_,h1,h2⟩:=h;rcases List.mem_append.1 hk with h3 | h3
  ·exact h1.lt k h3
  ·exact h2.lt k h3
 ·obtain⟨L,M,rfl,hd,h1,h2⟩:=h;exact⟨L,M,rfl,hd,h1.frame hs fun k hk=>hb k (List.mem_append_left _ hk),h2.frame fun k hk=>hb k (List.mem_append_right _ hk)⟩
theorem QV.zzg{R R':World->List Nat->St->Prop}{w W:World}{L:List Nat}{s s':St}{rs:List (Nat × Obj)}(h:QV R w L s rs W)(hR:zin R'){f:FuncId}{args:Array Value}{v:Value}(hC:∀ L',R W L' s->Calls Tryz.prog f args W fun e W'=>e= .returned v/\∃ L'',R' W' L'' s'/\Step W L' W' L''):Calls Tryz.prog f args W fun e W'=>e= .returned v/\QV R' w L s' rs W':=by
 obtain⟨L',h1,h2,h3⟩:=h.on;refine(hC L' h1).mono fun e W' ⟨he,L2,hR2,st⟩=>⟨he,hR,⟨L2,hR2,h2.trans st,fun g o hm hk => ?_⟩,fun g o hm=>⟨h.le hm,(st.fr.block g (z05 (h.row hm)) (h3 g o hm)).trans (h.row hm)⟩⟩
 rcases st.own g hk with h4 | h4
 ·exact h3 g o hm h4
 ·exact absurd (z05 (h.row hm)) (Nat.not_lt.2 h4)
abbrev PV(h:Hand)(b:Nat)(m:St)(w:World)(K:List Nat)(s:St)(rs:List (Nat × Obj))(W:World):Prop:=QV (z7v h.ptr h.on b m) w K s rs W
theorem PV.zwb{h:Hand}{b:Nat}{m:St}{w W:World}{K:List Nat}{s s':St}{rs:List (Nat × Obj)}(hP:PV h b m w K s rs W){f:FuncId}{args:Array Value}{v:Value}(hC:∀ L,QSt W ⟨h.ptr,h.on,L⟩ s->Calls Tryz.prog f args W fun e W'=>e= .returned v/\QOn W ⟨h.ptr,h.on,L⟩ s' W') :
  Calls Tryz.prog f args W fun e W'=>e= .returned v/\PV h b m w K s' rs W':=by
 refine QV.call hP fun K' hK => ?_
 obtain⟨L,M,rfl,hd,h1,h2⟩:=hK;refine(hC L h1).mono fun e W' ⟨he,L',h3,st⟩=>⟨he,L'++M,⟨L',M,rfl,fun k hk hm => ?_,h3,h2.frame fun k hk=>st.fr.block k (h2.lt k hk) fun hl=>hd k hl hk⟩,⟨st.fr.mono fun k _ hk=>List.mem_append_left _ hk,fun k hk => ?_⟩⟩
 ·rcases st.own k hk with h4 | h4
  ·exact hd k h4 hm
  ·exact absurd (h2.lt k hm) (Nat.not_lt.2 h4)
 ·rcases List.mem_append.1 hk with h4 | h4
  ·rcases st.own k h4 with h5 | h5
   ·exact .inl (List.mem_append_left _ h5)
   ·exact .inr h5
  ·exact .inl (List.mem_append_right _ h4)
theorem PV.zwc{h:Hand}{b:Nat}{m m':St}{w W:World}{K:List Nat}{s:St}{rs:List (Nat × Obj)}(hP:PV h b m w K s rs W){f:FuncId}{args:Array Value}{v:Value}(hC:∀ M,RRep W b m M->Calls Tryz.prog f args W fun e W'=>e= .returned v/\ROn W b M m' W') :
  Calls Tryz.prog f args W fun e W'=>e= .returned v/\PV h b m' w K s rs W':=by
 refine QV.zzg hP (z5d _ _ _ _) fun K' hK => ?_
 obtain⟨L,M,rfl,hd,h1,h2⟩:=hK;refine(hC M h2).mono fun e W' ⟨he,M',h3,st⟩=>⟨he,L++M',⟨L,M',rfl,fun k hk hm => ?_,h1.frame st.fr.size fun k hk=>st.fr.block k (h1.lt k hk) fun hl=>hd k hk hl,h3⟩,⟨st.fr.mono fun k _ hk=>List.mem_append_right _ hk,fun k hk => ?_⟩⟩
 ·rcases st.own k hm with h4 | h4
  ·exact hd k hk h4
  ·exact absurd (h1.lt k hk) (Nat.not_lt.2 h4)
 ·rcases List.mem_append.1 hk with h4 | h4
  ·exact .inl (List.mem_append_left _ h4)
  ·rcases st.own k h4 with h5 | h5
   ·exact .inl (List.mem_append_right _ h5)
   ·exact .inr h5
theorem PV.zrq{h:Hand}{b:Nat}{m:St}{w W:World}{K:List Nat}{s:St}{rs:List (Nat × Obj)}(hP:PV h b m w K s rs W){f:FuncId}{args:Array Value}{v:Value}(hC:∀ L,QSt W ⟨h.ptr,h.on,L⟩ s->Calls Tryz.prog f args W fun e W'=>e= .returned v/\Below W.heap.size W W') :
  Calls Tryz.prog f args W fun e W'=>e= .returned v/\PV h b m w K s rs W':=
 QV.reads hP fun _ ⟨L,_,_,_,h1,_⟩=>hC L h1
theorem PV.zpd{h:Hand}{b:Nat}{m:St}{w W:World}{K:List Nat}{s:St}{rs:List (Nat × Obj)}(hP:PV h b m w K s rs W){f:FuncId}{args:Array Value}{v:Value}(hC:∀ M,RRep W b m M->Calls Tryz.prog f args W fun e W'=>e= .returned v/\Below W.heap.size W W') :
  Calls Tryz.prog f args W fun e W'=>e= .returned v/\PV h b m w K s rs W':=
 QV.reads hP fun _ ⟨_,M,_,_,_,h2⟩=>hC M h2
def POn(h:Hand)(b:Nat)(w:World)(K:List Nat)(s m:St)(W:World):Prop:=∃ K',z7v h.ptr h.on b m W K' s/\Step w K W K'
theorem PV.done{h:Hand}{b:Nat}{m:St}{w W:World}{K:List Nat}{s:St}{rs:List (Nat × Obj)}(hP:PV h b m w K s rs W):POn h b w K s m W:=QV.done hP
theorem zit{w0 w W:World}{K K':List Nat}(hb:Below w0.heap.size w0 w)(hK:∀ j∈K,w0.heap.size<=j)(st:Step w K W K'):Below w0.heap.size w0 W/\∀ j∈K',w0.heap.size<=j:=by
 refine⟨⟨st.fr.os.trans hb.os,st.fr.tape.trans hb.tape,st.fr.output.trans hb.output,Nat.le_trans hb.size st.fr.size,fun k hk => ?_⟩,fun j hj => ?_⟩
 ·rw[st.fr.block k (Nat.lt_of_lt_of_le hk hb.size) (fun hm=>absurd (hK k hm) (by omega))];exact hb.block k hk
 ·rcases st.own j hj with h | h
  ·exact hK j h
  ·exact Nat.le_trans hb.size h
theorem PV.two{h:Hand}{b:Nat}{m:St}{w W:World}{K:List Nat}{s:St}{rs:List (Nat × Obj)}(hP:PV h b m w K s rs W):∃ L M,QSt W ⟨h.ptr,h.on,L⟩ s/\RRep W b m M:=by
 obtain⟨K',⟨L,M,_,_,h1,h2⟩,_⟩:=hP.on;exact⟨L,M,h1,h2⟩
abbrev LRow(m:Nat)(a:Option Addr)(n c:Nat)(w:World):Prop:=w.cell? ⟨m,0,none⟩=some (.slice a n c)
theorem zrh(w:World):RRep (w.alloc (.cells #[.slice none 0 0,.slice none 0 0] 45)) w.heap.size ⟨[],[]⟩ [w.heap.size]:=
 ⟨.slice none 0 0,.slice none 0 0,⟨heap_alloc_new w _,Own.nil _ _ _,Own.nil _ _ _,List.Pairwise.nil,by simp[Value.ownBlock]⟩,by simp[rids,Value.ownBlock]⟩
theorem XG.congr{k:Nat}{s m:St}(hg:XG k s)(he:s.ents=m.ents):XG k m:=by
 obtain⟨e,p⟩:=s;obtain⟨e',p'⟩:=m;change e=e' at he;subst he;exact⟨⟨hg.b.srt,hg.b.keys,hg.b.noE⟩,hg.rows,hg.mono,hg.hlen,hg.cnt,hg.op⟩
theorem XG.ad26{k:Nat}{h:Hand}{s:St}(hg:XG k s)(hk:k<1000000000){x:Ex}(hx:x.Ok)(hgd:x.good=true):XG (k+1) (h.ad2 s x)/\XG (k+2) (h.ad6 s x):=by
 have h1:=hg.note (by omega) hx hgd;have h2:XG (k+1) (h.ad2 s x):=by
  unfold Hand.ad2 Hand.z5s;split
  ·exact h1.st (h1.put (.inr (.inr rfl)) (by simp) _)
  ·exact h1
 have h3:XG (k+2) (h.ad3 s x):=h2.zlh (by omega);obtain⟨g1,g2,g3,g4,g5,_⟩:=Ex.z4v hgd
 have h4:XG (k+2) (h.ad4 s x):=h3.zzw _ (by unfold Hand.adN;omega) (by
  rw[zgs _ (fun n hn=>by
   simp only[List.mem_cons,List.not_mem_nil,or_false]at hn;have:=hx.st;have:=hx.op;have:=hx.sg;have:=hx.bl;unfold I63 at *
   rcases hn with rfl | rfl | rfl | rfl<;>omega)]
  simp)
 have h5:XG (k+2) (h.ad5 s x):=h4.put (.inl rfl) (by simp) _;exact⟨h2,h5.put (.inr (.inl rfl)) (by simp) _⟩
theorem zo4{h:Hand}(hon:h.on=true){s m:St}(hs:Sorted s.ents)(he:s.ents=m.ents){x:Ex}(hg:x.good=true):(h.ad2 s x).ents=(rad2 m x).ents/\(h.ad6 s x).ents=(rad6 m x).ents:=by
 obtain⟨_,g2,g3,_⟩:=Ex.z4v hg;have hn:=zos hs he g3 (Int.le_trans (by decide) g2);have a2:(h.ad2 s x).ents=(rad2 m x).ents:=by
  unfold Hand.ad2 rad2;exact zgg hon hn _ _
 have aN:h.adN s x=radN m x:=by unfold Hand.adN radN;rw[z4m a2]
 have a3:(h.ad3 s x).ents=(rad3 m x).ents:=by unfold Hand.ad3 rad3;rw[aN];exact z5v a2 _ _
 have a4:(h.ad4 s x).ents=(rad4 m x).ents:=by unfold Hand.ad4 rad4;rw[aN];exact z4n a3 _ _
 have a5:(h.ad5 s x).ents=(rad5 m x).ents:=by unfold Hand.ad5 rad5;rw[aN];exact z3h a4 _ _
 exact⟨a2,by unfold Hand.ad6 rad6;rw[aN];exact z3h a5 _ _⟩
theorem zsg(w:World)(h:Hand)(b:Nat)(K:List Nat)(s m:St)(f0 k:Nat)(A:XAct)(hkd:A.kd=0)(hon:h.on=true)(hA:A.Ok)(hP:z7v h.ptr h.on b m w K s)(hfs:s.Fit f0)(hfm:m.Fit f0)(hm:f0<10000000)(hg:XG k s)(he:s.ents=m.ents)(hk:k<1000000000) :
  Calls Tryz.prog 48 #[.pointer h.ptr,.pointer (some ⟨b,0,none⟩),.agg A.L] w fun e w'=>e= .returned (.bool true)/\POn h b w K (h.z4o s A.x) (z3j m A.x) w':=by
 have hB:=(QV.start (z5d _ _ _ _) hP).alloc (.cells A.L 88);have hgm:=hg.congr he;obtain⟨e1,e2,e3⟩:=znp hon hg.b.srt he A.x;have HT:Hid (∀ rs W',PV h b m w K s rs W'->Calls Tryz.prog 37 #[.pointer h.ptr,.agg A.x.L] W' fun e w'=>e= .returned (.tuple #[.int .i64 (h.xadN s A.x),.int .i64 (xadE s A.x)])/\PV h b m w K (h.z4o s A.x) rs w'):=fun rs W' hW=>PV.zwb hW fun L h1=>zuy W' ⟨h.ptr,h.on,L⟩ s f0 A.x hon hA.x h1 hfs (by omega) (by have:=hg.hlen' hA.x.op hA.x.sg;omega) (fun hgd=>by have:=(hg.ad26 (h:=h) hk hA.x hgd).1.cnt;exact Nat.lt_of_le_of_lt this (by omega)) (fun hgd=>by have:=(hg.ad26 (h:=h) hk hA.x hgd).2.op' hA.x.st;exact Nat.lt_of_le_of_lt this (by omega))
 have HR:Hid (∀ rs W',PV h b m w K (h.z4o s A.x) rs W'->Calls Tryz.prog 120 #[.pointer (some ⟨b,0,none⟩),.agg A.x.L] W' fun e w'=>e= .returned (.tuple #[.int .i64 (h.xadN s A.x),.int .i64 (xadE s A.x)])/\PV h b (z3j m A.x) w K (h.z4o s A.x) rs w'):=fun rs W' hW=>by
  rw[e1,e2];exact PV.zwc hW fun M h1=>zxe W' b M m f0 A.x hA.x h1 hfm (by omega) (by have:=hgm.hlen' hA.x.op hA.x.sg;omega) (fun hgd=>by have:=(hg.ad26 (h:=h) hk hA.x hgd).1.cnt;rw[<- z4m (zo4 hon hg.b.srt he hgd).1];exact Nat.lt_of_le_of_lt this (by omega)) (fun hgd=>by have:=(hg.ad26 (h:=h) hk hA.x hgd).2.op' hA.x.st;rw[<- z4m (zo4 hon hg.b.srt he hgd).2];exact Nat.lt_of_le_of_lt this (by omega))
 have HB:=zh hB;clear hB hgm e1 e2 e3 hP hfs hfm hg he hA hon;generalize h.z4o s A.x=s1 at *
 generalize z3j m A.x=m1 at *
 generalize h.xadN s A.x=aN at *
 generalize xadE s A.x=aE at *
 obtain⟨kd,id,dl,⟨xs,xo,xt,xb,W,X⟩,m0,n0⟩:=A;dsimp only[XAct.L,Ex.L]at *
 subst hkd;go_enter Tryz.func48,Tryz.ntmps48;go_upto_region 1 with fail;generalize hw1:w.alloc (.cells #[.int .i64 0,.int .i64 id,.int .i64 dl,.int .i64 xs,.int .i64 xo,.int .i64 xt,.int .i64 xb,.int .u64 W.1,.int .u64 W.2.1,.int .u64 W.2.2.1,.int .u64 W.2.2.2,.int .u64 X.1,.int .u64 X.2.1,.int .u64 X.2.2.1,.int .u64 X.2.2.2,.int .u64 m0.1,.int .u64 m0.2.1,.int .u64 m0.2.2.1,.int .u64 m0.2.2.2,.int .u64 n0.1,.int .u64 n0.2.1,.int .u64 n0.2.2.1,.int .u64 n0.2.2.2] 88)=w1 at *
 clear hw1;have hc:=zb6 (HB.out.row (g:=w.heap.size) (o:=(.cells #[.int .i64 0,.int .i64 id,.int .i64 dl,.int .i64 xs,.int .i64 xo,.int .i64 xt,.int .i64 xb,.int .u64 W.1,.int .u64 W.2.1,.int .u64 W.2.2.1,.int .u64 W.2.2.2,.int .u64 X.1,.int .u64 X.2.1,.int .u64 X.2.2.1,.int .u64 X.2.2.2,.int .u64 m0.1,.int .u64 m0.2.1,.int .u64 m0.2.2.1,.int .u64 m0.2.2.2,.int .u64 n0.1,.int .u64 n0.2.1,.int .u64 n0.2.2.1,.int .u64 n0.2.2.2] 88)) (by simp));have c0:=hc 0 _ rfl;have c3:=hc 3 _ rfl;have c4:=hc 4 _ rfl;have c5:=hc 5 _ rfl;have c6:=hc 6 _ rfl;have c7:=hc 7 _ rfl;have c8:=hc 8 _ rfl;have c9:=hc 9 _ rfl;have c10:=hc 10 _ rfl;have c11:=hc 11 _ rfl;have c12:=hc 12 _ rfl;have c13:=hc 13 _ rfl;have c14:=hc 14 _ rfl;clear hc;have HT1:=zh (HT.out _ _ HB.out);clear HB HT;go_wp2_with fail;refine zm HT1.out ?_;rintro e w2 ⟨rfl,hB2⟩;clear HT1 c0 c3 c4 c5 c6 c7 c8 c9 c10 c11 c12 c13 c14;have hc:=zb6 (hB2.row (g:=w.heap.size) (o:=(.cells #[.int .i64 0,.int .i64 id,.int .i64 dl,.int .i64 xs,.int .i64 xo,.int .i64 xt,.int .i64 xb,.int .u64 W.1,.int .u64 W.2.1,.int .u64 W.2.2.1,.int .u64 W.2.2.2,.int .u64 X.1,.int .u64 X.2.1,.int .u64 X.2.2.1,.int .u64 X.2.2.2,.int .u64 m0.1,.int .u64 m0.2.1,.int .u64 m0.2.2.1,.int .u64 m0.2.2.2,.int .u64 n0.1,.int .u64 n0.2.1,.int .u64 n0.2.2.1,.int .u64 n0.2.2.2] 88)) (by simp));have c3:=hc 3 _ rfl;have c4:=hc 4 _ rfl;have c5:=hc 5 _ rfl;have c6:=hc 6 _ rfl;have c7:=hc 7 _ rfl;have c8:=hc 8 _ rfl;have c9:=hc 9 _ rfl;have c10:=hc 10 _ rfl;have c11:=hc 11 _ rfl;have c12:=hc 12 _ rfl;have c13:=hc 13 _ rfl;have c14:=hc 14 _ rfl;clear hc;have HR2:=zh (HR.out _ _ hB2);clear hB2 HR;go_wp2_with fail;refine zm HR2.out ?_;rintro e w3 ⟨rfl,hB3⟩;have HD:=zh (PV.done hB3);clear hB3 HR2 c3 c4 c5 c6 c7 c8 c9 c10 c11 c12 c13 c14;go_wp2_with fail;go_ret;exact⟨by first | rfl | simp,HD.out⟩
theorem znz(w:World)(h:Hand)(b:Nat)(K:List Nat)(s m:St)(f0 k:Nat)(A:XAct)(hkd:A.kd=1)(hon:h.on=true)(hA:A.Ok)(hP:z7v h.ptr h.on b m w K s)(hfs:s.Fit f0)(hfm:m.Fit f0)(hm:f0<10000000)(hg:XG k s)(he:s.ents=m.ents) :
  Calls Tryz.prog 48 #[.pointer h.ptr,.pointer (some ⟨b,0,none⟩),.agg A.L] w fun e w'=>e= .returned (.bool true)/\POn h b w K (h.dnSt s A.id A.m) (H1.dnSt m A.id A.m) w':=by
 have hB:=(QV.start (z5d _ _ _ _) hP).alloc (.cells A.L 88);have hgm:=hg.congr he;obtain⟨e1,e2,e3⟩:=zjx hon he A.id A.m;have HT:Hid (∀ rs W',PV h b m w K s rs W'->Calls Tryz.prog 42 #[.pointer h.ptr,.int .i64 A.id,uV A.m] W' fun e w'=>e= .returned (.tuple #[uV (xdnW s A.id A.m),.int .i64 (xdnE s A.id A.m)])/\PV h b m w K (h.dnSt s A.id A.m) rs w'):=fun rs W' hW=>PV.zwb hW fun L h1=>zxp W' ⟨h.ptr,h.on,L⟩ s f0 A.id A.m hon hA.id hA.m h1 hfs (by omega)
 have HR:Hid (∀ rs W',PV h b m w K (h.dnSt s A.id A.m) rs W'->Calls Tryz.prog 121 #[.pointer (some ⟨b,0,none⟩),.int .i64 A.id,uV A.m] W' fun e w'=>e= .returned (.tuple #[uV (xdnW s A.id A.m),.int .i64 (xdnE s A.id A.m)])/\PV h b (H1.dnSt m A.id A.m) w K (h.dnSt s A.id A.m) rs w'):=fun rs W' hW=>by
  rw[e1,e2];exact PV.zwc hW fun M h1=>zt8 W' b M m f0 A.id A.m hA.id hA.m h1 hfm (by omega)
 have HB:=zh hB;clear hB hgm hP hfs hfm hg he hA hon e1 e2 e3;generalize h.dnSt s A.id A.m=s1 at *
 generalize H1.dnSt m A.id A.m=m1 at *
 generalize xdnW s A.id A.m=u1 at *
 generalize xdnE s A.id A.m=aE at *
 obtain⟨kd,id,dl,⟨xs,xo,xt,xb,W,X⟩,m0,n0⟩:=A;dsimp only[XAct.L,Ex.L]at *
 subst hkd;go_enter Tryz.func48,Tryz.ntmps48;go_upto_region 1 with fail;generalize hw1:w.alloc (.cells #[.int .i64 1,.int .i64 id,.int .i64 dl,.int .i64 xs,.int .i64 xo,.int .i64 xt,.int .i64 xb,.int .u64 W.1,.int .u64 W.2.1,.int .u64 W.2.2.1,.int .u64 W.2.2.2,.int .u64 X.1,.int .u64 X.2.1,.int .u64 X.2.2.1,.int .u64 X.2.2.2,.int .u64 m0.1,.int .u64 m0.2.1,.int .u64 m0.2.2.1,.int .u64 m0.2.2.2,.int .u64 n0.1,.int .u64 n0.2.1,.int .u64 n0.2.2.1,.int .u64 n0.2.2.2] 88)=w1 at *
 clear hw1;have hc:=zb6 (HB.out.row (g:=w.heap.size) (o:=(.cells #[.int .i64 1,.int .i64 id,.int .i64 dl,.int .i64 xs,.int .i64 xo,.int .i64 xt,.int .i64 xb,.int .u64 W.1,.int .u64 W.2.1,.int .u64 W.2.2.1,.int .u64 W.2.2.2,.int .u64 X.1,.int .u64 X.2.1,.int .u64 X.2.2.1,.int .u64 X.2.2.2,.int .u64 m0.1,.int .u64 m0.2.1,.int .u64 m0.2.2.1,.int .u64 m0.2.2.2,.int .u64 n0.1,.int .u64 n0.2.1,.int .u64 n0.2.2.1,.int .u64 n0.2.2.2] 88)) (by simp));have c0:=hc 0 _ rfl;have c1:=hc 1 _ rfl;have c15:=hc 15 _ rfl;have c16:=hc 16 _ rfl;have c17:=hc 17 _ rfl;have c18:=hc 18 _ rfl;clear hc;have HT1:=zh (HT.out _ _ HB.out);clear HB HT;go_wp2_with fail;refine zm HT1.out ?_;rintro e w2 ⟨rfl,hB2⟩;have HB3:=zh (hB2.alloc (uO u1));clear HT1 hB2 c0 c1 c15 c16 c17 c18;go_upto_region 8 with fail;generalize hw3:w2.alloc (uO u1)=w3 at *
 generalize w2.heap.size=g3 at *
 clear hw3;have hc:=zb6 (HB3.out.row (g:=w.heap.size) (o:=(.cells #[.int .i64 1,.int .i64 id,.int .i64 dl,.int .i64 xs,.int .i64 xo,.int .i64 xt,.int .i64 xb,.int .u64 W.1,.int .u64 W.2.1,.int .u64 W.2.2.1,.int .u64 W.2.2.2,.int .u64 X.1,.int .u64 X.2.1,.int .u64 X.2.2.1,.int .u64 X.2.2.2,.int .u64 m0.1,.int .u64 m0.2.1,.int .u64 m0.2.2.1,.int .u64 m0.2.2.2,.int .u64 n0.1,.int .u64 n0.2.1,.int .u64 n0.2.2.1,.int .u64 n0.2.2.2] 88)) (by simp));have c1:=hc 1 _ rfl;have c15:=hc 15 _ rfl;have c16:=hc 16 _ rfl;have c17:=hc 17 _ rfl;have c18:=hc 18 _ rfl;clear hc;have HR3:=zh (HR.out _ _ HB3.out);clear HB3 HR;go_wp2_with fail;refine zm HR3.out ?_;rintro e w4 ⟨rfl,hB4⟩;have HB5:=zh (hB4.alloc (uO u1));clear HR3 hB4 c1 c15 c16 c17 c18;go_upto_region 9 with fail;generalize hw5:w4.alloc (uO u1)=w5 at *
 generalize w4.heap.size=g5 at *
 clear hw5;obtain⟨a0,a1,a2,a3,_⟩:=row4 (HB5.out.u4 (g:=g3) (x:=u1) (by simp));obtain⟨b0,b1,b2,b3,_⟩:=row4 (HB5.out.u4 (g:=g5) (x:=u1) (by simp));have HD:=zh (PV.done HB5.out);have hE:∀ w,(Op.equalIn 10000 24 (uV u1) (uV u1)).run Tryz.prog w= .ok true w:=fun w=>by
  have:=eqU u1 u1 w
  rwa [decide_eq_true rfl]at this
 clear HB5;go_wp2_with fail;go_ret;exact⟨by first | rfl | simp,HD.out⟩
theorem zth(w:World)(h:Hand)(b:Nat)(K:List Nat)(s m:St)(f0 k:Nat)(A:XAct)(h0:A.kd≠0)(h1:A.kd≠1)(hon:h.on=true)(hA:A.Ok)(hP:z7v h.ptr h.on b m w K s)(hfs:s.Fit f0)(hfm:m.Fit f0)(hm:f0<10000000)(hg:XG k s)(he:s.ents=m.ents)(hk:k<1000000000) :
  Calls Tryz.prog 48 #[.pointer h.ptr,.pointer (some ⟨b,0,none⟩),.agg A.L] w fun e w'=>e= .returned (.bool true)/\POn h b w K (h.cutX s (s.slash A.x.op A.x.sg A.x.bl A.dl) A.x.op A.x.sg A.x.bl A.dl A.m A.n) (H1.cutX m (m.z9j A.x.op A.x.sg A.x.bl A.dl) A.x.op A.x.sg A.x.bl A.dl A.m A.n) w':=by
 have hB:=(QV.start (z5d _ _ _ _) hP).alloc (.cells A.L 88);have hgm:=hg.congr he;have hse:=zg1 hg he hA.x.op hA.x.sg A.x.bl A.dl;have hn62:s.hlen 16 [A.x.op,A.x.sg]<4611686018427387904:=by have:=hg.hlen' hA.x.op hA.x.sg;omega
 have hn62m:m.hlen 16 [A.x.op,A.x.sg]<4611686018427387904:=by have:=hgm.hlen' hA.x.op hA.x.sg;omega
 have HSP:Hid (∀ W2 L',QSt W2 ⟨h.ptr,h.on,L'⟩ s->Calls Tryz.prog 46 #[.pointer h.ptr,.int .i64 A.x.op,.int .i64 A.x.sg,.int .i64 A.x.bl,.int .i64 A.dl] W2 fun e w'=>e= .returned (uV (s.slash A.x.op A.x.sg A.x.bl A.dl))/\Below W2.heap.size W2 w'):=fun W2 L' h2=>zk8 W2 ⟨h.ptr,h.on,L'⟩ s f0 _ _ _ _ hA.x.op hA.x.sg hA.x.bl h2 hfs (by omega) hn62
 have HSR:Hid (∀ W2 L',RRep W2 b m L'->Calls Tryz.prog 49 #[.pointer (some ⟨b,0,none⟩),.int .i64 A.x.op,.int .i64 A.x.sg,.int .i64 A.x.bl,.int .i64 A.dl] W2 fun e w'=>e= .returned (uV (s.slash A.x.op A.x.sg A.x.bl A.dl))/\Below W2.heap.size W2 w'):=fun W2 L' h2=>by
  rw[hse];exact zl8 W2 b m L' f0 _ _ _ _ hA.x.op hA.x.sg hA.x.bl h2 hfm (by omega) hn62m
 rw[<- hse];have hok:=zry s A.x.op A.x.sg A.x.bl A.dl;generalize s.slash A.x.op A.x.sg A.x.bl A.dl=sl at *
 obtain⟨e1,e2⟩:=zrj hon he sl A.x.op A.x.sg A.x.bl A.dl A.m A.n;have HT:Hid (∀ rs W',PV h b m w K s rs W'->Calls Tryz.prog 40 #[.pointer h.ptr,.int .i64 A.x.op,.int .i64 A.x.sg,.int .i64 A.x.bl,.int .i64 A.dl,uV A.m,uV A.n] W' fun e w'=>e= .returned (.tuple #[uV (z98 s sl A.x.op A.x.sg A.x.bl A.dl A.m A.n),.int .i64 (zb9 A.x.op A.x.bl A.dl A.m A.n)])/\PV h b m w K (h.cutX s sl A.x.op A.x.sg A.x.bl A.dl A.m A.n) rs w'):=fun rs W' hW=>PV.zwb hW fun L h1=>zv5 W' ⟨h.ptr,h.on,L⟩ s f0 _ _ _ _ _ _ _ hA.x.sg hA.m hA.n hok HSP.out h1 hfs (by omega)
 have HR:Hid (∀ rs W',PV h b m w K (h.cutX s sl A.x.op A.x.sg A.x.bl A.dl A.m A.n) rs W'->Calls Tryz.prog 122 #[.pointer (some ⟨b,0,none⟩),.int .i64 A.x.op,.int .i64 A.x.sg,.int .i64 A.x.bl,.int .i64 A.dl,uV A.m,uV A.n] W' fun e w'=>e= .returned (.tuple #[uV (z98 s sl A.x.op A.x.sg A.x.bl A.dl A.m A.n),.int .i64 (zb9 A.x.op A.x.bl A.dl A.m A.n)])/\PV h b (H1.cutX m sl A.x.op A.x.sg A.x.bl A.dl A.m A.n) w K (h.cutX s sl A.x.op A.x.sg A.x.bl A.dl A.m A.n) rs w'):=fun rs W' hW=>by
  rw[e1];exact PV.zwc hW fun M h1=>zx8 W' b m M f0 _ _ _ _ _ _ _ hA.x.sg hA.m hA.n hok HSR.out h1 hfm (by omega)
 have HB:=zh hB;clear hB hgm hP hfs hfm hg he hA hon e1 e2 hse hn62 hn62m;clear HSP HSR hok;generalize h.cutX s sl A.x.op A.x.sg A.x.bl A.dl A.m A.n=s1 at *
 generalize H1.cutX m sl A.x.op A.x.sg A.x.bl A.dl A.m A.n=m1 at *
 generalize z98 s sl A.x.op A.x.sg A.x.bl A.dl A.m A.n=u1 at *
 generalize zb9 A.x.op A.x.bl A.dl A.m A.n=aE at *
 obtain⟨kd,id,dl,⟨xs,xo,xt,xb,W,X⟩,m0,n0⟩:=A;dsimp only[XAct.L,Ex.L]at *
 have d0:(kd==0)=false:=by rw[beq_eq_false_iff_ne];exact h0
 have d1:(kd==1)=false:=by rw[beq_eq_false_iff_ne];exact h1
 clear h0 h1;go_enter Tryz.func48,Tryz.ntmps48;go_upto_region 1 with fail;generalize hw1:w.alloc (.cells #[.int .i64 kd,.int .i64 id,.int .i64 dl,.int .i64 xs,.int .i64 xo,.int .i64 xt,.int .i64 xb,.int .u64 W.1,.int .u64 W.2.1,.int .u64 W.2.2.1,.int .u64 W.2.2.2,.int .u64 X.1,.int .u64 X.2.1,.int .u64 X.2.2.1,.int .u64 X.2.2.2,.int .u64 m0.1,.int .u64 m0.2.1,.int .u64 m0.2.2.1,.int .u64 m0.2.2.2,.int .u64 n0.1,.int .u64 n0.2.1,.int .u64 n0.2.2.1,.int .u64 n0.2.2.2] 88)=w1 at *
 clear hw1;have hc:=zb6 (HB.out.row (g:=w.heap.size) (o:=(.cells #[.int .i64 kd,.int .i64 id,.int .i64 dl,.int .i64 xs,.int .i64 xo,.int .i64 xt,.int .i64 xb,.int .u64 W.1,.int .u64 W.2.1,.int .u64 W.2.2.1,.int .u64 W.2.2.2,.int .u64 X.1,.int .u64 X.2.1,.int .u64 X.2.2.1,.int .u64 X.2.2.2,.int .u64 m0.1,.int .u64 m0.2.1,.int .u64 m0.2.2.1,.int .u64 m0.2.2.2,.int .u64 n0.1,.int .u64 n0.2.1,.int .u64 n0.2.2.1,.int .u64 n0.2.2.2] 88)) (by simp));have c0:=hc 0 _ rfl;have c2:=hc 2 _ rfl;have c4:=hc 4 _ rfl;have c5:=hc 5 _ rfl;have c6:=hc 6 _ rfl;have c15:=hc 15 _ rfl;have c16:=hc 16 _ rfl;have c17:=hc 17 _ rfl;have c18:=hc 18 _ rfl;have c19:=hc 19 _ rfl;have c20:=hc 20 _ rfl;have c21:=hc 21 _ rfl;have c22:=hc 22 _ rfl;clear hc;have HT1:=zh (HT.out _ _ HB.out);clear HB HT;go_wp2_with fail;refine zm HT1.out ?_;rintro e w2 ⟨rfl,hB2⟩;have HB3:=zh (hB2.alloc (uO u1));clear HT1 hB2 c0 c2 c4 c5 c6 c15 c16 c17 c18 c19 c20 c21 c22;go_upto_region 11 with fail;generalize hw3:w2.alloc (uO u1)=w3 at *
 generalize w2.heap.size=g3 at *
 clear hw3;have hc:=zb6 (HB3.out.row (g:=w.heap.size) (o:=(.cells #[.int .i64 kd,.int .i64 id,.int .i64 dl,.int .i64 xs,.int .i64 xo,.int .i64 xt,.int .i64 xb,.int .u64 W.1,.int .u64 W.2.1,.int .u64 W.2.2.1,.int .u64 W.2.2.2,.int .u64 X.1,.int .u64 X.2.1,.int .u64 X.2.2.1,.int .u64 X.2.2.2,.int .u64 m0.1,.int .u64 m0.2.1,.int .u64 m0.2.2.1,.int .u64 m0.2.2.2,.int .u64 n0.1,.int .u64 n0.2.1,.int .u64 n0.2.2.1,.int .u64 n0.2.2.2] 88)) (by simp));have c2:=hc 2 _ rfl;have c4:=hc 4 _ rfl;have c5:=hc 5 _ rfl;have c6:=hc 6 _ rfl;have c15:=hc 15 _ rfl;have c16:=hc 16 _ rfl;have c17:=hc 17 _ rfl;have c18:=hc 18 _ rfl;have c19:=hc 19 _ rfl;have c20:=hc 20 _ rfl;have c21:=hc 21 _ rfl;have c22:=hc 22 _ rfl;clear hc;have HR3:=zh (HR.out _ _ HB3.out);clear HB3 HR;go_wp2_with fail;refine zm HR3.out ?_;rintro e w4 ⟨rfl,hB4⟩;have HB5:=zh (hB4.alloc (uO u1));clear HR3 hB4 c2 c4 c5 c6 c15 c16 c17 c18 c19 c20 c21 c22;go_upto_region 12 with fail;generalize hw5:w4.alloc (uO u1)=w5 at *
 generalize w4.heap.size=g5 at *
 clear hw5;obtain⟨a0,a1,a2,a3,_⟩:=row4 (HB5.out.u4 (g:=g3) (x:=u1) (by simp));obtain⟨b0,b1,b2,b3,_⟩:=row4 (HB5.out.u4 (g:=g5) (x:=u1) (by simp));have HD:=zh (PV.done HB5.out);have hE:∀ w,(Op.equalIn 10000 24 (uV u1) (uV u1)).run Tryz.prog w= .ok true w:=fun w=>by
  have:=eqU u1 u1 w
  rwa [decide_eq_true rfl]at this
 clear HB5;go_wp2_with fail;go_ret;exact⟨by first | rfl | simp,HD.out⟩
theorem zsc(w:World)(h:Hand)(b:Nat)(K:List Nat)(s m:St)(f0 k:Nat)(A:XAct)(hon:h.on=true)(hA:A.Ok)(hP:z7v h.ptr h.on b m w K s)(hfs:s.Fit f0)(hfm:m.Fit f0)(hm:f0<10000000)(hg:XG k s)(he:s.ents=m.ents)(hk:k<1000000000) :
  Calls Tryz.prog 48 #[.pointer h.ptr,.pointer (some ⟨b,0,none⟩),.agg A.L] w fun e w'=>e= .returned (.bool true)/\POn h b w K (h.z7b s A) (z7t m A) w':=by
 unfold Hand.z7b z7t
 by_cases h0:A.kd=0
 ·rw[if_pos h0,if_pos h0];exact zsg w h b K s m f0 k A h0 hon hA hP hfs hfm hm hg he hk
 ·rw[if_neg h0,if_neg h0]
  by_cases h1:A.kd=1
  ·rw[if_pos h1,if_pos h1];exact znz w h b K s m f0 k A h1 hon hA hP hfs hfm hm hg he
  ·rw[if_neg h1,if_neg h1];exact zth w h b K s m f0 k A h0 h1 hon hA hP hfs hfm hm hg he hk
end Go.Proofs.YtnkilceibkkjlaaGreat
