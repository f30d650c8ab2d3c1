/- Evolve's laws: EvolveChains, walked. -/
import Derived.Test.YtikpmmipopmjaaaGreatDoorZQap
import Derived.Test.YtikpmmipopmjaaaGreatDoorZQaj
import Derived.Deep.DeepCutAuto
import Derived.Deep.CutBlock
import Derived.Test.YtikpmmipopmjaaaGreatDoorZQu
import Derived.Test.YtikpmmipopmjaaaGreatDoorZQah
set_option linter.unusedVariables false
set_option linter.unusedSimpArgs false
namespace Go.Ms
open Go.RowKit Go.Lib
structure qGd (w:World) (A:Option Addr) (n c:Nat) (es:List (SRef×Sc)):Prop where
  nc:n≤c
  cm:c≤maxLen
  ln:es.length=n
  la:Lay w w.heap.size A (scsV (es.map Prod.fst))
  each:∀x∈es,qJ0 w x.1.a x.1.n x.1.c x.2.1 x.1.b x.1.m x.1.d x.2.2
theorem qGd.to {w w':World} {A:Option Addr} {n c:Nat} {es:List (SRef×Sc)} (h:qGd w A n c es) (hb:Below w.heap.size w w'):qGd w' A n c es:=
  ⟨h.nc,h.cm,h.ln,(h.la.below hb).more hb.size,fun x hx=>(h.each x hx).to hb⟩
theorem qZw {W:World} {B:Nat} {L:Option Addr} {rs:List SRef} (h:Lay W B L (scsV rs)) {i:Nat} {r:SRef} (hi:rs[i]?=some r):∃g o,L=some ⟨g,o,none⟩∧qLd g (o+i*2) B r W:=by
 have hl:=(List.getElem?_eq_some_iff.1 hi).1;obtain⟨g,o,e,hb,hc⟩:=h.some_ (by rw[qMr];omega);obtain⟨h1,h2⟩:=qM4 rs i r hi;exact⟨g,o,e,hb,hc _ _ h1,hc _ _ h2⟩
def qD1 (es:List (SRef×Sc)) (k:Nat):List Sc:=(es.take k).map fun e=>qHo e.2.1 e.2.2
theorem qLv (es:List (SRef×Sc)) (k:Nat):(qD1 es k).length=min k es.length:=by unfold qD1;rw[List.length_map,List.length_take]
theorem qPp {es:List (SRef×Sc)} {k:Nat} {e:SRef×Sc} (h:es[k]?=some e):qD1 es (k+1)=qD1 es k++[qHo e.2.1 e.2.2]:=by
 unfold qD1;rw[List.take_add_one,h,List.map_append];rfl
theorem qXp {w:World} {A:Option Addr} {n c:Nat} {es:List (SRef×Sc)} (h:qGd w A n c es) (k:Nat):∀s∈qD1 es k,ScR s.1:=by
 intro s hs
 obtain⟨e,he,rfl⟩:=List.mem_map.1 hs;exact qPs (h.each e (List.mem_of_mem_take he)).ok
theorem SRef.one (r:SRef):∀u∈r.vs,u.oneCell'=true:=fun u hu=>qNo [r] u (by simpa[scsV] using hu)
structure CnSt (A7 A8 Ar Aw:Option Addr) (r7 r8:List SRef) (ss:List Sc) (r:List Cl) (w W:World):Prop where
  l7:qDb W W.heap.size A7 r7 ss
  l8:qDb W W.heap.size A8 r8 ss
  lr:Lay W W.heap.size Ar (rowV r)
  lw:Lay W W.heap.size Aw (rowV r)
  bel:Below w.heap.size w W
theorem CnSt.to {A7 A8 Ar Aw:Option Addr} {r7 r8:List SRef} {ss:List Sc} {r:List Cl} {w W W':World} (h:CnSt A7 A8 Ar Aw r7 r8 ss r w W) (hb:Below W.heap.size W W'):CnSt A7 A8 Ar Aw r7 r8 ss r w W':=
  ⟨h.l7.to hb,h.l8.to hb,(h.lr.below hb).more hb.size,(h.lw.below hb).more hb.size,h.bel.trans (hb.mono h.bel.size)⟩
theorem qU4 {l:List Sc} {f t:Int} {r:List Cl} {B:Nat} (hb:∀s∈l,s.1.length≤B) (hr:r.length≤B):(qCe l f t r).1.length≤B:=by
 have key:∀(m:List Sc) (a:Sc) (x:List Cl),(∀s∈m,s.1.length≤B)→x.length≤B→(qE5 a m x).length≤B:=by
  intro m
  induction m with
  |nil=>intro a x _ hx;exact hx
  |cons b m ih=>
   intro a x hm hx
   rw[qE5];exact ih b _ (fun s hs=>hm s (by simp[hs])) (by rw[qGf];exact hm b (by simp))
 unfold qCe
 split
 · split
   · simp
   · split
     · exact key _ _ _ (fun s hs=>hb s (List.mem_of_mem_drop (List.mem_of_mem_take hs))) hr
     · simp
 · simp
end Go.Ms
namespace Go.Proofs.YtikpmmipopmjaaaGreatDoor
open Go.RowKit Go.Ms Go.Lib Go.Shelf Go.Rel
theorem qKh:Tryz.prog.underlying 38=some (.slice 25):=Tryz.underlying38
theorem qN9 {w:World} {A:Option Addr} {n c:Nat} {cs:List Co} {B:Option Addr} {m d:Nat} {ks:List Int} (h:qJ0 w A n c cs B m d ks) :
    Calls Tryz.prog 11 #[.agg #[.slice A n c,.slice B m d]] w fun e w'=> ∃r:SRef,e=.returned (.agg #[.slice r.a r.n r.c,.slice r.b r.m r.d])∧Below w.heap.size w w'∧ScT 59 3 w' r (qHo cs ks):=by
 have h0:=qNz w A B n c m d cs ks h.nc h.cm h.ln h.la h.md h.dm h.lm h.lb;refine h0.mono ?_;rintro e w' ⟨A',c',B',d',rfl,o1,o2,hb⟩;obtain⟨l1,l2⟩:=qJ5 cs ks;have:=h.ln;have:=h.lm;refine⟨⟨A',min n 34,c',B',min m 10,d'⟩,rfl,hb,qBf.ref (s:=qHo cs ks) o1 o2 (by omega) (by omega) (by omega) (by omega),?_,?_⟩
 · unfold qBt at o1;exact TyAt.own o1
 · unfold OwnI at o2;exact TyAt.own o2
set_option maxRecDepth 100000 in
set_option maxHeartbeats 2000000 in
theorem qFc (A:Option Addr) (n c:Nat) (es:List (SRef×Sc)) (x y:Int) (D:Option Addr) (q qc:Nat) (l:List Cl) (w:World)
    (h1:qGd w A n c es) (hx:I64 x) (hy:I64 y) (h3:qIw w D q qc l) (hE:Env w) :
    Calls Tryz.prog 4 #[.slice A n c,.agg #[.int .i64 x,.int .i64 y],.slice D q qc] w fun e w'=>e=.returned (.bool true)∧Below w.heap.size w w':=by
 obtain⟨sc,si,sz0,sz1,sz2⟩:=info_parts qHh
 have hf3:=fun (W:World) (hb:Below w.heap.size w W)=>qL5 (h3.to hb)
 have z1:=qXp h1 66;obtain⟨z3,z4⟩:=qRs h3.ok
 have z5:(qKl l).length≤40:=by rw[qK6];omega
 generalize qKl l=r at hf3 z3 z4 z5
 obtain⟨X,hX⟩:∃X,X=w.alloc (.cells #[.int .i64 x,.int .i64 y] 39):=⟨_,rfl⟩
 have bX:Below w.heap.size w X:=by rw[hX];exact(Below.refl _ w).alloc (Nat.le_refl _) _
 have qX:X.heap[w.heap.size]?=some (.cells #[.int .i64 x,.int .i64 y] 39 (0,0)):=by rw[hX];exact qAf _ _
 have st0:KwSt 25 59 3 (.cells #[.int .i64 x,.int .i64 y] 39 (0,0)) (.slice none 0 0) (.slice none 0 0) [] [] (qD1 es 0) w X:=
   ⟨qX,World.ownsRow_nil _ _ _ _,World.ownsRow_nil _ _ _ _,fun b h1=>by simp[Value.ownBlock] at h1,fun i r s h=>by simp at h,fun i r s h=>by simp at h,Nat.zero_le _,Nat.zero_le _,bX⟩
 have n1:(59:TypeId)≠25:=by decide
 have n2:(3:TypeId)≠25:=by decide
 have ST0:=Lib.hid st0;have HF3:=Lib.hid hf3;have Z1:=Lib.hid z1;have Z3:=Lib.hid z3;have Z4:=Lib.hid z4;have Z5:=Lib.hid z5;have HE:=Lib.hid hE;have H1:=Lib.hid h1;have HX:=Lib.hid hx;have HY:=Lib.hid hy;have LN:=Lib.hid h1.ln
 clear bX qX st0 hf3 z1 z3 z4 z5 hE h1 hx hy h3
 go_enter Tryz.func4,Tryz.ntmps4
 go_upto_block 0 with fail
 rw[←hX];clear hX
 go_cut [7,8] (fun s7 s8 wx=> ∃r7 r8,r7.length=min 66 n∧r8.length=min 66 n∧KwSt 25 59 3 (.cells #[.int .i64 x,.int .i64 y] 39 (0,0)) s7 s8 r7 r8 (qD1 es 66) w wx)
 case first=>
  go_wp2_with fail
  go_loopw [7,8,9] (fun v7 v8 i wr=> ∃(k:Nat) (r7 r8:List SRef),i=.int .i64 k∧k≤n∧k≤66∧r7.length=k∧r8.length=k∧KwSt 25 59 3 (.cells #[.int .i64 x,.int .i64 y] 39 (0,0)) v7 v8 r7 r8 (qD1 es k) w wr) (fun _ _ i _=>66-(RowKit.intOf i).toNat)
  case atStart=>exact⟨0,[],[],rfl,by omega,by omega,rfl,rfl,ST0.out⟩
  case round=>
   obtain⟨k,r7,r8,rfl,hkn,hk6,e7,e8,hst⟩:=hrel
   by_cases hgo:k<n∧k<66
   · obtain⟨hlk,hl6⟩:=hgo
     have hki:(k:Int)<n:=by omega
     have hk6':(k:Int)<66:=by omega
     obtain⟨e,he⟩:∃e,es[k]?=some e:=⟨_,List.getElem?_eq_getElem (by rw[LN.out];exact hlk)⟩;obtain⟨g,o,eA,ta⟩:=qZw H1.out.la (i:=k) (r:=e.1) (by rw[List.getElem?_map,he];rfl);subst eA;have hsn:=qPp he
     have hsl:(qD1 es k).length=k:=by rw[qLv,LN.out];omega
     have hea:=H1.out.each e (List.mem_of_getElem? he);have hst2:=hst.more (qHo e.2.1 e.2.2);rw[←hsn] at hst2;have S0:=Lib.hid hst2;obtain⟨re,ce,ke⟩:=e
     have hs7:(qD1 es (k+1))[k]?=some (qHo ce ke):=by rw[hsn,List.getElem?_append_right (by omega),hsl,Nat.sub_self];rfl
     have TA:=Lib.hid ta;have HEA:=Lib.hid hea;have HS7:=Lib.hid hs7;have E7:=Lib.hid e7;have E8:=Lib.hid e8
     have hta:=ta.below hst.bel;have j0:=hta.c0;have j1:=hta.c1;clear ta hea hs7 hst hst2 hsn hsl he hta e7 e8
     go_wp2_with fail
     refine(qN9 (HEA.out.to S0.out.bel)).mono ?_;rintro en w5 ⟨rx,rfl,b5,hT⟩;have b6:=(Below.refl w5.heap.size w5).alloc (Nat.le_refl _) (.cells #[.slice rx.a rx.n rx.c,.slice rx.b rx.m rx.d] 25)
     have S5:=Lib.hid ((S0.out.to b5).to b6);have HT:=Lib.hid (hT.to b6);have HNW:=Lib.hid (qBo w5 rx.vs 25);have HONE:=Lib.hid rx.one
     have hz6:w.heap.size+1≤(w5.alloc (.cells #[.slice rx.a rx.n rx.c,.slice rx.b rx.m rx.d] 25)).heap.size:=(Array.getElem?_eq_some_iff.1 S5.out.b4).1;have l7:=E7.out;have l8:=E8.out;clear b5 b6 hT j0 j1
     go_wp2_with (at_builtin;refine qE2 rfl (.tmp 26) (.tmp 32) _ rfl (w.heap.size+1) 25 sc _ 2 48 qKh si sz0 sz1 sz2 rfl (by omega) _ _ _ rfl S5.out.o7 _ (some ⟨w5.heap.size,0,none⟩) 1 1 rx.vs rfl rfl HNW.out HONE.out (by unfold maxLen;omega) (by omega) hz6 ?_;intro v7' w7 hown hgr hnb;have S7:=Lib.hid (S5.out.push7 n1 n2 (by rw[l7];exact HS7.out) HT.out hown hgr hnb);have hta:=TA.out.below S7.out.bel;have j0:=hta.c0;have j1:=hta.c1;clear hown hgr hnb hta)
     refine(qN9 (HEA.out.to S7.out.bel)).mono ?_;rintro en w8 ⟨ry,rfl,b8,hT⟩;have b9:=(Below.refl w8.heap.size w8).alloc (Nat.le_refl _) (.cells #[.slice ry.a ry.n ry.c,.slice ry.b ry.m ry.d] 25)
     have S9:=Lib.hid (((S7.out.to b8).to b9).swap);have HT2:=Lib.hid (hT.to b9);have HNW2:=Lib.hid (qBo w8 ry.vs 25);have HONE2:=Lib.hid ry.one
     have hz9:w.heap.size+1≤(w8.alloc (.cells #[.slice ry.a ry.n ry.c,.slice ry.b ry.m ry.d] 25)).heap.size:=(Array.getElem?_eq_some_iff.1 S9.out.b4).1;clear b8 b9 hT j0 j1
     go_wp2_with (at_builtin;refine qE2 rfl (.tmp 34) (.tmp 40) _ rfl (w.heap.size+1) 25 sc _ 2 48 qKh si sz0 sz1 sz2 rfl (by omega) _ _ _ rfl S9.out.o7 _ (some ⟨w8.heap.size,0,none⟩) 1 1 ry.vs rfl rfl HNW2.out HONE2.out (by unfold maxLen;omega) (by omega) hz9 ?_;intro v8' wA hown hgr hnb;have SA:=Lib.hid ((S9.out.push7 n1 n2 (by rw[l8];exact HS7.out) HT2.out hown hgr hnb).swap);clear hown hgr hnb)
     go_roundw
     case rel=>exact⟨k+1,_,_,by go_num,by omega,by omega,by rw[List.length_append,l7];rfl,by rw[List.length_append,l8];rfl,SA.out⟩
     case measure=>simp[RowKit.intOf];omega
   · have hall:qD1 es k=qD1 es 66:=by
       unfold qD1
       by_cases e:k<66
       · rw[List.take_of_length_le (by rw[LN.out];omega),List.take_of_length_le (by rw[LN.out];omega)]
       · rw[show k=66 by omega]
     rw[hall] at hst;have HST:=Lib.hid hst
     have hg2:((k:Int)<n→¬(k:Int)<66):=by omega
     have hk66:k=min 66 n:=by omega
     clear hst hall
     by_cases hki:(k:Int)<n
     · have hk6':¬(k:Int)<66:=hg2 hki;clear hg2
       go_wp2_with fail
       go_meet
       exact⟨_,_,e7.trans hk66,e8.trans hk66,HST.out⟩
     · clear hg2
       go_wp2_with fail
       go_meet
       exact⟨_,_,e7.trans hk66,e8.trans hk66,HST.out⟩
 case rest=>
  obtain⟨r7,r8,e7,e8,hst⟩:=hcut
  have hsl:(qD1 es 66).length=min 66 n:=by rw[qLv,LN.out]
  have hcl:∀s∈qD1 es 66,s.1.length≤34:=fun s hs=>by
   obtain⟨e,he,rfl⟩:=List.mem_map.1 hs;have:=(qJ5 e.2.1 e.2.2).1;omega
  have z1:=Z1.out
  generalize qD1 es 66=ss at hst hsl hcl z1
  clear Z1;obtain⟨A7,c7,q7,l7⟩:=hst.scs (by rw[e7,hsl]);obtain⟨A8,c8,q8,l8⟩:=hst.swap.scs (by rw[e8,hsl]);subst q7;subst q8;obtain⟨N,hN⟩:∃N,r7.length=N:=⟨_,rfl⟩
  have hN8:r8.length=N:=by rw[e8,←e7,hN]
  have hNs:ss.length=N:=by rw[hsl,←e7,hN]
  have hN66:N≤66:=by omega
  rw[hN,hN8]
  have L7:=Lib.hid l7;have L8:=Lib.hid l8;have B0:=Lib.hid hst.bel;have B4:=Lib.hid hst.b4;have Z1:=Lib.hid z1;have HCL:=Lib.hid hcl;have HN7:=Lib.hid hN;have HN8:=Lib.hid hN8;have HNS:=Lib.hid hNs
  clear l7 l8 hst z1 hcl hN hN8 hNs e7 e8 hsl ST0
  go_wp2_with fail
  refine(HF3.out _ B0.out).mono ?_;rintro en w2 ⟨v,rfl,b2,Ar,cr,rfl,lr⟩
  have L72:=Lib.hid (L7.out.to b2);have L82:=Lib.hid (L8.out.to b2);have B2:=Lib.hid (B0.out.trans (b2.mono B0.out.size));have B42:=Lib.hid (qAb B4.out b2);have LR:=Lib.hid lr
  clear b2 lr L7 L8 B0 B4;have rl:=Z5.out
  go_wp2_with fail
  refine(qI9 (by omega) LR.out).mono ?_;rintro en w3 ⟨v,rfl,b3,Aw,cw,rfl,lw⟩;have B43:=Lib.hid (qAb B42.out b3);have S3:=Lib.hid (CnSt.mk (L72.out.to b3) (L82.out.to b3) ((LR.out.below b3).more b3.size) lw (B2.out.trans (b3.mono B2.out.size)));clear b3 lw L72 L82 B2 B42 LR
  have rw0:∀(W:World) (A0:Option Addr),Lay W W.heap.size A0 (rowV r)→qJg W A0 r.length r:=fun _ _ h=>⟨rfl,by omega,h,Z4.out⟩
  have RW:=Lib.hid rw0;have cl:=qU4 (f:=x) (t:=y) (r:=r) (fun s hs=>Nat.le_trans (HCL.out s hs) (by omega:34≤100000)) (by omega:r.length≤100000);obtain⟨M,hM⟩:∃M,(qCe ss x y r).1=M:=⟨_,rfl⟩;obtain⟨F,hF⟩:∃F,(qCe ss x y r).2=F:=⟨_,rfl⟩;rw[hM] at cl
  have HM:=Lib.hid hM;have HF:=Lib.hid hF
  clear rw0 hM hF;have y0:=cell_of_block (i:=0) B43.out rfl;have y1:=cell_of_block (i:=1) B43.out rfl
  go_wp2_with fail
  have hcar:=qN0 w3 A7 N c7 r7 ss x y Ar r.length cr r (by omega) HN7.out.symm S3.out.l7 (fun s hs=>(Z1.out s hs).sz) HX.out HY.out (RW.out _ _ S3.out.lr) (HE.out.below S3.out.bel);rw[HM.out,HF.out] at hcar;refine hcar.mono ?_;clear hcar y0 y1;rintro en w4 ⟨v,rfl,ho4,b4⟩;obtain⟨C4,c4,rfl,-,-⟩:=qAg ho4
  have S4:=Lib.hid (S3.out.to b4);have O4:=Lib.hid ho4;have B44:=Lib.hid (qAb B43.out b4);have BB4:=Lib.hid b4
  clear ho4 b4 B43;have y0:=cell_of_block (i:=0) B44.out rfl;have y1:=cell_of_block (i:=1) B44.out rfl
  go_wp2_with fail
  have hcar:=qTc w4 A8 N c8 r8 ss x y Aw r.length cw r (by omega) HN8.out.symm S4.out.l8 Z1.out HX.out HY.out (RW.out _ _ S4.out.lw) Z3.out;rw[HM.out,HF.out] at hcar;refine hcar.mono ?_;clear hcar y0 y1;rintro en w5 ⟨v,rfl,ho5,b5⟩;obtain⟨C5,c5,rfl,-,-⟩:=qAg ho5
  have S5:=Lib.hid (S4.out.to b5);have O5:=Lib.hid ho5;have O45:=Lib.hid (own_below O4.out b5);have BB5:=Lib.hid (BB4.out.trans (b5.mono BB4.out.size))
  clear ho5 b5 O4 BB4 B44;obtain⟨K,hK⟩:∃K,qA6 ss=K:=⟨_,rfl⟩;have HK:=Lib.hid hK;clear hK
  go_wp2_with fail
  have hch:=qFb w5 A7 N c7 r7 ss (by omega) HN7.out.symm S5.out.l7 (fun s hs=>(Z1.out s hs).sz) (HE.out.below S5.out.bel);rw[HK.out] at hch;refine hch.mono ?_;clear hch;rintro en w6 ⟨rfl,b6⟩
  have S6:=Lib.hid (S5.out.to b6);have O6:=Lib.hid (own_below O5.out b6);have O46:=Lib.hid (own_below O45.out b6);have BB6:=Lib.hid (BB5.out.trans (b6.mono BB5.out.size))
  clear b6 O5 O45 BB5
  go_wp2_with fail
  have hch:=qLn w6 A8 N c8 r8 ss (by omega) HN8.out.symm S6.out.l8 Z1.out;rw[HK.out] at hch;refine hch.mono ?_;clear hch;rintro en w7 ⟨rfl,b7⟩
  have S7:=Lib.hid (S6.out.to b7);have O7:=Lib.hid (own_below O6.out b7);have O47:=Lib.hid (own_below O46.out b7);have BB7:=Lib.hid (BB6.out.trans (b7.mono BB6.out.size))
  clear b7 O6 O46 BB6
  go_wp2_with fail
  have heq:=qDq w7 C4 C5 M.length c4 M.length c5 M M (by unfold maxLen;omega) (by unfold maxLen;omega) rfl rfl (Lay.of_own O47.out (Nat.le_refl _)) (Lay.of_own O7.out (Nat.le_refl _));rw[decide_eq_true rfl] at heq;refine heq.mono ?_;clear heq;rintro en w8 ⟨rfl,b8⟩
  have O48:=Lib.hid (own_below O47.out b8);have BB8:=Lib.hid (BB7.out.trans (b8.mono BB7.out.size))
  clear b8 O47 BB7
  go_wp2_with fail
  refine(qJy w8 w3.heap.size _ M O48.out (by omega) BB8.out.size).mono ?_;rintro en w9 ⟨rfl,b9⟩;have S9:=Lib.hid (S3.out.to (BB8.out.trans b9));clear b9 O48 BB8 S4 S5 S6 S7 O7
  go_wp2_with fail
  go_loopw [15] (fun i wr=> ∃k:Nat,k≤N∧i=.int .i64 k∧Below w9.heap.size w9 wr) (fun i _=>N-(RowKit.intOf i).toNat)
  case atStart=>exact⟨0,by omega,rfl,Below.refl _ _⟩
  case round=>
   obtain⟨k,hk,rfl,hb⟩:=hrel
   have SR:=Lib.hid (S9.out.to hb);have HB:=Lib.hid hb
   clear hb
   by_cases hlk:k<N
   · have hki:(k:Int)<N:=by omega
     obtain⟨ra,hra⟩:∃r,r7[k]?=some r:=⟨_,List.getElem?_eq_getElem (by rw[HN7.out];exact hlk)⟩;obtain⟨rb,hrb⟩:∃r,r8[k]?=some r:=⟨_,List.getElem?_eq_getElem (by rw[HN8.out];exact hlk)⟩;obtain⟨s,hs⟩:∃s,ss[k]?=some s:=⟨_,List.getElem?_eq_getElem (by rw[HNS.out];exact hlk)⟩;obtain⟨g1,o1,ea,ta⟩:=SR.out.l7.at_ hra;obtain⟨g2,o2,eb,tb⟩:=SR.out.l8.at_ hrb;subst ea;subst eb
     have PA:=Lib.hid (SR.out.l7.each k ra s hra hs);have PB:=Lib.hid (SR.out.l8.each k rb s hrb hs);have TA:=Lib.hid ta;have TB:=Lib.hid tb
     clear hra hrb hs ta tb
     go_upto_region 17 with fail
     refine qAh [isV (.slice (some ⟨g1,o1,none⟩) N c7),isV (.int .i64 (k:Nat)),isV (.pointer (some ⟨g1,o1+k*2,none⟩)),isV (.agg #[.slice ra.a ra.n ra.c,.slice ra.b ra.m ra.d]),isV (.slice (some ⟨g2,o2,none⟩) N c8),isV (.int .i64 (k:Nat)),isV (.pointer (some ⟨g2,o2+k*2,none⟩)),isV (.agg #[.slice rb.a rb.n rb.c,.slice rb.b rb.m rb.d]),isV (.bool true),isV (.bool false)] (by kernel_rfl) (by kernel_rfl) ?_ ?_
     ·
       refine Rel.rb ?_;refine Rel.rb ?_;refine rf (fun ev wo E=>?_) ?_
       · have e90:ev (.tmp 90)=.slice (some ⟨g1,o1,none⟩) N c7:=E.e 0;have e91:ev (.tmp 91)=.int .i64 (k:Nat):=E.e 1;have h1:=hki;have h2:=hlk;go_simp;exact rv
       refine rf (fun ev wo E=>?_) ?_
       · have e92:ev (.tmp 92)=.pointer (some ⟨g1,o1+k*2,none⟩):=E.e 0;have hx0:=(E.bel.cell TA.out.lt).trans TA.out.c0;have hx1:=(E.bel.cell TA.out.lt).trans TA.out.c1;go_simp;exact rv
       refine Rel.rb ?_;refine Rel.rb ?_;refine rf (fun ev wo E=>?_) ?_
       · have e94:ev (.tmp 94)=.slice (some ⟨g2,o2,none⟩) N c8:=E.e 0;have e95:ev (.tmp 95)=.int .i64 (k:Nat):=E.e 1;have h1:=hki;have h2:=hlk;go_simp;exact rv
       refine rf (fun ev wo E=>?_) ?_
       · have e96:ev (.tmp 96)=.pointer (some ⟨g2,o2+k*2,none⟩):=E.e 0;have hx0:=(E.bel.cell TB.out.lt).trans TB.out.c0;have hx1:=(E.bel.cell TB.out.lt).trans TB.out.c1;go_simp;exact rv
       refine rf (fun ev wo E=>?_) ?_
       · have e93:ev (.tmp 93)=.agg #[.slice ra.a ra.n ra.c,.slice ra.b ra.m ra.d]:=E.e 0;have e97:ev (.tmp 97)=.agg #[.slice rb.a rb.n rb.c,.slice rb.b rb.m rb.d]:=E.e 1;have ef:=E.func;go_simp;have pa:=PA.out.to E.bel;have pb:=PB.out.to E.bel;have hsm:=qHm wo ra.a ra.b rb.a rb.b ra.n ra.c ra.m ra.d rb.n rb.c rb.m rb.d s.1 s.1 s.2 s.2 (by have:=pa.nn;unfold maxLen;omega) (by have:=pa.mm;unfold maxLen;omega) (by have:=pb.nn;unfold maxLen;omega) (by have:=pb.mm;unfold maxLen;omega) pa.n pa.m pb.n pb.m pa.la pa.lb pb.la pb.lb
         simp only[decide_true,Bool.and_self] at hsm;refine qAd (hsm.mono ?_);rintro e w' ⟨rfl,hb⟩;exact⟨_,rfl,hb,rfl⟩
       refine rf (fun ev wo E=>?_) ?_
       · have e98:ev (.tmp 98)=.bool true:=E.e 0;go_simp;exact rv
       trivial
     · intro wz bz
       (iterate 10 rintro _ rfl);have HBz:=Lib.hid (HB.out.trans (bz.mono HB.out.size));clear bz;simp only[qAq];go_simp
       go_wp2_with fail
       go_roundw
       case rel=>exact⟨k+1,by omega,by go_num,HBz.out⟩
       case measure=>simp[RowKit.intOf];omega
   · have hki:¬(k:Int)<N:=by omega
     go_wp2_with fail
     have heq:=qDq wr Ar Aw r.length cr r.length cw r r (by unfold maxLen;omega) (by unfold maxLen;omega) rfl rfl SR.out.lr SR.out.lw;rw[decide_eq_true rfl] at heq;refine heq.mono ?_;clear heq;rintro en wA ⟨rfl,bA⟩;have BA:=Lib.hid (SR.out.to bA).bel;clear bA
     go_wp2_with fail
     refine(qDn wA (HE.out.below BA.out)).mono ?_;rintro en wC ⟨rfl,bC⟩;have BC:=Lib.hid (BA.out.trans (bC.mono BA.out.size));clear bC
     go_wp2_with fail
     go_ret
     exact⟨rfl,BC.out⟩
end Go.Proofs.YtikpmmipopmjaaaGreatDoor
