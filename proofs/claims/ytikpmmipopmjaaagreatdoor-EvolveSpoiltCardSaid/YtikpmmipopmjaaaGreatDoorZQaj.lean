/- Evolve's laws: the chapter's examples: the walk. -/
import Derived.Test.YtikpmmipopmjaaaGreatDoorZQai
set_option linter.unusedVariables false
set_option linter.unusedSimpArgs false
namespace Go.Proofs.YtikpmmipopmjaaaGreatDoor
open Go.RowKit Go.Ms Go.Lib Go.Shelf Go.Rel
set_option maxRecDepth 100000 in
set_option maxHeartbeats 4000000 in
theorem qDn (w:World) (hE:Env w):Calls Tryz.prog 22 #[] w fun e w'=>e=.returned (.bool true)∧Below w.heap.size w w':=by
 obtain⟨ic,ci,cz0,cz1,cz2⟩:=info_parts qDm;have HE:=Lib.hid (fun (W:World) (hb:Below w.heap.size w W)=>hE.below hb);clear hE
 go_enter Tryz.func22,Tryz.ntmps22
 go_wp2_with fail
 refine(qWt w (HE.out w (Below.refl _ _))).mono ?_;rintro en w1 ⟨ra,rfl,-,-,l1,b1⟩;have hb1:=(Below.refl w1.heap.size w1).alloc (Nat.le_refl _) (.cells #[.slice ra.a ra.n ra.c,.slice ra.b ra.m ra.d] 25);have x1:=qFk.new (T:=25) l1;have bb1:=b1.alloc b1.size (.cells #[.slice ra.a ra.n ra.c,.slice ra.b ra.m ra.d] 25)
 have X1:=Lib.hid x1;have B1:=Lib.hid bb1
 clear l1 b1 hb1 x1 bb1
 go_wp2_with fail
 refine(qX4 _ (HE.out _ B1.out)).mono ?_;rintro en w2 ⟨rb,rfl,-,-,l2,b2⟩;have x2:=qFk.new (T:=25) l2;have hb2:=(Below.refl w2.heap.size w2).alloc (Nat.le_refl _) (.cells #[.slice rb.a rb.n rb.c,.slice rb.b rb.m rb.d] 25);have x1:=(X1.out.to b2).to hb2;have bb2:=B1.out.trans ((b2.trans (hb2.mono b2.size)).mono B1.out.size)
 have X1':=Lib.hid x1;have X2:=Lib.hid x2;have B2:=Lib.hid bb2
 clear l2 b2 hb2 x1 x2 bb2 X1 B1
 go_wp2_with fail
 refine(qXn _ (HE.out _ B2.out)).mono ?_;rintro en w3 ⟨ro,rfl,ron,-,l3,b3⟩;have x3:=qFk.new (T:=25) l3;have hb3:=(Below.refl w3.heap.size w3).alloc (Nat.le_refl _) (.cells #[.slice ro.a ro.n ro.c,.slice ro.b ro.m ro.d] 25);have x1:=(X1'.out.to b3).to hb3;have x2:=(X2.out.to b3).to hb3;have bb3:=B2.out.trans ((b3.trans (hb3.mono b3.size)).mono B2.out.size);have hb0:=B2.out.size;obtain⟨g1,hg1⟩:∃g,w1.heap.size=g:=⟨_,rfl⟩;obtain⟨g2,hg2⟩:∃g,w2.heap.size=g:=⟨_,rfl⟩;obtain⟨g3,hg3⟩:∃g,w3.heap.size=g:=⟨_,rfl⟩
 obtain⟨W3,hW3⟩:∃W,W=w3.alloc (.cells #[.slice ro.a ro.n ro.c,.slice ro.b ro.m ro.d] 25):=⟨_,rfl⟩;rw[←hW3] at x1 x2 x3 bb3;rw[hg1] at x1;rw[hg2] at x2;rw[hg3] at x3
 have Y1:=Lib.hid x1;have Y2:=Lib.hid x2;have Y3:=Lib.hid x3;have B3:=Lib.hid bb3;have RON:=Lib.hid ron
 clear l3 b3 hb3 x1 x2 x3 bb3 X1' X2 B2 ron hb0;have c3:=Y3.out.c0
 go_wp2_with fail
 rw[←hW3];clear hW3 hg1 hg2 hg3;clear c3
 refine qNm (l:=[_,_,_,_,_,_,_,_,_]) (o:=_) [isV (.pointer (some ⟨g3,0,none⟩)),isV (.slice ro.a ro.n ro.c),qP3 W3.heap.size 59 eW2.1 ro.n,isV (.pointer (some ⟨g3,0,none⟩)),isV (.slice ro.a ro.n ro.c),qQu (eW2.1++eW2.1) (ro.n+ro.n),newS 1 #[.int .i64 0] 3,isSc qR7,qWj W3.heap.size #[.slice none 0 0,.slice none 0 0] 25] [isV (.pointer (some ⟨g3,0,none⟩)),isV (.slice ro.a ro.n ro.c),(fun _ _=>True),isV (.pointer (some ⟨g3,0,none⟩)),isV (.slice ro.a ro.n ro.c),qQu (eW2.1++eW2.1) (ro.n+ro.n),newS 1 #[.int .i64 0] 3,isSc qR7,qWj W3.heap.size #[.slice none 0 0,.slice none 0 0] 25] 5 2 (EffT 59) (by kernel_rfl) (by kernel_rfl) (by kernel_rfl) (by kernel_rfl) (by kernel_rfl) (by kernel_rfl) rfl rfl ?_ ?_ ?_ ?_ ?_
 · exact⟨.inr (.inr (.inr (qHr _))),.inr (.inr (.inr (qHr _))),.inl rfl,.inr (.inr (.inr (qHr _))),.inr (.inr (.inr (qHr _))),.inr (.inl rfl),.inr (.inr (.inr (qT8 _ _ (by decide)))),.inr (.inr (.inl (by kernel_rfl))),.inr (.inr (.inr (qSd _ _ (by decide)))),trivial⟩
 · exact(qNe _ _)
 · intro x hx ev wo E
   cases hx
   have e21:(qP3 W3.heap.size 59 eW2.1 ro.n) (ev (.tmp 21)) wo:=E.d 0 rfl rfl rfl;have e23:ev (.tmp 23)=.slice ro.a ro.n ro.c:=E.e 1;obtain⟨A4,c4,e1,o4⟩:=e21;have hy:=(Y3.out.to E.bel).lay;refine qHp (.tmp 21) (.tmp 23) 22 rfl W3.heap.size 59 ic _ 7 72 qBl ci cz0 cz1 cz2 rfl (by omega) _ ro.n (colV eW2.1) e1 o4 _ ro.a ro.n ro.c (colV eW2.1) e23 (by rw[qEf,hy.n]) hy.la (qCd _) (by have:=hy.nn;unfold maxLen;omega) (by have:=hy.nn;omega) E.bel.size ?_
   intro v' w' ho hg
   obtain⟨A5,c5,rfl,-,-⟩:=qAg ho;refine⟨EffT.own o4 hg,qBr o4 E.bel E.bel.size (Nat.le_refl _) hg,A5,c5,rfl,?_⟩;rw[qJn];exact Lay.of_own ho (Nat.le_refl _)
 ·
   refine⟨fun _=>qA9 (qAw.free rfl) (qAr _) (fun ev wo E=>?_),?_⟩
   · have e3:ev (.tmp 3)=.pointer (some ⟨g3,0,none⟩):=(E.base 3 rfl).trans rfl;go_simp;exact rv
   refine⟨fun _=>qA9 (qAw.free rfl) (qAr _) (fun ev wo E=>?_),?_⟩
   · have e19:ev (.tmp 19)=.pointer (some ⟨g3,0,none⟩):=E.e 0;have hx0:=((Y3.out.to E.bel).c0);go_simp;exact rv
   refine⟨fun _=>qA9 (qAw.free rfl) (qLi _ _ _ _) (fun ev wo E=>?_),?_⟩
   · have e20:ev (.tmp 20)=.slice ro.a ro.n ro.c:=E.e 0;have ef:=E.func;go_simp;have hy:=(Y3.out.to E.bel).lay;refine qAd ((qF3 wo ro.a ro.n ro.c (colV eW2.1) hy.nn (by rw[qEf,hy.n]) hy.la.ext (qCd _)).mono ?_);rintro e w' ⟨v,rfl,ho,hb⟩;obtain⟨A4,c4,rfl,-,-⟩:=qAg ho;exact⟨_,rfl,hb,A4,c4,rfl,qBp ho E.bel.size⟩
   refine⟨fun _=>qA9 (qAw.free rfl) (qAr _) (fun ev wo E=>?_),?_⟩
   · have e3:ev (.tmp 3)=.pointer (some ⟨g3,0,none⟩):=(E.base 3 rfl).trans rfl;go_simp;exact rv
   refine⟨fun _=>qA9 (qAw.free rfl) (qAr _) (fun ev wo E=>?_),?_⟩
   · have e22:ev (.tmp 22)=.pointer (some ⟨g3,0,none⟩):=E.e 0;have hx0:=((Y3.out.to E.bel).c0);go_simp;exact rv
   refine⟨fun h=>absurd rfl h,?_⟩;refine⟨fun _=>qA9 (qAw.free rfl) (qK4 _ _ _) (fun ev wo E=>?_),?_⟩
   · have ec:=E.const;go_simp;exact qBe (qLp _ _ _ _)
   refine⟨fun _=>qA9 (qAw.free rfl) (qEt _) (fun ev wo E=>?_),?_⟩
   · have e24:(qQu (eW2.1++eW2.1) (ro.n+ro.n)) (ev (.tmp 24)) wo:=E.d 0 rfl rfl rfl;have e25:(newS 1 #[.int .i64 0] 3) (ev (.tmp 25)) wo:=E.d 1 rfl rfl rfl;obtain⟨A4,c4,rfl',l4⟩:=e24;obtain⟨g5,rfl'',q5⟩:=e25;go_simp;refine qBe ⟨Below.refl _ _,⟨A4,ro.n+ro.n,c4,some ⟨g5,0,none⟩,1,1⟩,rfl,?_⟩;have hn:=RON.out;exact⟨by show ro.n+ro.n=2;rw[hn];rfl,rfl,by show ro.n+ro.n≤100000;rw[hn];decide,(show 1≤100000 by omega),l4,qFp (xs:=intV [0]) q5⟩
   refine⟨fun _=>qA9 (qAw.free rfl) (qOy _ _ _) (fun ev wo E=>?_),?_⟩
   · go_simp;exact qBe ⟨(Below.refl _ _).alloc (Nat.le_refl _) _,_,rfl,E.bel.size,qAf _ _⟩
   trivial
 · intro wz bz
   rintro _ rfl _ rfl
   intro v21 _
   rintro _ rfl _ rfl
   intro v24 h24
   intro v25 h25
   intro v26 h26
   intro v4 h4
   have hc4:=Classical.choose_spec h4
   generalize Classical.choose h4=g4 at hc4
   have e4:=hc4.1;subst e4;have hc26:=Classical.choose_spec h26
   generalize Classical.choose h26=rx at hc26
   have e26:=hc26.1;subst e26;have q4:=hc4.2.2;have y0:=cell_of_block (i:=0) q4 rfl;have y1:=cell_of_block (i:=1) q4 rfl;have f0:=qAa (i:=0) q4;have f1:=qAa (i:=1) q4;have ex5:∃g,wz.heap.size=g:=⟨_,rfl⟩;have hg5:=Classical.choose_spec ex5
   generalize Classical.choose ex5=g5 at hg5
   have ex6:∃V,V=((wz.setCell ⟨g4,0,none⟩ (.slice rx.a rx.n rx.c)).setCell ⟨g4,1,none⟩ (.slice rx.b rx.m rx.d)).alloc (.cells #[.bool false,.int .i64 5,.string ⟨#[]⟩,.bool false,.int .i64 0,.string ⟨#[120]⟩] 57):=⟨_,rfl⟩;have hV5:=Classical.choose_spec ex6
   generalize Classical.choose ex6=V5 at hV5
   have hk5:WkB0 g1 g2 g3 g4 g5 ra rb ro rx w V5:=by rw[hV5,←hg5];exact WkB.start Y1.out Y2.out Y3.out B3.out bz hc4.2.1 hc4.2.2 hc26.2
   have d0:=hk5.x1.c0;have d1:=hk5.x1.c1;rw[hV5] at d0 d1;have K5:=Lib.hid hk5;clear ex5 ex6 hc4 hc26 h4 h26 h24 h25 bz Y1 Y2 Y3 B3 hk5 q4;simp only[qAq];unfold Oper.wp;go_simp
   go_wp2_with fail
   rw[←hV5];clear hV5 d0 d1 y0 y1 f0 f1 hg5;refine(zB8 K5.out (HE.out _ K5.out.bel)).mono ?_;rintro en w6 ⟨v6,rfl,o6,b6⟩;obtain⟨A6,c6,rfl,-,-⟩:=qAg o6;have hk6:=K5.out.to b6;have d0:=hk6.x1.c0;have d1:=hk6.x1.c1;have d2:=hk6.x2.c0;have d3:=hk6.x2.c1
   have K6:=Lib.hid hk6;have L6:=Lib.hid (RowL.mk (Lay.of_own o6 (Nat.le_refl _)))
   clear hk6 o6 b6 K5
   go_wp2_with fail
   refine(zBh K6.out (HE.out _ K6.out.bel)).mono ?_;rintro en w7 ⟨v7,rfl,o7,b7⟩;obtain⟨A7,c7,rfl,-,-⟩:=qAg o7
   have K7:=Lib.hid (K6.out.to b7);have L7:=Lib.hid (RowL.mk (Lay.of_own o7 (Nat.le_refl _)));have L67:=Lib.hid (L6.out.to b7)
   clear o7 b7 K6 L6 d0 d1 d2 d3
   go_wp2_with fail
   refine qAh [isV (.agg #[.slice ra.a ra.n ra.c,.slice ra.b ra.m ra.d]),isV (.agg #[.slice rb.a rb.n rb.c,.slice rb.b rb.m rb.d]),isV (.slice (some ⟨g5,0,none⟩) 2 2),isV (.slice (some ⟨g5,0,none⟩) 1 2),qN8 100,qN8 100,qQq,isV (.int .i64 100),qQq,isV (.int .i64 100)] (by kernel_rfl) (by kernel_rfl) ?_ ?_
   ·
     refine rf (fun ev wo E=>?_) ?_
     · have e1:ev (.tmp 1)=.pointer (some ⟨g1,0,none⟩):=(E.base 1 rfl).trans rfl;have hx0:=((K7.out.to E.bel).x1.c0);have hx1:=((K7.out.to E.bel).x1.c1);go_simp;exact rv
     refine rf (fun ev wo E=>?_) ?_
     · have e2:ev (.tmp 2)=.pointer (some ⟨g2,0,none⟩):=(E.base 2 rfl).trans rfl;have hx0:=((K7.out.to E.bel).x2.c0);have hx1:=((K7.out.to E.bel).x2.c1);go_simp;exact rv
     refine Rel.rb ?_;refine rf (fun ev wo E=>?_) ?_
     · have e47:ev (.tmp 47)=.slice (some ⟨g5,0,none⟩) 2 2:=E.e 0;have ec:=E.const;go_simp;exact rv
     refine⟨qA9 (qAw.free rfl) (qH8 _) (fun ev wo E=>?_),?_⟩
     · have e45:ev (.tmp 45)=.agg #[.slice ra.a ra.n ra.c,.slice ra.b ra.m ra.d]:=E.e 0;have e46:ev (.tmp 46)=.agg #[.slice rb.a rb.n rb.c,.slice rb.b rb.m rb.d]:=E.e 1;have e48:ev (.tmp 48)=.slice (some ⟨g5,0,none⟩) 1 2:=E.e 2;have ef:=E.func;go_simp;refine qAd ((zBo (K7.out.to E.bel) 2 (HE.out _ (K7.out.to E.bel).bel)).mono ?_);rintro e w' ⟨v,rfl,ho,hb⟩;obtain⟨A4,c4,rfl,-,-⟩:=qAg ho;exact⟨_,rfl,hb,A4,c4,rfl⟩
     refine⟨qBc 0 (qAw.free rfl) (.inl rfl) rfl rfl rfl rfl (qH8 _),?_⟩;refine⟨qA9 (qAw.free rfl) qG8 (fun ev wo E=>?_),?_⟩
     · have e44:(qN8 100) (ev (.tmp 44)) wo:=E.d 0 rfl rfl rfl;obtain⟨A4,c4,e0⟩:=e44;go_simp;exact qBe ⟨Below.refl _ _,A4,c4,rfl⟩
     refine rf (fun ev wo E=>?_) ?_
     · have e44:(qN8 100) (ev (.tmp 44)) wo:=E.d 0 rfl rfl rfl;obtain⟨A4,c4,e0⟩:=e44;go_simp;exact rv
     refine⟨qBc 0 (qAw.free rfl) (.inr rfl) rfl rfl rfl rfl qG8,?_⟩;refine⟨qBc 0 (qAw.free rfl) (.inr rfl) rfl rfl rfl rfl (qAr _),?_⟩;trivial
   · intro wz bz
     rintro _ rfl _ rfl _ rfl _ rfl
     intro v49 h49
     intro v44 h44
     intro v50 h50
     rintro _ rfl
     intro v10 h10
     rintro _ rfl
     have K8:=Lib.hid (K7.out.to bz);have L8:=Lib.hid (L7.out.to bz);have L68:=Lib.hid (L67.out.to bz)
     clear bz K7 L7 L67 h49 h44;have hc50:=Classical.choose_spec h50
     generalize Classical.choose h50=A50 at hc50
     have hd50:=Classical.choose_spec hc50
     generalize Classical.choose hc50=c50 at hd50
     subst hd50;clear h50 hc50;simp only[qAq];go_simp;have d0:=K8.out.x1.c0;have d1:=K8.out.x1.c1;have d2:=K8.out.x2.c0;have d3:=K8.out.x2.c1;have d4:=K8.out.x3.c0;have d5:=K8.out.x3.c1
     go_wp2_with fail
     have ba:=(Below.refl wz.heap.size wz).alloc (Nat.le_refl _) (.cells (scsV [ra,ro,rb]).toArray 25);have ka:=K8.out.to ba;refine(zBy ka (HE.out _ ka.bel) 1 3 (by omega) (by omega) ew_3 (qAf _ _)).mono ?_;rintro en w9 ⟨v9,rfl,o9,b9⟩;obtain⟨A9,c9,rfl,-,-⟩:=qAg o9;have hk9:=ka.to b9
     have L9:=Lib.hid (RowL.mk (Lay.of_own o9 (Nat.le_refl _)));have L69:=Lib.hid ((L68.out.to ba).to b9);have L79:=Lib.hid ((L8.out.to ba).to b9);have K9:=Lib.hid hk9
     clear o9 b9 ka ba K8 L68 L8 d0 d1 d2 d3 d4 d5;have d0:=hk9.x1.c0;have d1:=hk9.x1.c1;have d2:=hk9.x2.c0;have d3:=hk9.x2.c1;have d4:=hk9.x3.c0;have d5:=hk9.x3.c1;clear hk9
     go_wp2_with fail
     have ba:=(Below.refl w9.heap.size w9).alloc (Nat.le_refl _) (.cells (scsV [ra,ro,rb]).toArray 25);have ka:=K9.out.to ba;refine(zBy ka (HE.out _ ka.bel) 2 1 (by omega) (by omega) ew_4 (qAf _ _)).mono ?_;rintro en w10 ⟨v10',rfl,o10,b10⟩;obtain⟨A10,c10,rfl,-,-⟩:=qAg o10;have hk10:=ka.to b10
     have L9':=Lib.hid ((L9.out.to ba).to b10);have L6':=Lib.hid ((L69.out.to ba).to b10);have L7':=Lib.hid ((L79.out.to ba).to b10);have K10:=Lib.hid hk10
     clear o10 b10 ka ba K9 L9 L69 L79 d0 d1 d2 d3 d4 d5;have d0:=hk10.x1.c0;have d2:=hk10.x2.c0;have n1:=hk10.x1.lay.n;have n2:=hk10.x2.lay.n;have m1:ra.n=2:=n1;have m2:rb.n=2:=n2;clear hk10 n1 n2
     go_wp2_with fail
     have lr:=(qO0 K10.out.row (n:=2) (by decide) (by decide) qN4).lay;have hq:=qDq w10 A6 (some ⟨g5,0,none⟩) eWr.length c6 2 2 eWr eWr (by decide) (by decide) rfl rfl L6'.out.lay lr;rw[decide_eq_true rfl] at hq;refine hq.mono ?_;clear hq lr;rintro en w11 ⟨rfl,b11⟩
     have K11:=Lib.hid (K10.out.to b11);have L9:=Lib.hid (L9'.out.to b11);have L7:=Lib.hid (L7'.out.to b11)
     clear b11 K10 L9' L6' L7' d0 d2 m1 m2
     go_wp2_with fail
     have ba:=(Below.refl w11.heap.size w11).alloc (Nat.le_refl _) (.cells (rowV eWy).toArray 57);have q12:=qAf w11 (.cells (rowV eWy).toArray 57);have hq:=qDq (w11.alloc (.cells (rowV eWy).toArray 57)) A7 (some ⟨w11.heap.size,0,none⟩) eWy.length c7 2 2 eWy eWy (by decide) (by decide) rfl rfl (L7.out.to ba).lay (qFp q12);rw[decide_eq_true rfl] at hq;refine hq.mono ?_;clear hq q12;rintro en w12 ⟨rfl,b12⟩;have hk12:=(K11.out.to ba).to b12
     have K12:=Lib.hid hk12;have L9':=Lib.hid ((L9.out.to ba).to b12);have L7':=Lib.hid ((L7.out.to ba).to b12)
     clear b12 K11 L9 L7 ba hk12
     go_wp2_with fail
     have hq:=qDq w12 A9 A7 eWy.length c9 eWy.length c7 eWy eWy (by decide) (by decide) rfl rfl L9'.out.lay L7'.out.lay;rw[decide_eq_true rfl] at hq;refine hq.mono ?_;clear hq;rintro en w13 ⟨rfl,b13⟩;have K13:=Lib.hid (K12.out.to b13);clear b13 K12 L9' L7'
     go_wp2_with fail
     refine qAh [isV (.agg #[.slice ra.a ra.n ra.c,.slice ra.b ra.m ra.d]),isV (.agg #[.slice rx.a rx.n rx.c,.slice rx.b rx.m rx.d]),isV (.int .i64 2),isV (.bool false),isV (.bool false),isV (.agg #[.slice ra.a ra.n ra.c,.slice ra.b ra.m ra.d]),isSc eW3,isV (.int .i64 120),isV (.bool false),isV (.bool false),isV (.bool false),isV (.agg #[.slice ra.a ra.n ra.c,.slice ra.b ra.m ra.d]),isSc eW4,isV (.int .i64 120),isV (.bool false),isV (.bool false),isV (.bool false),isV (.agg #[.slice ra.a ra.n ra.c,.slice ra.b ra.m ra.d]),isSc eW5,isV (.int .i64 120),isV (.bool false),isV (.bool false),isV (.bool false),isV (.agg #[.slice ra.a ra.n ra.c,.slice ra.b ra.m ra.d]),isSc eW6,isV (.int .i64 120),isV (.bool false),isV (.bool false)] (by kernel_rfl) (by kernel_rfl) ?_ ?_
     ·
       refine rf (fun ev wo E=>?_) ?_
       · have e1:ev (.tmp 1)=.pointer (some ⟨g1,0,none⟩):=(E.base 1 rfl).trans rfl;have hx0:=((K13.out.to E.bel).x1.c0);have hx1:=((K13.out.to E.bel).x1.c1);go_simp;exact rv
       refine rf (fun ev wo E=>?_) ?_
       · have e4:ev (.tmp 4)=.pointer (some ⟨g4,0,none⟩):=(E.base 4 rfl).trans rfl;have hx0:=((K13.out.to E.bel).x4.c0);have hx1:=((K13.out.to E.bel).x4.c1);go_simp;exact rv
       refine rf (fun ev wo E=>?_) ?_
       · have e120:ev (.tmp 120)=.agg #[.slice ra.a ra.n ra.c,.slice ra.b ra.m ra.d]:=E.e 0;have e121:ev (.tmp 121)=.agg #[.slice rx.a rx.n rx.c,.slice rx.b rx.m rx.d]:=E.e 1;have ef:=E.func;go_simp;refine qAd ((qHg (K13.out.to E.bel).x1.lay (K13.out.to E.bel).x4.lay qD7.1 qD7.2.2.2.2.2.2.2.2.2 ew_5 (HE.out _ (K13.out.to E.bel).bel)).mono ?_);rintro e w' ⟨rfl,hb⟩;exact⟨_,rfl,hb,rfl⟩
       refine rf (fun ev wo E=>?_) ?_
       · have e122:ev (.tmp 122)=.int .i64 2:=E.e 0;have ec:=E.const;go_simp;exact rv
       refine rc 0 ?_;refine rq 0 (fun ev wo E=>?_) ?_
       · have e1:ev (.tmp 1)=.pointer (some ⟨g1,0,none⟩):=(E.base 1 rfl).trans rfl;have hx0:=((K13.out.to E.bel).x1.c0);have hx1:=((K13.out.to E.bel).x1.c1);go_simp;exact rv
       refine⟨qA9 (qAw.by 0 rfl rfl rfl rfl rfl) (qEt _) (fun ev wo E=>?_),?_⟩
       · have ef:=E.func;have ec:=E.const;go_simp;refine qAd ((qXm wo (HE.out _ (K13.out.to E.bel).bel)).mono ?_);rintro e w' ⟨r,rfl,-,-,hl,hb⟩;exact⟨_,rfl,hb,r,rfl,hl⟩
       refine rq 3 (fun ev wo E=>?_) ?_
       · have e125:ev (.tmp 125)=.agg #[.slice ra.a ra.n ra.c,.slice ra.b ra.m ra.d]:=E.e 0;have e126:(isSc eW3) (ev (.tmp 126)) wo:=E.d 1 rfl rfl rfl;have ef:=E.func;have hr:=Classical.choose_spec e126
         generalize Classical.choose e126=r at hr
         have e0:=hr.1;have hl:=hr.2;clear hr e126;go_simp;refine qAd ((qHg (K13.out.to E.bel).x1.lay hl qD7.1 qD7.2.2.2.1 ew_6 (HE.out _ (K13.out.to E.bel).bel)).mono ?_);rintro e w' ⟨rfl,hb⟩;exact⟨_,rfl,hb,rfl⟩
       refine rq 1 (fun ev wo E=>?_) ?_
       · have e127:ev (.tmp 127)=.int .i64 120:=E.e 0;have ec:=E.const;go_simp;exact rv
       refine rf (fun ev wo E=>?_) ?_
       · have e124:ev (.tmp 124)=.bool false:=E.e 0;have e128:ev (.tmp 128)=.bool false:=E.e 1;have ec:=E.const;go_simp;exact rv
       refine rc 0 ?_;refine rq 0 (fun ev wo E=>?_) ?_
       · have e1:ev (.tmp 1)=.pointer (some ⟨g1,0,none⟩):=(E.base 1 rfl).trans rfl;have hx0:=((K13.out.to E.bel).x1.c0);have hx1:=((K13.out.to E.bel).x1.c1);go_simp;exact rv
       refine⟨qA9 (qAw.by 0 rfl rfl rfl rfl rfl) (qEt _) (fun ev wo E=>?_),?_⟩
       · have ef:=E.func;have ec:=E.const;go_simp;refine qAd ((qXf wo (HE.out _ (K13.out.to E.bel).bel)).mono ?_);rintro e w' ⟨r,rfl,-,-,hl,hb⟩;exact⟨_,rfl,hb,r,rfl,hl⟩
       refine rq 3 (fun ev wo E=>?_) ?_
       · have e131:ev (.tmp 131)=.agg #[.slice ra.a ra.n ra.c,.slice ra.b ra.m ra.d]:=E.e 0;have e132:(isSc eW4) (ev (.tmp 132)) wo:=E.d 1 rfl rfl rfl;have ef:=E.func;have hr:=Classical.choose_spec e132
         generalize Classical.choose e132=r at hr
         have e0:=hr.1;have hl:=hr.2;clear hr e132;go_simp;refine qAd ((qHg (K13.out.to E.bel).x1.lay hl qD7.1 qD7.2.2.2.2.1 ew_7 (HE.out _ (K13.out.to E.bel).bel)).mono ?_);rintro e w' ⟨rfl,hb⟩;exact⟨_,rfl,hb,rfl⟩
       refine rq 1 (fun ev wo E=>?_) ?_
       · have e133:ev (.tmp 133)=.int .i64 120:=E.e 0;have ec:=E.const;go_simp;exact rv
       refine rf (fun ev wo E=>?_) ?_
       · have e130:ev (.tmp 130)=.bool false:=E.e 0;have e134:ev (.tmp 134)=.bool false:=E.e 1;have ec:=E.const;go_simp;exact rv
       refine rc 0 ?_;refine rq 0 (fun ev wo E=>?_) ?_
       · have e1:ev (.tmp 1)=.pointer (some ⟨g1,0,none⟩):=(E.base 1 rfl).trans rfl;have hx0:=((K13.out.to E.bel).x1.c0);have hx1:=((K13.out.to E.bel).x1.c1);go_simp;exact rv
       refine⟨qA9 (qAw.by 0 rfl rfl rfl rfl rfl) (qEt _) (fun ev wo E=>?_),?_⟩
       · have ef:=E.func;have ec:=E.const;go_simp;refine qAd ((qXh wo (HE.out _ (K13.out.to E.bel).bel)).mono ?_);rintro e w' ⟨r,rfl,-,-,hl,hb⟩;exact⟨_,rfl,hb,r,rfl,hl⟩
       refine rq 3 (fun ev wo E=>?_) ?_
       · have e137:ev (.tmp 137)=.agg #[.slice ra.a ra.n ra.c,.slice ra.b ra.m ra.d]:=E.e 0;have e138:(isSc eW5) (ev (.tmp 138)) wo:=E.d 1 rfl rfl rfl;have ef:=E.func;have hr:=Classical.choose_spec e138
         generalize Classical.choose e138=r at hr
         have e0:=hr.1;have hl:=hr.2;clear hr e138;go_simp;refine qAd ((qHg (K13.out.to E.bel).x1.lay hl qD7.1 qD7.2.2.2.2.2.1 ew_8 (HE.out _ (K13.out.to E.bel).bel)).mono ?_);rintro e w' ⟨rfl,hb⟩;exact⟨_,rfl,hb,rfl⟩
       refine rq 1 (fun ev wo E=>?_) ?_
       · have e139:ev (.tmp 139)=.int .i64 120:=E.e 0;have ec:=E.const;go_simp;exact rv
       refine rf (fun ev wo E=>?_) ?_
       · have e136:ev (.tmp 136)=.bool false:=E.e 0;have e140:ev (.tmp 140)=.bool false:=E.e 1;have ec:=E.const;go_simp;exact rv
       refine rc 0 ?_;refine rq 0 (fun ev wo E=>?_) ?_
       · have e1:ev (.tmp 1)=.pointer (some ⟨g1,0,none⟩):=(E.base 1 rfl).trans rfl;have hx0:=((K13.out.to E.bel).x1.c0);have hx1:=((K13.out.to E.bel).x1.c1);go_simp;exact rv
       refine⟨qA9 (qAw.by 0 rfl rfl rfl rfl rfl) (qEt _) (fun ev wo E=>?_),?_⟩
       · have ef:=E.func;have ec:=E.const;go_simp;refine qAd ((qWu wo (HE.out _ (K13.out.to E.bel).bel)).mono ?_);rintro e w' ⟨r,rfl,-,-,hl,hb⟩;exact⟨_,rfl,hb,r,rfl,hl⟩
       refine rq 3 (fun ev wo E=>?_) ?_
       · have e143:ev (.tmp 143)=.agg #[.slice ra.a ra.n ra.c,.slice ra.b ra.m ra.d]:=E.e 0;have e144:(isSc eW6) (ev (.tmp 144)) wo:=E.d 1 rfl rfl rfl;have ef:=E.func;have hr:=Classical.choose_spec e144
         generalize Classical.choose e144=r at hr
         have e0:=hr.1;have hl:=hr.2;clear hr e144;go_simp;refine qAd ((qHg (K13.out.to E.bel).x1.lay hl qD7.1 qD7.2.2.2.2.2.2.1 ew_9 (HE.out _ (K13.out.to E.bel).bel)).mono ?_);rintro e w' ⟨rfl,hb⟩;exact⟨_,rfl,hb,rfl⟩
       refine rq 1 (fun ev wo E=>?_) ?_
       · have e145:ev (.tmp 145)=.int .i64 120:=E.e 0;have ec:=E.const;go_simp;exact rv
       refine rf (fun ev wo E=>?_) ?_
       · have e142:ev (.tmp 142)=.bool false:=E.e 0;have e146:ev (.tmp 146)=.bool false:=E.e 1;have ec:=E.const;go_simp;exact rv
       trivial
     · intro wz bz
       (iterate 6 rintro _ rfl)
       intro v126 h126
       (iterate 5 rintro _ rfl)
       intro v132 h132
       (iterate 5 rintro _ rfl)
       intro v138 h138
       (iterate 5 rintro _ rfl)
       intro v144 h144
       rintro _ rfl _ rfl _ rfl;have K14:=Lib.hid (K13.out.to bz);clear bz K13;simp only[qAq];go_simp
       go_wp2_with fail
       refine(qWi wz (HE.out _ K14.out.bel)).mono ?_;rintro en w15 ⟨r7,rfl,-,-,l7,b7⟩
       have K15:=Lib.hid (K14.out.to b7);have L7:=Lib.hid l7
       clear b7 l7 K14
       go_wp2_with fail
       refine(qWn w15 (HE.out _ K15.out.bel)).mono ?_;rintro en w16 ⟨r8,rfl,-,-,l8,b8⟩
       have K16:=Lib.hid (K15.out.to b8);have L7':=Lib.hid (L7.out.to b8);have L8:=Lib.hid l8
       clear b8 l8 K15 L7
       go_wp2_with fail
       refine(qHg L7'.out L8.out qD7.2.2.2.2.2.2.2.1 qD7.2.2.2.2.2.2.2.2.1 zCx (HE.out _ K16.out.bel)).mono ?_;rintro en w17 ⟨rfl,b9⟩;have hk:=K16.out.to b9;have K17:=Lib.hid hk;clear b9 K16 L7' L8;have d0:=hk.x1.c0;have d1:=hk.x1.c1;have d4:=hk.x3.c0;have d5:=hk.x3.c1;clear hk
       go_wp2_with fail
       refine(qHg K17.out.x3.lay K17.out.x1.lay qD7.2.2.1 qD7.1 zC4 (HE.out _ K17.out.bel)).mono ?_;rintro en w18 ⟨rfl,b9⟩;have hk:=K17.out.to b9;have K18:=Lib.hid hk;clear b9 K17 d0 d1 d4 d5;have d0:=hk.x1.c0;have d1:=hk.x1.c1;have d4:=hk.x3.c0;have d5:=hk.x3.c1;clear hk
       go_wp2_with fail
       have ba:=(Below.refl w18.heap.size w18).alloc (Nat.le_refl _) (.cells (scsV [ra,ro,ra]).toArray 25);have ka:=K18.out.to ba;refine(zC9 ka (HE.out _ ka.bel) (qAf _ _)).mono ?_;rintro en w19 ⟨rfl,b9⟩;have K19:=Lib.hid (ka.to b9);clear b9 K18 ka ba d0 d1 d4 d5
       go_wp2_with fail
       refine(zCn (HE.out _ K19.out.bel)).mono ?_;rintro en w20 ⟨rfl,b9⟩;have K20:=Lib.hid (K19.out.to b9).bel;clear b9 K19
       go_wp2_with fail
       go_ret
       exact⟨rfl,K20.out⟩
end Go.Proofs.YtikpmmipopmjaaaGreatDoor
