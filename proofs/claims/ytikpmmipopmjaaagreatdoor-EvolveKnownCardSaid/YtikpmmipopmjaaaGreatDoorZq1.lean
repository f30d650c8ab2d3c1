/- EvolveKnown, walked. -/
import Derived.Test.YtikpmmipopmjaaaGreatDoorZQaz
import Derived.Test.YtikpmmipopmjaaaGreatDoorZQba
set_option linter.unusedVariables false
set_option linter.unusedSimpArgs false
namespace Go.Proofs.YtikpmmipopmjaaaGreatDoor
open Go.RowKit Go.Ms Go.Lib Go.Shelf Go.Rel
set_option maxRecDepth 100000 in
set_option maxHeartbeats 16000000 in
theorem zDd (w : World) (hE:Env w):Calls Tryz.prog 8 #[] w fun e w'=>e=.returned (.bool true)∧Below w.heap.size w w':=by
 obtain⟨sc,si,sz0,sz1,sz2⟩:=info_parts qHh
 obtain⟨X,hX⟩:∃X,X=w.alloc (.cells #[.string ⟨#[49,32,107,32,105,110,116,51,50,42,32,48,47]⟩,.string ⟨#[49,32,107,32,105,110,116,54,52,42,32,48,47]⟩,.string ⟨#[49,32,107,32,115,116,114,105,110,103,42,32,34,34,47]⟩,.string ⟨#[49,32,107,32,105,110,116,51,50,42,32,49,47]⟩,.string ⟨#[49,32,107,32,105,110,116,51,50,42,32,48,47,50,32,118,32,105,110,116,51,50,32,48,47]⟩,.string ⟨#[49,32,107,32,105,110,116,51,50,42,32,48,47,50,32,118,32,105,110,116,54,52,32,48,47]⟩,.string ⟨#[49,32,107,32,105,110,116,51,50,42,32,48,47,50,32,118,32,105,110,116,51,50,63,32,48,47]⟩,.string ⟨#[49,32,107,32,105,110,116,51,50,42,32,48,47,50,32,118,32,105,110,116,51,50,63,32,110,117,108,108,47]⟩,.string ⟨#[49,32,107,32,105,110,116,51,50,42,32,48,47,50,32,118,32,105,110,116,54,52,63,32,110,117,108,108,47]⟩,.string ⟨#[49,32,107,32,105,110,116,51,50,42,32,48,47,50,32,118,32,98,111,111,108,32,102,97,108,115,101,47]⟩,.string ⟨#[49,32,107,32,105,110,116,51,50,42,32,48,47,50,32,118,32,105,110,116,51,50,42,32,48,47]⟩,.string ⟨#[49,32,107,32,105,110,116,51,50,32,48,47,50,32,118,32,105,110,116,51,50,42,32,48,47]⟩,.string ⟨#[49,32,107,32,105,110,116,51,50,32,48,47]⟩,.string ⟨#[49,32,107,32,105,110,116,51,50,42,32,48,47,51,32,118,32,105,110,116,51,50,32,48,47]⟩,.string ⟨#[49,32,107,32,105,110,116,51,50,42,32,48,47,50,32,119,32,105,110,116,51,50,32,48,47]⟩,.string ⟨#[49,32,107,32,105,110,116,51,50,42,32,48,47,50,32,118,32,105,110,116,51,50,32,48,47,51,32,119,32,98,121,116,101,115,32,120,102,102,47]⟩,.string ⟨#[49,32,107,32,105,110,116,51,50,42,32,48,47,49,48,52,56,53,55,54,32,122,32,98,111,111,108,32,116,114,117,101,47]⟩,.string ⟨#[50,32,107,32,105,110,116,51,50,42,32,48,47]⟩] 9):=⟨_,rfl⟩
 have bX:Below w.heap.size w X:=by rw[hX];exact(Below.refl _ w).alloc (Nat.le_refl _) _
 have qX:X.heap[w.heap.size]?=some (.cells kTV 9 (0,0)):=by rw[hX];exact qAf _ _
 have HE:=Lib.hid hE;have BX:=Lib.hid bX;have QX:=Lib.hid qX
 clear hE bX qX
 go_enter Tryz.func8,Tryz.ntmps8
 go_upto_region 2 with fail
 rw[←hX];clear hX
 go_wp2_with fail
 go_loopw [2] (fun s2 wr=> ∃i:Nat,i≤18∧s2=.int .i64 i∧wr.heap[w.heap.size]?=some (.cells kTV 9 (0,0))∧Below w.heap.size w wr) (fun s2 _=>18-(RowKit.intOf s2).toNat)
 case atStart=>exact⟨0,by omega,rfl,QX.out,BX.out⟩
 case round=>
  clear QX BX;obtain⟨i,hi,rfl,qh,bl⟩:=hrel
  by_cases hi2:i<18
  · have ti : (i:Int)<18:=by omega
    have QH:=Lib.hid qh;have BL:=Lib.hid bl
    clear qh bl
    go_wp2_with fail
    go_loopw [3] (fun s3 wr=> ∃j:Nat,j≤18∧s3=.int .i64 j∧wr.heap[w.heap.size]?=some (.cells kTV 9 (0,0))∧Below w.heap.size w wr) (fun s3 _=>18-(RowKit.intOf s3).toNat)
    case atStart=>exact⟨0,by omega,rfl,QH.out,BL.out⟩
    case round=>
     clear QH BL;obtain⟨j,hj,rfl,qh,bl⟩:=hrel
     by_cases hj2:j<18
     · have tj:(j:Int)<18:=by omega
       obtain⟨SA,sa,hA1,hA2⟩:=kAt i hi2;obtain⟨SB,sb,hB1,hB2⟩:=kAt j hj2
       have HA1:=Lib.hid hA1;have HA2:=Lib.hid hA2;have HB1:=Lib.hid hB1;have HB2:=Lib.hid hB2;have QH:=Lib.hid qh;have BL:=Lib.hid bl
       clear hA1 hA2 hB1 hB2 qh bl
       go_upto_region 8 with fail
       refine qGc (l:=[_,_,_,_,_,_,_,_,_,_,_,_]) (o:=_) (t:=[_]) (kA:=10) (kB:=11) (cA:=(.cells #[.slice none 0 0,.slice none 0 0] 25)) (cB:=(.cells #[.slice none 0 0,.slice none 0 0] 25)) [isV (.slice (some ⟨w.heap.size,0,none⟩) 18 18),isV (.int .i64 (i:Nat)),isV (.pointer (some ⟨w.heap.size,i,none⟩)),isV (.string SA),zAm sa,isV (.slice (some ⟨w.heap.size,0,none⟩) 18 18),isV (.int .i64 (j:Nat)),isV (.pointer (some ⟨w.heap.size,j,none⟩)),isV (.string SB),zAm sb,qVk wr.heap.size (.cells #[.slice none 0 0,.slice none 0 0] 25 (0,0)),qVk wr.heap.size (.cells #[.slice none 0 0,.slice none 0 0] 25 (0,0))] (by kernel_rfl) (by kernel_rfl) (by kernel_rfl) (by kernel_rfl) (by kernel_rfl) (by kernel_rfl) rfl rfl (by decide) rfl rfl (fun _ _=>by kernel_rfl) (fun _ _=>by kernel_rfl) rfl rfl (by kernel_rfl) ?_ ?_
       ·
         refine Rel.rb ?_;refine Rel.rb ?_;refine rf (fun ev wo E=>?_) ?_
         · have e25:ev (.tmp 25)=.slice (some ⟨w.heap.size,0,none⟩) 18 18:=E.e 0;have e26:ev (.tmp 26)=.int .i64 (i:Nat):=E.e 1;have h0:=ti;have h1:=hi2;go_simp;exact rv
         refine rf (fun ev wo E=>?_) ?_
         · have e27:ev (.tmp 27)=.pointer (some ⟨w.heap.size,i,none⟩):=E.e 0;have hx0:=cell_of_block (i:=i) (qAb QH.out E.bel) (zDe HA1.out);go_simp;exact rv
         refine⟨qA9 (qAw.free rfl) (qOh _) (fun ev wo E=>?_),?_⟩
         · have e28:ev (.tmp 28)=.string SA:=E.e 0;have ef:=E.func;go_simp;exact qAd (qUy HA1.out HA2.out wo (HE.out.below (BL.out.trans (E.bel.mono BL.out.size))))
         refine Rel.rb ?_;refine Rel.rb ?_;refine rf (fun ev wo E=>?_) ?_
         · have e30:ev (.tmp 30)=.slice (some ⟨w.heap.size,0,none⟩) 18 18:=E.e 0;have e31:ev (.tmp 31)=.int .i64 (j:Nat):=E.e 1;have h0:=tj;have h1:=hj2;go_simp;exact rv
         refine rf (fun ev wo E=>?_) ?_
         · have e32:ev (.tmp 32)=.pointer (some ⟨w.heap.size,j,none⟩):=E.e 0;have hx0:=cell_of_block (i:=j) (qAb QH.out E.bel) (zDe HB1.out);go_simp;exact rv
         refine⟨qA9 (qAw.free rfl) (qOh _) (fun ev wo E=>?_),?_⟩
         · have e33:ev (.tmp 33)=.string SB:=E.e 0;have ef:=E.func;go_simp;exact qAd (qUy HB1.out HB2.out wo (HE.out.below (BL.out.trans (E.bel.mono BL.out.size))))
         refine⟨qA9 (qAw.free rfl) (qFn _ _) (fun ev wo E=>?_),?_⟩
         · go_simp;exact qBe ⟨(Below.refl _ _).alloc (Nat.le_refl _) _,_,rfl,E.bel.size,qAf _ _⟩
         refine⟨qA9 (qAw.free rfl) (qFn _ _) (fun ev wo E=>?_),?_⟩
         · go_simp;exact qBe ⟨(Below.refl _ _).alloc (Nat.le_refl _) _,_,rfl,E.bel.size,qAf _ _⟩
         trivial
       · intro wz bz
         rintro _ rfl _ rfl _ rfl _ rfl
         intro v29 h29
         rintro _ rfl _ rfl _ rfl _ rfl
         intro v34 h34
         intro v4 h4
         intro v5 h5
         intro hne
         have e29:=Classical.choose_spec h29
         generalize Classical.choose h29=ra at e29
         have e34:=Classical.choose_spec h34
         generalize Classical.choose h34=rb at e34
         have e4:=Classical.choose_spec h4
         generalize Classical.choose h4=g4 at e4
         have e5:=Classical.choose_spec h5
         generalize Classical.choose h5=g5 at e5
         have q29:=e29.1;have q34:=e34.1;have q4:=e4.1;have q5:=e5.1
         have LA:=Lib.hid e29.2;have LB:=Lib.hid e34.2;have G4:=Lib.hid e4.2;have G5:=Lib.hid e5.2
         subst q29;subst q34;subst q4;subst q5
         have n45:g4≠g5:=fun e=>hne g4 (by go_simp) (by rw[e];go_simp)
         have n54:g5≠g4:=fun e=>n45 e.symm
         clear h29 h34 h4 h5 e29 e34 e4 e5 hne;have y0:=cell_of_block (i:=0) G4.out.2 rfl;have y1:=cell_of_block (i:=1) G4.out.2 rfl;have y2:=cell_of_block (i:=0) G5.out.2 rfl;have y3:=cell_of_block (i:=1) G5.out.2 rfl;have f0:=qAa (i:=0) G4.out.2;have f1:=qAa (i:=1) G4.out.2;have f2:=qAa (i:=0) G5.out.2;have f3:=qAa (i:=1) G5.out.2;simp only[qAq,qGp];unfold Oper.wp;go_simp
         go_upto_region 9 with fail
         obtain⟨Z,hZ⟩:∃Z,Z=(((wz.setCell ⟨g4,0,none⟩ (.slice ra.a ra.n ra.c)).setCell ⟨g4,1,none⟩ (.slice ra.b ra.m ra.d)).setCell ⟨g5,0,none⟩ (.slice rb.a rb.n rb.c)).setCell ⟨g5,1,none⟩ (.slice rb.b rb.m rb.d):=⟨_,rfl⟩;have g4l:=G4.out.1;have g5l:=G5.out.1;have ql:=(Array.getElem?_eq_some_iff.1 QH.out).1;have bb5:=qAj (qAj G5.out.2 n54 (i:=0) (.slice ra.a ra.n ra.c)) n54 (i:=1) (.slice ra.b ra.m ra.d)
         have st:KnSt 25 g4 g5 ra rb sa sb w Z:=by
          refine⟨?_,?_,?_,?_,?_⟩
          · rw[hZ];exact qAj (qAj (qIm G4.out.2 _ _) n45 _) n45 _
          · rw[hZ];exact qIm bb5 _ _
          · rw[hZ];exact(LA.out.box2 G4.out.2 _ _ _ _).box2 bb5 _ _ _ _
          · rw[hZ];exact(LB.out.box2 G4.out.2 _ _ _ _).box2 bb5 _ _ _ _
          · rw[hZ];exact((((BL.out.trans (bz.mono BL.out.size)).setCell (p:=⟨g4,0,none⟩) (by simp only;omega) _).setCell (p:=⟨g4,1,none⟩) (by simp only;omega) _).setCell (p:=⟨g5,0,none⟩) (by simp only;omega) _).setCell (p:=⟨g5,1,none⟩) (by simp only;omega) _
         have qz:Z.heap[w.heap.size]?=some (.cells kTV 9 (0,0)):=by
          rw[hZ];exact qAj (qAj (qAj (qAj (qAb QH.out bz) (by omega) _) (by omega) _) (by omega) _) (by omega) _
         rw[←hZ]
         have ST:=Lib.hid st;have QZ:=Lib.hid qz
         clear hZ st qz bb5 bz QH BL LA LB G4 G5 y0 y1 y2 y3 f0 f1 f2 f3 n45 n54 g4l g5l ql HA1 HA2 HB1 HB2
         refine qAh [isV (.agg #[.slice ra.a ra.n ra.c,.slice ra.b ra.m ra.d]),isV (.agg #[.slice rb.a rb.n rb.c,.slice rb.b rb.m rb.d]),isV (.pointer (some ⟨g4,0,none⟩)),isV (.slice ra.a ra.n ra.c),newS 2 #[.int .i64 7,.int .i64 3] 3,zA4 (qLg sa.1 [7,3]),isV (.bool true),isV (.bool false),isV (.bool false),isV (.agg #[.slice ra.a ra.n ra.c,.slice ra.b ra.m ra.d]),isV (.agg #[.slice rb.a rb.n rb.c,.slice rb.b rb.m rb.d]),isV (.bool true),isV (.bool false),isV (.bool false),isV (.bool false),isV (.agg #[.slice ra.a ra.n ra.c,.slice ra.b ra.m ra.d]),isV (.agg #[.slice rb.a rb.n rb.c,.slice rb.b rb.m rb.d]),newS 2 #[.slice ra.a ra.n ra.c,.slice ra.b ra.m ra.d,.slice rb.a rb.n rb.c,.slice rb.b rb.m rb.d] 25,isV (.agg #[.int .i64 1,.int .i64 2]),isV (.pointer (some ⟨g4,0,none⟩)),isV (.slice ra.a ra.n ra.c),newS 1 #[.int .i64 5] 3,zA4 (qLg sa.1 [5]),isV (.bool true),isV (.bool false),isV (.bool false),isV (.bool false),isV (.agg #[.slice ra.a ra.n ra.c,.slice ra.b ra.m ra.d]),isV (.agg #[.slice rb.a rb.n rb.c,.slice rb.b rb.m rb.d]),isV (.agg #[.slice ra.a ra.n ra.c,.slice ra.b ra.m ra.d]),newS 3 #[.slice ra.a ra.n ra.c,.slice ra.b ra.m ra.d,.slice rb.a rb.n rb.c,.slice rb.b rb.m rb.d,.slice ra.a ra.n ra.c,.slice ra.b ra.m ra.d] 25,isV (.agg #[.int .i64 2,.int .i64 3]),isV (.pointer (some ⟨g5,0,none⟩)),isV (.slice rb.a rb.n rb.c),zA4 (qLg sb.1 []),isV (.bool true),isV (.bool false),isV (.bool false)] (by kernel_rfl) (by kernel_rfl) ?_ ?_
         ·
           refine rf (fun ev wo E=>?_) ?_
           · have e4:ev (.tmp 4)=.pointer (some ⟨g4,0,none⟩):=(E.base 4 rfl).trans rfl;have hx0:=cell_of_block (i:=0) (qAb ST.out.b4 E.bel) rfl;have hx1:=cell_of_block (i:=1) (qAb ST.out.b4 E.bel) rfl;go_simp;exact rv
           refine rf (fun ev wo E=>?_) ?_
           · have e5:ev (.tmp 5)=.pointer (some ⟨g5,0,none⟩):=(E.base 5 rfl).trans rfl;have hx0:=cell_of_block (i:=0) (qAb ST.out.b5 E.bel) rfl;have hx1:=cell_of_block (i:=1) (qAb ST.out.b5 E.bel) rfl;go_simp;exact rv
           refine rf (fun ev wo E=>?_) ?_
           · have e4:ev (.tmp 4)=.pointer (some ⟨g4,0,none⟩):=(E.base 4 rfl).trans rfl;go_simp;exact rv
           refine rf (fun ev wo E=>?_) ?_
           · have e37:ev (.tmp 37)=.pointer (some ⟨g4,0,none⟩):=E.e 0;have hx0:=cell_of_block (i:=0) (qAb ST.out.b4 E.bel) rfl;go_simp;exact rv
           refine⟨qA9 (qAw.free rfl) (qK4 _ _ _) (fun ev wo E=>?_),?_⟩
           · have ec:=E.const;go_simp;exact qBe (qLp _ _ _ _)
           refine⟨qA9 (qAw.free rfl) (qO7 _) (fun ev wo E=>?_),?_⟩
           · have e38:ev (.tmp 38)=.slice ra.a ra.n ra.c:=E.e 0;have e39:(newS 2 #[.int .i64 7,.int .i64 3] 3) (ev (.tmp 39)) wo:=E.d 1 rfl rfl rfl;have ef:=E.func;obtain⟨gn,e0,qn⟩:=e39;go_simp;exact qAd (qV0 ST.out.la.lay rfl (by unfold maxLen;decide) _ (by intro x hx;simp at hx;rcases hx with rfl|rfl <;> exact⟨by decide,by decide⟩) E.bel (qFp (xs:=intV [7,3]) qn))
           refine rf (fun ev wo E=>?_) ?_
           · have e35:ev (.tmp 35)=.agg #[.slice ra.a ra.n ra.c,.slice ra.b ra.m ra.d]:=E.e 0;have e36:ev (.tmp 36)=.agg #[.slice rb.a rb.n rb.c,.slice rb.b rb.m rb.d]:=E.e 1;have e40:(zA4 (qLg sa.1 [7,3])) (ev (.tmp 40)) wo:=E.d 2 rfl rfl rfl;have ef:=E.func;obtain⟨Ar,nr,cr,e0,hr⟩:=e40;have st:=ST.out.to E.bel;go_simp;refine qAd ((qJj ra.a ra.n ra.c sa.1 ra.b ra.m ra.d sa.2 rb.a rb.n rb.c sb.1 rb.b rb.m rb.d sb.2 Ar nr cr _ wo st.la.arg st.lb.arg hr (HE.out.below st.bel)).mono ?_)
             rintro e w' ⟨rfl,hb⟩;exact⟨_,rfl,hb,rfl⟩
           refine rf (fun ev wo E=>?_) ?_
           · have e41:ev (.tmp 41)=.bool true:=E.e 0;go_simp;exact rv
           refine rc 0 ?_;refine rq 0 (fun ev wo E=>?_) ?_
           · have e4:ev (.tmp 4)=.pointer (some ⟨g4,0,none⟩):=(E.base 4 rfl).trans rfl;have hx0:=cell_of_block (i:=0) (qAb ST.out.b4 E.bel) rfl;have hx1:=cell_of_block (i:=1) (qAb ST.out.b4 E.bel) rfl;go_simp;exact rv
           refine rq 0 (fun ev wo E=>?_) ?_
           · have e5:ev (.tmp 5)=.pointer (some ⟨g5,0,none⟩):=(E.base 5 rfl).trans rfl;have hx0:=cell_of_block (i:=0) (qAb ST.out.b5 E.bel) rfl;have hx1:=cell_of_block (i:=1) (qAb ST.out.b5 E.bel) rfl;go_simp;exact rv
           refine rq 2 (fun ev wo E=>?_) ?_
           · have e44:ev (.tmp 44)=.agg #[.slice ra.a ra.n ra.c,.slice ra.b ra.m ra.d]:=E.e 0;have e45:ev (.tmp 45)=.agg #[.slice rb.a rb.n rb.c,.slice rb.b rb.m rb.d]:=E.e 1;have ef:=E.func;have ec:=E.const;have hr:=qIw.nil wo;have st:=ST.out.to E.bel;go_simp;refine qAd ((qJj ra.a ra.n ra.c sa.1 ra.b ra.m ra.d sa.2 rb.a rb.n rb.c sb.1 rb.b rb.m rb.d sb.2 none 0 0 [] wo st.la.arg st.lb.arg hr (HE.out.below st.bel)).mono ?_);rintro e w' ⟨rfl,hb⟩;exact⟨_,rfl,hb,rfl⟩
           refine rq 1 (fun ev wo E=>?_) ?_
           · have e46:ev (.tmp 46)=.bool true:=E.e 0;go_simp;exact rv
           refine rf (fun ev wo E=>?_) ?_
           · have e43:ev (.tmp 43)=.bool false:=E.e 0;have e47:ev (.tmp 47)=.bool false:=E.e 1;have ec:=E.const;go_simp;exact rv
           refine rc 0 ?_;refine rq 0 (fun ev wo E=>?_) ?_
           · have e4:ev (.tmp 4)=.pointer (some ⟨g4,0,none⟩):=(E.base 4 rfl).trans rfl;have hx0:=cell_of_block (i:=0) (qAb ST.out.b4 E.bel) rfl;have hx1:=cell_of_block (i:=1) (qAb ST.out.b4 E.bel) rfl;go_simp;exact rv
           refine rq 0 (fun ev wo E=>?_) ?_
           · have e5:ev (.tmp 5)=.pointer (some ⟨g5,0,none⟩):=(E.base 5 rfl).trans rfl;have hx0:=cell_of_block (i:=0) (qAb ST.out.b5 E.bel) rfl;have hx1:=cell_of_block (i:=1) (qAb ST.out.b5 E.bel) rfl;go_simp;exact rv
           refine⟨qA9 (qAw.by 2 rfl rfl rfl rfl rfl) (qK4 _ _ _) (fun ev wo E=>?_),?_⟩
           · have e50:ev (.tmp 50)=.agg #[.slice ra.a ra.n ra.c,.slice ra.b ra.m ra.d]:=E.e 0;have e51:ev (.tmp 51)=.agg #[.slice rb.a rb.n rb.c,.slice rb.b rb.m rb.d]:=E.e 1;go_simp;exact qBe (qLp _ _ _ _)
           refine rq 0 (fun ev wo E=>?_) ?_
           · have ec:=E.const;go_simp;exact rv
           refine rq 0 (fun ev wo E=>?_) ?_
           · have e4:ev (.tmp 4)=.pointer (some ⟨g4,0,none⟩):=(E.base 4 rfl).trans rfl;go_simp;exact rv
           refine rq 1 (fun ev wo E=>?_) ?_
           · have e54:ev (.tmp 54)=.pointer (some ⟨g4,0,none⟩):=E.e 0;have hx0:=cell_of_block (i:=0) (qAb ST.out.b4 E.bel) rfl;go_simp;exact rv
           refine⟨qA9 (qAw.by 0 rfl rfl rfl rfl rfl) (qK4 _ _ _) (fun ev wo E=>?_),?_⟩
           · have ec:=E.const;go_simp;exact qBe (qLp _ _ _ _)
           refine⟨qA9 (qAw.by 2 rfl rfl rfl rfl rfl) (qO7 _) (fun ev wo E=>?_),?_⟩
           · have e55:ev (.tmp 55)=.slice ra.a ra.n ra.c:=E.e 0;have e56:(newS 1 #[.int .i64 5] 3) (ev (.tmp 56)) wo:=E.d 1 rfl rfl rfl;have ef:=E.func;obtain⟨gn,e0,qn⟩:=e56;go_simp;exact qAd (qV0 ST.out.la.lay rfl (by unfold maxLen;decide) _ (by intro x hx;simp at hx;subst hx;exact⟨by decide,by decide⟩) E.bel (qFp (xs:=intV [5]) qn))
           refine rq 4 (fun ev wo E=>?_) ?_
           · have e52:(newS 2 #[.slice ra.a ra.n ra.c,.slice ra.b ra.m ra.d,.slice rb.a rb.n rb.c,.slice rb.b rb.m rb.d] 25) (ev (.tmp 52)) wo:=E.d 0 rfl rfl rfl;have e53:ev (.tmp 53)=.agg #[.int .i64 1,.int .i64 2]:=E.e 1;have e57:(zA4 (qLg sa.1 [5])) (ev (.tmp 57)) wo:=E.d 2 rfl rfl rfl;have ef:=E.func;obtain⟨gs,e1,qs⟩:=e52;obtain⟨Ar,nr,cr,e0,hr⟩:=e57;have st:=ST.out.to E.bel;go_simp
             refine qAd ((qFc (some ⟨gs,0,none⟩) 2 2 [(ra,sa),(rb,sb)] 1 2 Ar nr cr _ wo (qGd.blk qs rfl (by decide) (fun x hx=>by
              simp only[List.mem_cons,List.not_mem_nil,or_false] at hx
              rcases hx with rfl|rfl <;> first|exact st.la|exact st.lb)) ⟨by decide,by decide⟩ ⟨by decide,by decide⟩ hr (HE.out.below st.bel)).mono ?_)
             rintro e w' ⟨rfl,hb⟩;exact⟨_,rfl,hb,rfl⟩
           refine rq 1 (fun ev wo E=>?_) ?_
           · have e58:ev (.tmp 58)=.bool true:=E.e 0;go_simp;exact rv
           refine rf (fun ev wo E=>?_) ?_
           · have e49:ev (.tmp 49)=.bool false:=E.e 0;have e59:ev (.tmp 59)=.bool false:=E.e 1;have ec:=E.const;go_simp;exact rv
           refine rc 0 ?_;refine rq 0 (fun ev wo E=>?_) ?_
           · have e4:ev (.tmp 4)=.pointer (some ⟨g4,0,none⟩):=(E.base 4 rfl).trans rfl;have hx0:=cell_of_block (i:=0) (qAb ST.out.b4 E.bel) rfl;have hx1:=cell_of_block (i:=1) (qAb ST.out.b4 E.bel) rfl;go_simp;exact rv
           refine rq 0 (fun ev wo E=>?_) ?_
           · have e5:ev (.tmp 5)=.pointer (some ⟨g5,0,none⟩):=(E.base 5 rfl).trans rfl;have hx0:=cell_of_block (i:=0) (qAb ST.out.b5 E.bel) rfl;have hx1:=cell_of_block (i:=1) (qAb ST.out.b5 E.bel) rfl;go_simp;exact rv
           refine rq 0 (fun ev wo E=>?_) ?_
           · have e4:ev (.tmp 4)=.pointer (some ⟨g4,0,none⟩):=(E.base 4 rfl).trans rfl;have hx0:=cell_of_block (i:=0) (qAb ST.out.b4 E.bel) rfl;have hx1:=cell_of_block (i:=1) (qAb ST.out.b4 E.bel) rfl;go_simp;exact rv
           refine⟨qA9 (qAw.by 3 rfl rfl rfl rfl rfl) (qK4 _ _ _) (fun ev wo E=>?_),?_⟩
           · have e62:ev (.tmp 62)=.agg #[.slice ra.a ra.n ra.c,.slice ra.b ra.m ra.d]:=E.e 0;have e63:ev (.tmp 63)=.agg #[.slice rb.a rb.n rb.c,.slice rb.b rb.m rb.d]:=E.e 1;have e64:ev (.tmp 64)=.agg #[.slice ra.a ra.n ra.c,.slice ra.b ra.m ra.d]:=E.e 2;go_simp;exact qBe (qLp _ _ _ _)
           refine rq 0 (fun ev wo E=>?_) ?_
           · have ec:=E.const;go_simp;exact rv
           refine rq 0 (fun ev wo E=>?_) ?_
           · have e5:ev (.tmp 5)=.pointer (some ⟨g5,0,none⟩):=(E.base 5 rfl).trans rfl;go_simp;exact rv
           refine rq 1 (fun ev wo E=>?_) ?_
           · have e67:ev (.tmp 67)=.pointer (some ⟨g5,0,none⟩):=E.e 0;have hx0:=cell_of_block (i:=0) (qAb ST.out.b5 E.bel) rfl;go_simp;exact rv
           refine⟨qA9 (qAw.by 1 rfl rfl rfl rfl rfl) (qO7 _) (fun ev wo E=>?_),?_⟩
           · have e68:ev (.tmp 68)=.slice rb.a rb.n rb.c:=E.e 0;have ef:=E.func;have ec:=E.const;go_simp;exact qAd (qV0 ST.out.lb.lay rfl (by unfold maxLen;decide) _ (fun x hx=>by cases hx) E.bel (fun u v hu=>by simp[intV] at hu))
           refine rq 4 (fun ev wo E=>?_) ?_
           · have e65:(newS 3 #[.slice ra.a ra.n ra.c,.slice ra.b ra.m ra.d,.slice rb.a rb.n rb.c,.slice rb.b rb.m rb.d,.slice ra.a ra.n ra.c,.slice ra.b ra.m ra.d] 25) (ev (.tmp 65)) wo:=E.d 0 rfl rfl rfl;have e66:ev (.tmp 66)=.agg #[.int .i64 2,.int .i64 3]:=E.e 1;have e69:(zA4 (qLg sb.1 [])) (ev (.tmp 69)) wo:=E.d 2 rfl rfl rfl;have ef:=E.func;obtain⟨gs,e1,qs⟩:=e65;obtain⟨Ar,nr,cr,e0,hr⟩:=e69;have st:=ST.out.to E.bel;go_simp
             refine qAd ((qFc (some ⟨gs,0,none⟩) 3 3 [(ra,sa),(rb,sb),(ra,sa)] 2 3 Ar nr cr _ wo (qGd.blk qs rfl (by decide) (fun x hx=>by
              simp only[List.mem_cons,List.not_mem_nil,or_false] at hx
              rcases hx with rfl|rfl|rfl <;> first|exact st.la|exact st.lb)) ⟨by decide,by decide⟩ ⟨by decide,by decide⟩ hr (HE.out.below st.bel)).mono ?_)
             rintro e w' ⟨rfl,hb⟩;exact⟨_,rfl,hb,rfl⟩
           refine rq 1 (fun ev wo E=>?_) ?_
           · have e70:ev (.tmp 70)=.bool true:=E.e 0;go_simp;exact rv
           refine rf (fun ev wo E=>?_) ?_
           · have e61:ev (.tmp 61)=.bool false:=E.e 0;have e71:ev (.tmp 71)=.bool false:=E.e 1;have ec:=E.const;go_simp;exact rv
           trivial
         · intro wz bz
           rintro _ rfl _ rfl _ rfl _ rfl
           intro v39 h39
           intro v40 h40
           (iterate 11 rintro _ rfl)
           intro v52 h52
           rintro _ rfl _ rfl _ rfl
           intro v56 h56
           intro v57 h57
           (iterate 7 rintro _ rfl)
           intro v65 h65
           rintro _ rfl _ rfl _ rfl
           intro v69 h69
           rintro _ rfl _ rfl _ rfl
           have QR:=Lib.hid (qAb QZ.out bz);have BR:=Lib.hid ((ST.out.to bz).bel)
           clear bz ST QZ;simp only[qAq];go_simp
           go_wp2_with fail
           exact⟨⟨j+1,by omega,by go_num,QR.out,BR.out⟩,by simp[RowKit.intOf];omega⟩
     · obtain rfl:j=18:=by omega
       have QH:=Lib.hid qh;have BL:=Lib.hid bl
       clear qh bl
       go_wp2_with fail
       exact⟨⟨i+1,by omega,by go_num,QH.out,BL.out⟩,by simp[RowKit.intOf];omega⟩
  · obtain rfl : i =18:=by omega
    have z0:=cell_of_block (i:=0) qh (zDe (i:=0) rfl);have BL:=Lib.hid bl;clear qh bl
    go_wp2_with fail
    refine(qUy (i:=0) (s:=eT0) rfl rfl wr (HE.out.below BL.out)).mono ?_;rintro en w1 ⟨v,rfl,b1,r,rfl,LA⟩;obtain⟨W2,hW2⟩:∃W,W=w1.alloc (.cells #[.slice r.a r.n r.c,.slice r.b r.m r.d] 25):=⟨_,rfl⟩
    have b2:Below w1.heap.size w1 W2:=by rw[hW2];exact(Below.refl _ w1).alloc (Nat.le_refl _) _
    have q2:W2.heap[w1.heap.size]?=some (.cells #[.slice r.a r.n r.c,.slice r.b r.m r.d] 25 (0,0)):=by rw[hW2];exact qAf _ _
    have B2:=Lib.hid ((BL.out.trans (b1.mono BL.out.size)).trans (b2.mono (Nat.le_trans BL.out.size b1.size)));have Q2:=Lib.hid q2;have R2:=Lib.hid (LA.to b2)
    clear b1 b2 q2 LA BL z0
    go_upto_region 14 with fail
    rw[←hW2]
    generalize w1.heap.size=ob at Q2 ⊢
    clear hW2
    go_wp2_with fail
    go_loopw [7,8] (fun s7 s8 wr=> ∃k:Nat,k≤65∧s8=.int .i64 k∧wr.ownsRow W2.heap.size 25 2 s7 k (scsV (List.replicate k r))∧Below W2.heap.size W2 wr) (fun _ s8 _=>65-(RowKit.intOf s8).toNat)
    case atStart=>exact⟨0,by omega,rfl,World.ownsRow_nil _ _ _ _,Below.refl _ _⟩
    case round =>
     obtain⟨k,hk,rfl,how,hb⟩:=hrel;obtain⟨A7,c7,rfl,hc7,hm7⟩:=qAg how
     by_cases hk2:k<65
     · have tk:(k:Int)<65:=by omega
       have q3:=qAb Q2.out hb;have z0:=cell_of_block (i:=0) q3 rfl;have z1:=cell_of_block (i:=1) q3 rfl;have bn:=(Below.refl wr.heap.size wr).alloc (Nat.le_refl _) (.cells #[.slice r.a r.n r.c,.slice r.b r.m r.d] 25)
       have OW:=Lib.hid (own_below how bn);have HB:=Lib.hid (hb.trans (bn.mono hb.size));have HNW:=Lib.hid (qBo wr r.vs 25);have HONE:=Lib.hid r.one
       have HSZ:=Lib.hid (Nat.le_trans hb.size bn.size);clear q3 bn how hb hc7 hm7
       go_wp2_with (at_builtin;refine qAk rfl (.tmp 81) (.tmp 83) _ rfl W2.heap.size 25 sc _ 2 48 qKh si sz0 sz1 sz2 rfl (by omega) _ _ _ rfl OW.out _ (some ⟨wr.heap.size,0,none⟩) 1 1 r.vs rfl rfl HNW.out HONE.out (by unfold maxLen;omega) (by omega) HSZ.out ?_;intro v8 w8 hown8 hg8;have O8:=Lib.hid hown8;have B8:=Lib.hid (qBr OW.out HB.out HSZ.out (Nat.le_refl _) hg8);clear hown8 hg8)
       go_roundw
       case rel=>
        refine⟨k+1,by omega,by go_num,?_,B8.out⟩;rw[List.replicate_succ',qNh,show scsV [r]=r.vs by simp[scsV]];exact O8.out
       case measure=>simp[RowKit.intOf];omega
     · obtain rfl : k=65:=by omega
       have B3:=Lib.hid (B2.out.trans (hb.mono B2.out.size));obtain⟨Y,hY⟩:∃Y,Y=wr.alloc (.cells #[.int .i64 (-9223372036854775808),.int .i64 (-1),.int .i64 0,.int .i64 1,.int .i64 2,.int .i64 64,.int .i64 65,.int .i64 9223372036854775807] 3):=⟨_,rfl⟩
       have bY:Below wr.heap.size wr Y:=by rw[hY];exact(Below.refl _ _).alloc (Nat.le_refl _) _
       have qY:Y.heap[wr.heap.size]?=some (.cells kEV 3 (0,0)):=by rw[hY];exact qAf _ _
       have hbY:=hb.trans (bY.mono hb.size);have l65:Lay Y Y.heap.size A7 (scsV (List.replicate 65 r)):=Lay.of_own (own_below how bY) (Nat.le_refl _)
       have BY:=Lib.hid (B3.out.trans (bY.mono B3.out.size));have QY:=Lib.hid qY;have L65:=Lib.hid l65;have RY:=Lib.hid (R2.out.to hbY);have OY:=Lib.hid (qAb Q2.out hbY);have C65:=Lib.hid hc7;have M65:=Lib.hid hm7
       have h64c:(64:Int)≤c7:=by omega
       clear bY qY hb how hbY l65 hc7 hm7 B3 B2 Q2 R2
       go_upto_region 18 with fail
       rw[←hY]
       generalize wr.heap.size=eb at QY ⊢
       clear hY
       go_wp2_with fail
       go_loopw [10] (fun s10 wr=> ∃i:Nat,i≤8∧s10=.int .i64 i∧Below Y.heap.size Y wr) (fun s10 _=>8-(RowKit.intOf s10).toNat)
       case atStart=>exact⟨0,by omega,rfl,Below.refl _ _⟩
       case round=>
        obtain⟨i,hi,rfl,bi⟩:=hrel
        by_cases hi2:i<8
        · have ti : (i:Int)<8:=by omega
          have BI:=Lib.hid bi;clear bi
          go_wp2_with fail
          go_loopw [11] (fun s11 wr=> ∃j:Nat,j≤8∧s11=.int .i64 j∧Below Y.heap.size Y wr) (fun s11 _=>8-(RowKit.intOf s11).toNat)
          case atStart=>exact⟨0,by omega,rfl,BI.out⟩
          case round=>
           clear BI;obtain⟨j,hj,rfl,bj⟩:=hrel
           by_cases hj2:j<8
           · have tj:(j:Int)<8:=by omega
             obtain⟨x,hx,wx⟩:=zDf i hi2;obtain⟨y,hy,wy⟩:=zDf j hj2
             have HX:=Lib.hid hx;have HY:=Lib.hid hy;have BJ:=Lib.hid bj
             clear hx hy bj
             go_upto_region 24 with fail
             refine qAh [isV (.slice A7 65 c7),isV (.slice A7 64 c7),isV (.slice (some ⟨eb,0,none⟩) 8 8),isV (.int .i64 (i:Nat)),isV (.pointer (some ⟨eb,i,none⟩)),isV (.int .i64 x),isV (.slice (some ⟨eb,0,none⟩) 8 8),isV (.int .i64 (j:Nat)),isV (.pointer (some ⟨eb,j,none⟩)),isV (.int .i64 y),isV (.agg #[.int .i64 x,.int .i64 y]),isV (.agg #[.bool false,.int .i64 3,.string ⟨#[]⟩]),newS 1 #[.bool false,.int .i64 3,.string ⟨#[]⟩] 57,isV (.bool true),isV (.bool false)] (by kernel_rfl) (by kernel_rfl) ?_ ?_
             ·
               refine Rel.rb ?_;refine rf (fun ev wo E=>?_) ?_
               · have e98:ev (.tmp 98)=.slice A7 65 c7:=E.e 0;have ec:=E.const;have h0:=h64c;go_simp;exact rv
               refine Rel.rb ?_;refine Rel.rb ?_;refine rf (fun ev wo E=>?_) ?_
               · have e100:ev (.tmp 100)=.slice (some ⟨eb,0,none⟩) 8 8:=E.e 0;have e101:ev (.tmp 101)=.int .i64 (i:Nat):=E.e 1;have h0:=ti;have h1:=hi2;go_simp;exact rv
               refine rf (fun ev wo E=>?_) ?_
               · have e102:ev (.tmp 102)=.pointer (some ⟨eb,i,none⟩):=E.e 0;have hx0:=cell_of_block (i:=i) (qAb QY.out (BJ.out.trans (E.bel.mono BJ.out.size))) HX.out;go_simp;exact rv
               refine Rel.rb ?_;refine Rel.rb ?_;refine rf (fun ev wo E=>?_) ?_
               · have e104:ev (.tmp 104)=.slice (some ⟨eb,0,none⟩) 8 8:=E.e 0;have e105:ev (.tmp 105)=.int .i64 (j:Nat):=E.e 1;have h0:=tj;have h1:=hj2;go_simp;exact rv
               refine rf (fun ev wo E=>?_) ?_
               · have e106:ev (.tmp 106)=.pointer (some ⟨eb,j,none⟩):=E.e 0;have hx0:=cell_of_block (i:=j) (qAb QY.out (BJ.out.trans (E.bel.mono BJ.out.size))) HY.out;go_simp;exact rv
               refine rf (fun ev wo E=>?_) ?_
               · have e103:ev (.tmp 103)=.int .i64 x:=E.e 0;have e107:ev (.tmp 107)=.int .i64 y:=E.e 1;go_simp;exact rv
               refine rf (fun ev wo E=>?_) ?_
               · have ec:=E.const;go_simp;exact rv
               refine⟨qA9 (qAw.free rfl) (qK4 _ _ _) (fun ev wo E=>?_),?_⟩
               · have e109:ev (.tmp 109)=.agg #[.bool false,.int .i64 3,.string ⟨#[]⟩]:=E.e 0;go_simp;exact qBe (qLp _ _ _ _)
               refine rf (fun ev wo E=>?_) ?_
               · have e99:ev (.tmp 99)=.slice A7 64 c7:=E.e 0;have e108:ev (.tmp 108)=.agg #[.int .i64 x,.int .i64 y]:=E.e 1;have e110:(newS 1 #[.bool false,.int .i64 3,.string ⟨#[]⟩] 57) (ev (.tmp 110)) wo:=E.d 2 rfl rfl rfl;have ef:=E.func;obtain⟨gn,e0,qn⟩:=e110;have hbw:=BJ.out.trans (E.bel.mono BJ.out.size);go_simp
                 refine qAd ((qFc A7 64 c7 (List.replicate 64 (r,eT0)) x y (some ⟨gn,0,none⟩) 1 1 [(false,3,⟨#[]⟩)] wo (qGd.rep (by have:=C65.out;omega) M65.out (by
                   have h:=(L65.out.below hbw).more hbw.size;rw[List.replicate_succ',qNh] at h
                   exact h.pre) (RY.out.to hbw)) wx wy ⟨Nat.le_refl _,by decide,rfl,(qFp (xs:=rowV [(false,3,⟨#[]⟩)]) qn).ext,fun x hx=>by
                    simp at hx;subst hx;exact⟨Nat.zero_le _,by decide,by decide⟩⟩ (HE.out.below (BY.out.trans (hbw.mono BY.out.size)))).mono ?_)
                 rintro e w' ⟨rfl,hb⟩;exact⟨_,rfl,hb,rfl⟩
               refine rf (fun ev wo E=>?_) ?_
               · have e111:ev (.tmp 111)=.bool true:=E.e 0;go_simp;exact rv
               trivial
             · intro wz bz
               (iterate 12 rintro _ rfl)
               intro v110 h110
               rintro _ rfl _ rfl;have BR:=Lib.hid (BJ.out.trans (bz.mono BJ.out.size));clear bz BJ;simp only[qAq];go_simp
               go_wp2_with fail
               refine⟨?_,by simp[RowKit.intOf];omega⟩
               (repeat apply Exists.intro);exact⟨⟨j+1,by omega,by go_num,BR.out⟩,rfl⟩
           · obtain rfl:j=8:=by omega
             have BJ:=Lib.hid bj;clear bj
             go_wp2_with fail
             exact⟨⟨i+1,by omega,by go_num,BJ.out⟩,by simp[RowKit.intOf];omega⟩
        · obtain rfl:i=8:=by omega
          have B4:=Lib.hid (BY.out.trans (bi.mono BY.out.size));have L4:=Lib.hid ((L65.out.below bi).more bi.size);have R4:=Lib.hid (RY.out.to bi);have O4:=Lib.hid (qAb OY.out bi)
          clear bi L65 RY OY QY BY
          go_wp2_with fail
          refine(qDn wr (HE.out.below B4.out)).mono ?_;rintro en w5 ⟨rfl,b5⟩
          have B5:=Lib.hid (B4.out.trans (b5.mono B4.out.size));have L5:=Lib.hid ((L4.out.below b5).more b5.size);have R5:=Lib.hid (R4.out.to b5);have O5:=Lib.hid (qAb O4.out b5)
          clear b5 L4 R4 O4 B4
          have l64:Lay w5 w5.heap.size A7 (scsV (List.replicate 64 r)):=by
           have h:=L5.out;rw[List.replicate_succ',qNh] at h;exact h.pre
          go_wp2_with fail
          have hch:=qFb w5 A7 64 c7 (List.replicate 64 r) (List.replicate 64 eT0) (by omega) (by simp) (qDb.rep l64 R5.out.lay) (fun s hs=>by rw[List.eq_of_mem_replicate hs];exact zDg) (HE.out.below B5.out);rw[qZm] at hch;refine hch.mono ?_;clear hch l64;rintro en w6 ⟨rfl,b6⟩
          have B6:=Lib.hid (B5.out.trans (b6.mono B5.out.size));have L6:=Lib.hid ((L5.out.below b6).more b6.size);have R6:=Lib.hid (R5.out.to b6);have O6:=Lib.hid (qAb O5.out b6)
          clear b6 L5 R5 O5 B5
          go_wp2_with fail
          have hch:=qFb w6 A7 65 c7 (List.replicate 65 r) (List.replicate 65 eT0) (by omega) (by simp) (qDb.rep L6.out R6.out.lay) (fun s hs=>by rw[List.eq_of_mem_replicate hs];exact zDg) (HE.out.below B6.out);rw[qZx] at hch;refine hch.mono ?_;clear hch;rintro en w7 ⟨rfl,b7⟩
          have B7:=Lib.hid (B6.out.trans (b7.mono B6.out.size));have R7:=Lib.hid (R6.out.to b7);have o7:=qAb O6.out b7
          have O7:=Lib.hid o7;have z0:=cell_of_block (i:=0) o7 rfl;have z1:=cell_of_block (i:=1) o7 rfl;clear b7 L6 R6 O6 B6 o7
          go_wp2_with fail
          refine(qJj none 0 0 [] none 0 0 [] r.a r.n r.c eT0.1 r.b r.m r.d eT0.2 none 0 0 [] w7 (ScC.nil w7).arg R7.out.arg (qIw.nil w7) (HE.out.below B7.out)).mono ?_;rintro en w8 ⟨rfl,b8⟩
          have B8:=Lib.hid (B7.out.trans (b8.mono B7.out.size));have R8:=Lib.hid (R7.out.to b8);have o8:=qAb O7.out b8
          clear z0 z1;have z0:=cell_of_block (i:=0) o8 rfl;have z1:=cell_of_block (i:=1) o8 rfl;clear b8 R7 O7 B7 o8
          go_wp2_with fail
          have bn:=(Below.refl w8.heap.size w8).alloc (Nat.le_refl _) (.cells #[.slice r.a r.n r.c,.slice r.b r.m r.d,.slice none 0 0,.slice none 0 0] 25)
          refine(qFc (some ⟨w8.heap.size,0,none⟩) 2 2 [(r,eT0),(⟨none,0,0,none,0,0⟩,([],[]))] 1 1 none 0 0 [] _ (qGd.blk (qAf w8 _) rfl (by decide) (fun x hx=>by
           rcases List.mem_cons.1 hx with rfl|hx
           · exact R8.out.to bn
           · rcases List.mem_cons.1 hx with rfl|hx
             · exact ScC.nil _
             · cases hx)) ⟨by decide,by decide⟩ ⟨by decide,by decide⟩ (qIw.nil _) ((HE.out.below B8.out).below bn)).mono ?_
          rintro en w9 ⟨rfl,b9⟩;have B9:=Lib.hid (B8.out.trans ((bn.trans (b9.mono bn.size)).mono B8.out.size));clear b9 R8 bn z0 z1 B8
          go_wp2_with fail
          refine(qFc none 0 0 [] 0 0 none 0 0 [] w9 (qGd.nil _) ⟨by decide,by decide⟩ ⟨by decide,by decide⟩ (qIw.nil _) (HE.out.below B9.out)).mono ?_;rintro en wC ⟨rfl,bC⟩;have BC:=Lib.hid (B9.out.trans (bC.mono B9.out.size));clear bC
          go_wp2_with fail
          go_ret
          exact⟨rfl,BC.out⟩
end Go.Proofs.YtikpmmipopmjaaaGreatDoor
