/- Evolve's laws: EvolveSteps, walked. -/
import Derived.Test.YtikpmmipopmjaaaGreatDoorZQap
import Derived.Test.YtikpmmipopmjaaaGreatDoorZQaj
import Derived.Test.YtikpmmipopmjaaaGreatDoorZQaz
import Derived.Test.YtikpmmipopmjaaaGreatDoorZQu
import Derived.Test.YtikpmmipopmjaaaGreatDoorZQah
set_option linter.unusedVariables false
set_option linter.unusedSimpArgs false
namespace Go.Ms
open Go.RowKit Go.Lib
structure StSt (T:TypeId) (g7 g8:Nat) (ra rb rx ry:SRef) (Ar Aw:Option Addr) (sa sb:Sc) (r:List Cl) (w W:World):Prop where
  b0:W.heap[w.heap.size]?=some (.cells #[.slice ra.a ra.n ra.c,.slice ra.b ra.m ra.d] T (0,0))
  b1:W.heap[w.heap.size+1]?=some (.cells #[.slice rb.a rb.n rb.c,.slice rb.b rb.m rb.d] T (0,0))
  b7:W.heap[g7]?=some (.cells #[.slice rx.a rx.n rx.c,.slice rx.b rx.m rx.d] T (0,0))
  b8:W.heap[g8]?=some (.cells #[.slice ry.a ry.n ry.c,.slice ry.b ry.m ry.d] T (0,0))
  la:qBf W W.heap.size ra sa
  lb:qBf W W.heap.size rb sb
  lx:qBf W W.heap.size rx sa
  ly:qBf W W.heap.size ry sb
  lr:Lay W W.heap.size Ar (rowV r)
  lw:Lay W W.heap.size Aw (rowV r)
  bel:Below w.heap.size w W
theorem StSt.to {T:TypeId} {g7 g8:Nat} {ra rb rx ry:SRef} {Ar Aw:Option Addr} {sa sb:Sc} {r:List Cl} {w W W':World} (h:StSt T g7 g8 ra rb rx ry Ar Aw sa sb r w W) (hb:Below W.heap.size W W'):StSt T g7 g8 ra rb rx ry Ar Aw sa sb r w W':=
  ⟨qAb h.b0 hb,qAb h.b1 hb,qAb h.b7 hb,qAb h.b8 hb,h.la.to hb,h.lb.to hb,h.lx.to hb,h.ly.to hb,(h.lr.below hb).more hb.size,(h.lw.below hb).more hb.size,h.bel.trans (hb.mono h.bel.size)⟩
end Go.Ms
namespace Go.Proofs.YtikpmmipopmjaaaGreatDoor
open Go.RowKit Go.Ms Go.Lib Go.Shelf Go.Rel
set_option maxRecDepth 100000 in
set_option maxHeartbeats 2000000 in
theorem qJj (A:Option Addr) (n c:Nat) (cs:List Co) (B:Option Addr) (m d:Nat) (ks:List Int) (A2:Option Addr) (n2 c2:Nat) (ds:List Co) (B2:Option Addr) (m2 d2:Nat) (ls:List Int) (D:Option Addr) (q qc:Nat) (l:List Cl) (w:World)
    (h1:qJ0 w A n c cs B m d ks) (h2:qJ0 w A2 n2 c2 ds B2 m2 d2 ls) (h3:qIw w D q qc l) (hE:Env w) :
    Calls Tryz.prog 3 #[.agg #[.slice A n c,.slice B m d],.agg #[.slice A2 n2 c2,.slice B2 m2 d2],.slice D q qc] w fun e w'=>e=.returned (.bool true)∧Below w.heap.size w w':=by
 have hf1:=fun (W:World) (hb:Below w.heap.size w W)=>qQ3 (h1.to hb)
 have hf2:=fun (W:World) (hb:Below w.heap.size w W)=>qQ3 (h2.to hb)
 have hf3:=fun (W:World) (hb:Below w.heap.size w W)=>qL5 (h3.to hb)
 have z1:=qPs (ks:=ks) h1.ok;have z2:=qPs (ks:=ls) h2.ok;obtain⟨z3,z4⟩:=qRs h3.ok
 have z5:(qKl l).length≤40:=by rw[qK6];omega
 generalize qHo cs ks=sa at hf1 z1
 generalize qHo ds ls=sb at hf2 z2
 generalize qKl l=r at hf3 z3 z4 z5
 obtain⟨X,hX⟩:∃X,X=(w.alloc (.cells #[.slice A n c,.slice B m d] 25)).alloc (.cells #[.slice A2 n2 c2,.slice B2 m2 d2] 25):=⟨_,rfl⟩
 have tX:Bx2 (.cells #[.slice A n c,.slice B m d] 25 (0,0)) (.cells #[.slice A2 n2 c2,.slice B2 m2 d2] 25 (0,0)) w X:=by rw[hX];exact Bx2.start _ _ _ _ w
 have T0:=Lib.hid tX;have HF1:=Lib.hid hf1;have HF2:=Lib.hid hf2;have HF3:=Lib.hid hf3;have Z1:=Lib.hid z1;have Z2:=Lib.hid z2;have Z3:=Lib.hid z3;have Z4:=Lib.hid z4;have Z5:=Lib.hid z5;have HE:=Lib.hid hE
 clear tX hf1 hf2 hf3 z1 z2 z3 z4 z5 hE h1 h2 h3
 go_enter Tryz.func3,Tryz.ntmps3
 go_upto_region 1 with fail
 rw[←hX];clear hX;refine qDy (l:=[_,_,_,_,_,_]) (o:=_) (t:=[_,_]) [isV (.agg #[.slice A n c,.slice B m d]),qQi sa,isV (.agg #[.slice A2 n2 c2,.slice B2 m2 d2]),qQi sb,isV (.slice D q qc),qVp r] (by kernel_rfl) (by kernel_rfl) (by kernel_rfl) (by kernel_rfl) (by kernel_rfl) (by kernel_rfl) (by kernel_rfl) ?_ ?_
 ·
   refine rf (fun ev wo E=>?_) ?_
   · have e3:ev (.tmp 3)=.pointer (some ⟨w.heap.size,0,none⟩):=(E.base 3 rfl).trans rfl;have hx0:=cell_of_block (i:=0) (qAb T0.out.b0 E.bel) rfl;have hx1:=cell_of_block (i:=1) (qAb T0.out.b0 E.bel) rfl;go_simp;exact rv
   refine⟨qA9 (qAw.free rfl) (qEz _) (fun ev wo E=>?_),?_⟩
   · have e14:ev (.tmp 14)=.agg #[.slice A n c,.slice B m d]:=E.e 0;have ef:=E.func;have hbw:=T0.out.bel.trans (E.bel.mono T0.out.bel.size);go_simp;exact qAd (HF1.out wo hbw)
   refine rf (fun ev wo E=>?_) ?_
   · have e4:ev (.tmp 4)=.pointer (some ⟨w.heap.size+1,0,none⟩):=(E.base 4 rfl).trans rfl;have hx0:=cell_of_block (i:=0) (qAb T0.out.b1 E.bel) rfl;have hx1:=cell_of_block (i:=1) (qAb T0.out.b1 E.bel) rfl;go_simp;exact rv
   refine⟨qA9 (qAw.free rfl) (qEz _) (fun ev wo E=>?_),?_⟩
   · have e16:ev (.tmp 16)=.agg #[.slice A2 n2 c2,.slice B2 m2 d2]:=E.e 0;have ef:=E.func;have hbw:=T0.out.bel.trans (E.bel.mono T0.out.bel.size);go_simp;exact qAd (HF2.out wo hbw)
   refine Rel.rb ?_;refine⟨qA9 (qAw.free rfl) (qJf _) (fun ev wo E=>?_),?_⟩
   · have e18:ev (.tmp 18)=.slice D q qc:=E.e 0;have ef:=E.func;have hbw:=T0.out.bel.trans (E.bel.mono T0.out.bel.size);go_simp;exact qAd (HF3.out wo hbw)
   trivial
 · intro wz bz
   rintro _ rfl
   intro v15 h15
   rintro _ rfl
   intro v17 h17
   rintro _ rfl
   intro v19 h19
   have T1:=Lib.hid (T0.out.step bz);clear bz;have e15:=Classical.choose_spec h15
   generalize Classical.choose h15=ra at e15
   have e17:=Classical.choose_spec h17
   generalize Classical.choose h17=rb at e17
   have e19:=Classical.choose_spec h19
   generalize Classical.choose h19=Ar at e19
   have e19b:=Classical.choose_spec e19
   generalize Classical.choose e19=cr at e19b
   have q15:=e15.1;have q17:=e17.1;have q19:=e19b.1
   have LA:=Lib.hid e15.2;have LB:=Lib.hid e17.2;have LR:=Lib.hid e19b.2
   subst q15;subst q17;subst q19;clear h15 h17 h19 e15 e17 e19 e19b;have y0:=cell_of_block (i:=0) T1.out.b0 rfl;have y1:=cell_of_block (i:=1) T1.out.b0 rfl;have y2:=cell_of_block (i:=0) T1.out.b1 rfl;have y3:=cell_of_block (i:=1) T1.out.b1 rfl;have f0:=qAa (i:=0) T1.out.b0;have f1:=qAa (i:=1) T1.out.b0;have f2:=qAa (i:=0) T1.out.b1;have f3:=qAa (i:=1) T1.out.b1;simp only[qAq,qGp];unfold Oper.wp;go_simp
   go_upto_region 2 with fail
   obtain⟨Y,hY⟩:∃Y,Y=(((wz.setCell ⟨w.heap.size,0,none⟩ (.slice ra.a ra.n ra.c)).setCell ⟨w.heap.size,1,none⟩ (.slice ra.b ra.m ra.d)).setCell ⟨w.heap.size+1,0,none⟩ (.slice rb.a rb.n rb.c)).setCell ⟨w.heap.size+1,1,none⟩ (.slice rb.b rb.m rb.d):=⟨_,rfl⟩
   have zY:Y.heap.size=wz.heap.size:=by rw[hY];simp only[World.size_setCell]
   have bb1:=qAj (qAj T1.out.b1 (by omega:w.heap.size+1≠w.heap.size) (i:=0) (.slice ra.a ra.n ra.c)) (by omega:w.heap.size+1≠w.heap.size) (i:=1) (.slice ra.b ra.m ra.d)
   have q0:Y.heap[w.heap.size]?=some (.cells #[.slice ra.a ra.n ra.c,.slice ra.b ra.m ra.d] 25 (0,0)):=by
    rw[hY];exact qAj (qAj (qIm T1.out.b0 _ _) (by omega) _) (by omega) _
   have q1:Y.heap[w.heap.size+1]?=some (.cells #[.slice rb.a rb.n rb.c,.slice rb.b rb.m rb.d] 25 (0,0)):=by
    rw[hY];exact qIm bb1 _ _
   have bY:Below w.heap.size w Y:=by
    rw[hY];exact(((T1.out.bel.setCell (p:=⟨w.heap.size,0,none⟩) (Nat.le_refl _) _).setCell (p:=⟨w.heap.size,1,none⟩) (Nat.le_refl _) _).setCell (p:=⟨w.heap.size+1,0,none⟩) (by simp only;omega) _).setCell (p:=⟨w.heap.size+1,1,none⟩) (by simp only;omega) _
   have lA:qBf Y Y.heap.size ra sa:=by rw[zY,hY];exact(LA.out.box2 T1.out.b0 _ _ _ _).box2 bb1 _ _ _ _
   have lB:qBf Y Y.heap.size rb sb:=by rw[zY,hY];exact(LB.out.box2 T1.out.b0 _ _ _ _).box2 bb1 _ _ _ _
   have lR:Lay Y Y.heap.size Ar (rowV r):=by rw[zY,hY];exact(LR.out.box2 T1.out.b0 (qC8 _) _ _ _ _).box2 bb1 (qC8 _) _ _ _ _
   have z2:w.heap.size+2≤Y.heap.size:=by have:=(Array.getElem?_eq_some_iff.1 q1).1;omega
   rw[←hY]
   have Q0:=Lib.hid q0;have Q1:=Lib.hid q1;have BY:=Lib.hid bY;have LA2:=Lib.hid lA;have LB2:=Lib.hid lB;have LR2:=Lib.hid lR;have ZY2:=Lib.hid z2
   clear hY zY bb1 q0 q1 bY lA lB lR z2 LA LB LR T0 T1 y0 y1 y2 y3 f0 f1 f2 f3 HF1 HF2 HF3
   refine qGc (l:=[_,_,_,_,_,_,_,_]) (o:=_) (t:=[_,_]) (kA:=6) (kB:=7) (cA:=(.cells #[.slice none 0 0,.slice none 0 0] 25)) (cB:=(.cells #[.slice none 0 0,.slice none 0 0] 25)) [isV (.agg #[.slice ra.a ra.n ra.c,.slice ra.b ra.m ra.d]),qQi sa,isV (.agg #[.slice rb.a rb.n rb.c,.slice rb.b rb.m rb.d]),qQi sb,isV (.slice Ar r.length cr),qVp r,qVk Y.heap.size (.cells #[.slice none 0 0,.slice none 0 0] 25 (0,0)),qVk Y.heap.size (.cells #[.slice none 0 0,.slice none 0 0] 25 (0,0))] (by kernel_rfl) (by kernel_rfl) (by kernel_rfl) (by kernel_rfl) (by kernel_rfl) (by kernel_rfl) rfl rfl (by decide) rfl rfl (fun _ _=>by kernel_rfl) (fun _ _=>by kernel_rfl) rfl rfl (by kernel_rfl) ?_ ?_
   ·
     refine rf (fun ev wo E=>?_) ?_
     · have e3:ev (.tmp 3)=.pointer (some ⟨w.heap.size,0,none⟩):=(E.base 3 rfl).trans rfl;have hx0:=cell_of_block (i:=0) (qAb Q0.out E.bel) rfl;have hx1:=cell_of_block (i:=1) (qAb Q0.out E.bel) rfl;go_simp;exact rv
     refine⟨qA9 (qAw.free rfl) (qEz _) (fun ev wo E=>?_),?_⟩
     · have e20:ev (.tmp 20)=.agg #[.slice ra.a ra.n ra.c,.slice ra.b ra.m ra.d]:=E.e 0;have ef:=E.func;go_simp;exact qAd (qO9 (LA2.out.to E.bel))
     refine rf (fun ev wo E=>?_) ?_
     · have e4:ev (.tmp 4)=.pointer (some ⟨w.heap.size+1,0,none⟩):=(E.base 4 rfl).trans rfl;have hx0:=cell_of_block (i:=0) (qAb Q1.out E.bel) rfl;have hx1:=cell_of_block (i:=1) (qAb Q1.out E.bel) rfl;go_simp;exact rv
     refine⟨qA9 (qAw.free rfl) (qEz _) (fun ev wo E=>?_),?_⟩
     · have e22:ev (.tmp 22)=.agg #[.slice rb.a rb.n rb.c,.slice rb.b rb.m rb.d]:=E.e 0;have ef:=E.func;go_simp;exact qAd (qO9 (LB2.out.to E.bel))
     refine Rel.rb ?_;refine⟨qA9 (qAw.free rfl) (qJf _) (fun ev wo E=>?_),?_⟩
     · have e24:ev (.tmp 24)=.slice Ar r.length cr:=E.e 0;have ef:=E.func;go_simp;exact qAd (qI9 (by have:=Z5.out;omega) ((LR2.out.below E.bel).more E.bel.size))
     refine⟨qA9 (qAw.free rfl) (qFn _ _) (fun ev wo E=>?_),?_⟩
     · go_simp;exact qBe ⟨(Below.refl _ _).alloc (Nat.le_refl _) _,_,rfl,E.bel.size,qAf _ _⟩
     refine⟨qA9 (qAw.free rfl) (qFn _ _) (fun ev wo E=>?_),?_⟩
     · go_simp;exact qBe ⟨(Below.refl _ _).alloc (Nat.le_refl _) _,_,rfl,E.bel.size,qAf _ _⟩
     trivial
   · intro wz bz
     rintro _ rfl
     intro v21 h21
     rintro _ rfl
     intro v23 h23
     rintro _ rfl
     intro v25 h25
     intro v7 h7
     intro v8 h8
     intro hne
     have e21:=Classical.choose_spec h21
     generalize Classical.choose h21=rx at e21
     have e23:=Classical.choose_spec h23
     generalize Classical.choose h23=ry at e23
     have e25:=Classical.choose_spec h25
     generalize Classical.choose h25=Aw at e25
     have e25b:=Classical.choose_spec e25
     generalize Classical.choose e25=cw at e25b
     have e7:=Classical.choose_spec h7
     generalize Classical.choose h7=g7 at e7
     have e8:=Classical.choose_spec h8
     generalize Classical.choose h8=g8 at e8
     have q21:=e21.1;have q23:=e23.1;have q25:=e25b.1;have q7:=e7.1;have q8:=e8.1
     have LX:=Lib.hid e21.2;have LY:=Lib.hid e23.2;have LW:=Lib.hid e25b.2;have G7:=Lib.hid e7.2;have G8:=Lib.hid e8.2
     subst q21;subst q23;subst q25;subst q7;subst q8
     have n78:g7≠g8:=fun e=>hne g7 (by go_simp) (by rw[e];go_simp)
     clear h21 h23 h25 h7 h8 e21 e23 e25 e25b e7 e8 hne;have y0:=cell_of_block (i:=0) G7.out.2 rfl;have y1:=cell_of_block (i:=1) G7.out.2 rfl;have y2:=cell_of_block (i:=0) G8.out.2 rfl;have y3:=cell_of_block (i:=1) G8.out.2 rfl;have f0:=qAa (i:=0) G7.out.2;have f1:=qAa (i:=1) G7.out.2;have f2:=qAa (i:=0) G8.out.2;have f3:=qAa (i:=1) G8.out.2
     have n87:g8≠g7:=fun e=>n78 e.symm
     simp only[qAq,qGp];unfold Oper.wp;go_simp
     go_upto_region 3 with fail
     obtain⟨Z,hZ⟩:∃Z,Z=(((wz.setCell ⟨g7,0,none⟩ (.slice rx.a rx.n rx.c)).setCell ⟨g7,1,none⟩ (.slice rx.b rx.m rx.d)).setCell ⟨g8,0,none⟩ (.slice ry.a ry.n ry.c)).setCell ⟨g8,1,none⟩ (.slice ry.b ry.m ry.d):=⟨_,rfl⟩
     have zZ:Z.heap.size=wz.heap.size:=by rw[hZ];simp only[World.size_setCell]
     have g7l:=G7.out.1;have g8l:=G8.out.1;have zy2:=ZY2.out;have bb8:=qAj (qAj G8.out.2 n87 (i:=0) (.slice rx.a rx.n rx.c)) n87 (i:=1) (.slice rx.b rx.m rx.d)
     have st:StSt 25 g7 g8 ra rb rx ry Ar Aw sa sb r w Z:=by
      refine⟨?_,?_,?_,?_,?_,?_,?_,?_,?_,?_,?_⟩
      · rw[hZ];exact qAj (qAj (qAj (qAj (qAb Q0.out bz) (by omega) _) (by omega) _) (by omega) _) (by omega) _
      · rw[hZ];exact qAj (qAj (qAj (qAj (qAb Q1.out bz) (by omega) _) (by omega) _) (by omega) _) (by omega) _
      · rw[hZ];exact qAj (qAj (qIm G7.out.2 _ _) n78 _) n78 _
      · rw[hZ];exact qIm bb8 _ _
      · rw[zZ,hZ];exact((LA2.out.to bz).box2 G7.out.2 _ _ _ _).box2 bb8 _ _ _ _
      · rw[zZ,hZ];exact((LB2.out.to bz).box2 G7.out.2 _ _ _ _).box2 bb8 _ _ _ _
      · rw[zZ,hZ];exact(LX.out.box2 G7.out.2 _ _ _ _).box2 bb8 _ _ _ _
      · rw[zZ,hZ];exact(LY.out.box2 G7.out.2 _ _ _ _).box2 bb8 _ _ _ _
      · rw[zZ,hZ];exact(((LR2.out.below bz).more bz.size).box2 G7.out.2 (qC8 _) _ _ _ _).box2 bb8 (qC8 _) _ _ _ _
      · rw[zZ,hZ];exact(LW.out.box2 G7.out.2 (qC8 _) _ _ _ _).box2 bb8 (qC8 _) _ _ _ _
      · rw[hZ];exact((((BY.out.trans (bz.mono BY.out.size)).setCell (p:=⟨g7,0,none⟩) (by simp only;omega) _).setCell (p:=⟨g7,1,none⟩) (by simp only;omega) _).setCell (p:=⟨g8,0,none⟩) (by simp only;omega) _).setCell (p:=⟨g8,1,none⟩) (by simp only;omega) _
     rw[←hZ];have ST:=Lib.hid st;clear hZ zZ st bb8 bz Q0 Q1 BY LA2 LB2 LR2 LX LY LW G7 G8 y0 y1 y2 y3 f0 f1 f2 f3 n78 n87 g7l g8l zy2 ZY2;have rl:=Z5.out
     have rw0:∀(W:World) (A0:Option Addr),Lay W W.heap.size A0 (rowV r)→qJg W A0 r.length r:=fun _ _ h=>⟨rfl,by omega,h,Z4.out⟩
     have RW:=Lib.hid rw0;clear rw0;have y0:=cell_of_block (i:=0) ST.out.b0 rfl;have y1:=cell_of_block (i:=1) ST.out.b0 rfl;have y2:=cell_of_block (i:=0) ST.out.b1 rfl;have y3:=cell_of_block (i:=1) ST.out.b1 rfl
     go_wp2_with fail
     have hmv:=qJq ra rb sa sb Ar r.length cr r Z ST.out.la ST.out.lb Z1.out.sz Z2.out.sz (RW.out _ _ ST.out.lr) (HE.out.below ST.out.bel);obtain⟨M,hM⟩:∃M,(qEb sa sb r).1=M:=⟨_,rfl⟩;obtain⟨F,hF⟩:∃F,(qEb sa sb r).2=F:=⟨_,rfl⟩
     have ml:M.length≤100000:=by
      have h1:=qGf sa.1 sb.1 r;have h2:=ST.out.lb.n;have h3:=ST.out.lb.nn;rw[←hM];unfold qEb
      split
      · split
        · rw[h1];omega
        · simp
      · simp
     rw[hM,hF] at hmv;refine hmv.mono ?_;clear hmv y0 y1 y2 y3;rintro en w3 ⟨v,rfl,ho3,b3⟩;obtain⟨C3,c3,rfl,-,-⟩:=qAg ho3
     have S3:=Lib.hid (ST.out.to b3);have O3:=Lib.hid ho3;have B3:=Lib.hid b3
     clear ho3 b3;have y0:=cell_of_block (i:=0) S3.out.b7 rfl;have y1:=cell_of_block (i:=1) S3.out.b7 rfl;have y2:=cell_of_block (i:=0) S3.out.b8 rfl;have y3:=cell_of_block (i:=1) S3.out.b8 rfl
     go_wp2_with fail
     have hmv:=qUz rx ry sa sb Aw r.length cw r w3 S3.out.lx S3.out.ly Z1.out Z2.out (RW.out _ _ S3.out.lw) Z3.out;rw[hM,hF] at hmv;refine hmv.mono ?_;clear hmv y0 y1 y2 y3 hM hF;rintro en w4 ⟨v,rfl,ho4,b4⟩;obtain⟨C4,c4,rfl,-,-⟩:=qAg ho4
     have S4:=Lib.hid (S3.out.to b4);have O4:=Lib.hid ho4;have O34:=Lib.hid (own_below O3.out b4);have B4:=Lib.hid (B3.out.trans (b4.mono B3.out.size))
     clear ho4 b4 O3;obtain⟨K,hK⟩:∃K,qBh (sa.1,sa.2) (sb.1,sb.2)=K:=⟨_,rfl⟩
     have hst:=fun (W:World) (hb:Below w4.heap.size w4 W)=>qFs ra.a ra.b ra.n ra.c ra.m ra.d sa.1 sa.2 rb.a rb.b rb.n rb.c rb.m rb.d sb.1 sb.2 W (S4.out.to hb).la.n (S4.out.to hb).la.m (S4.out.to hb).la.nn (S4.out.to hb).la.mm (S4.out.to hb).la.la (S4.out.to hb).la.lb Z1.out.sz (S4.out.to hb).lb.n (S4.out.to hb).lb.m (S4.out.to hb).lb.nn (S4.out.to hb).lb.mm (S4.out.to hb).lb.la (S4.out.to hb).lb.lb Z2.out.sz (HE.out.below (S4.out.to hb).bel)
     have hrs:=fun (W:World) (hb:Below w4.heap.size w4 W)=>qO3 rx.a rx.b rx.n rx.c rx.m rx.d sa.1 sa.2 ry.a ry.b ry.n ry.c ry.m ry.d sb.1 sb.2 W (S4.out.to hb).lx.n (S4.out.to hb).lx.m (S4.out.to hb).lx.nn (S4.out.to hb).lx.mm (S4.out.to hb).lx.la (S4.out.to hb).lx.lb Z1.out (S4.out.to hb).ly.n (S4.out.to hb).ly.m (S4.out.to hb).ly.nn (S4.out.to hb).ly.mm (S4.out.to hb).ly.la (S4.out.to hb).ly.lb Z2.out
     rw[hK] at hst hrs
     have heq:=fun (W:World) (hb:Below w4.heap.size w4 W)=>qDq W C3 C4 M.length c3 M.length c4 M M (by unfold maxLen;omega) (by unfold maxLen;omega) rfl rfl (Lay.of_own (own_below O34.out hb) (Nat.le_refl _)) (Lay.of_own (own_below O4.out hb) (Nat.le_refl _))
     rw[decide_eq_true rfl] at heq
     have HST:=Lib.hid hst;have HRS:=Lib.hid hrs;have HEQ:=Lib.hid heq
     clear hst hrs heq hK
     go_upto_region 5 with fail
     refine qAh [isV (.agg #[.slice ra.a ra.n ra.c,.slice ra.b ra.m ra.d]),isV (.agg #[.slice rb.a rb.n rb.c,.slice rb.b rb.m rb.d]),isV (.int .i64 K),isV (.agg #[.slice rx.a rx.n rx.c,.slice rx.b rx.m rx.d]),isV (.agg #[.slice ry.a ry.n ry.c,.slice ry.b ry.m ry.d]),isV (.int .i64 K),isV (.bool false),isV (.bool false),isV (.int .i64 F),isV (.int .i64 F),isV (.bool false),isV (.bool false),isV (.bool false),isV (.slice C3 M.length c3),isV (.slice C4 M.length c4),isV (.bool true),isV (.bool false),isV (.bool false)] (by kernel_rfl) (by kernel_rfl) ?_ ?_
     ·
       refine rf (fun ev wo E=>?_) ?_
       · have e3:ev (.tmp 3)=.pointer (some ⟨w.heap.size,0,none⟩):=(E.base 3 rfl).trans rfl;have hx0:=cell_of_block (i:=0) (qAb S4.out.b0 E.bel) rfl;have hx1:=cell_of_block (i:=1) (qAb S4.out.b0 E.bel) rfl;go_simp;exact rv
       refine rf (fun ev wo E=>?_) ?_
       · have e4:ev (.tmp 4)=.pointer (some ⟨w.heap.size+1,0,none⟩):=(E.base 4 rfl).trans rfl;have hx0:=cell_of_block (i:=0) (qAb S4.out.b1 E.bel) rfl;have hx1:=cell_of_block (i:=1) (qAb S4.out.b1 E.bel) rfl;go_simp;exact rv
       refine rf (fun ev wo E=>?_) ?_
       · have e40:ev (.tmp 40)=.agg #[.slice ra.a ra.n ra.c,.slice ra.b ra.m ra.d]:=E.e 0;have e41:ev (.tmp 41)=.agg #[.slice rb.a rb.n rb.c,.slice rb.b rb.m rb.d]:=E.e 1;have ef:=E.func;go_simp;refine qAd ((HST.out wo E.bel).mono ?_);rintro e w' ⟨rfl,hb⟩;exact⟨_,rfl,hb,rfl⟩
       refine rf (fun ev wo E=>?_) ?_
       · have e7:ev (.tmp 7)=.pointer (some ⟨g7,0,none⟩):=(E.base 7 rfl).trans rfl;have hx0:=cell_of_block (i:=0) (qAb S4.out.b7 E.bel) rfl;have hx1:=cell_of_block (i:=1) (qAb S4.out.b7 E.bel) rfl;go_simp;exact rv
       refine rf (fun ev wo E=>?_) ?_
       · have e8:ev (.tmp 8)=.pointer (some ⟨g8,0,none⟩):=(E.base 8 rfl).trans rfl;have hx0:=cell_of_block (i:=0) (qAb S4.out.b8 E.bel) rfl;have hx1:=cell_of_block (i:=1) (qAb S4.out.b8 E.bel) rfl;go_simp;exact rv
       refine rf (fun ev wo E=>?_) ?_
       · have e43:ev (.tmp 43)=.agg #[.slice rx.a rx.n rx.c,.slice rx.b rx.m rx.d]:=E.e 0;have e44:ev (.tmp 44)=.agg #[.slice ry.a ry.n ry.c,.slice ry.b ry.m ry.d]:=E.e 1;have ef:=E.func;go_simp;refine qAd ((HRS.out wo E.bel).mono ?_);rintro e w' ⟨rfl,hb⟩;exact⟨_,rfl,hb,rfl⟩
       refine rf (fun ev wo E=>?_) ?_
       · have e42:ev (.tmp 42)=.int .i64 K:=E.e 0;have e45:ev (.tmp 45)=.int .i64 K:=E.e 1;go_simp;exact rv
       refine rc 0 ?_;refine rbq 0 ?_;refine rbq 0 ?_;refine rq 2 (fun ev wo E=>?_) ?_
       · have e48:ev (.tmp 48)=.int .i64 F:=E.e 0;have e49:ev (.tmp 49)=.int .i64 F:=E.e 1;go_simp;exact rv
       refine rf (fun ev wo E=>?_) ?_
       · have e47:ev (.tmp 47)=.bool false:=E.e 0;have e50:ev (.tmp 50)=.bool false:=E.e 1;have ec:=E.const;go_simp;exact rv
       refine rc 0 ?_;refine rbq 0 ?_;refine rbq 0 ?_;refine rq 2 (fun ev wo E=>?_) ?_
       · have e53:ev (.tmp 53)=.slice C3 M.length c3:=E.e 0;have e54:ev (.tmp 54)=.slice C4 M.length c4:=E.e 1;have ef:=E.func;go_simp;refine qAd ((HEQ.out wo E.bel).mono ?_);rintro e w' ⟨rfl,hb⟩;exact⟨_,rfl,hb,rfl⟩
       refine rq 1 (fun ev wo E=>?_) ?_
       · have e55:ev (.tmp 55)=.bool true:=E.e 0;go_simp;exact rv
       refine rf (fun ev wo E=>?_) ?_
       · have e52:ev (.tmp 52)=.bool false:=E.e 0;have e56:ev (.tmp 56)=.bool false:=E.e 1;have ec:=E.const;go_simp;exact rv
       trivial
     · intro wz bz
       (iterate 18 rintro _ rfl)
       have S5:=Lib.hid (S4.out.to bz);have O35:=Lib.hid (own_below O34.out bz);have B5:=Lib.hid (B4.out.trans (bz.mono B4.out.size))
       clear bz HST HRS HEQ;simp only[qAq];go_simp
       go_wp2_with fail
       refine(qJy wz Z.heap.size _ M O35.out ml B5.out.size).mono ?_;rintro en w6 ⟨rfl,b6⟩;have S6:=Lib.hid (ST.out.to (B5.out.trans b6));clear b6 O35 B5 S5
       go_wp2_with fail
       have heq:=qDq w6 Ar Aw r.length cr r.length cw r r (by unfold maxLen;omega) (by unfold maxLen;omega) rfl rfl S6.out.lr S6.out.lw;rw[decide_eq_true rfl] at heq;refine heq.mono ?_;clear heq;rintro en w7 ⟨rfl,b7⟩;have S7:=Lib.hid (S6.out.to b7);clear b7;have y0:=cell_of_block (i:=0) S7.out.b0 rfl;have y1:=cell_of_block (i:=1) S7.out.b0 rfl;have y2:=cell_of_block (i:=0) S7.out.b7 rfl;have y3:=cell_of_block (i:=1) S7.out.b7 rfl
       go_wp2_with fail
       have hsm:=qHm w7 ra.a ra.b rx.a rx.b ra.n ra.c ra.m ra.d rx.n rx.c rx.m rx.d sa.1 sa.1 sa.2 sa.2 (by have:=S7.out.la.nn;unfold maxLen;omega) (by have:=S7.out.la.mm;unfold maxLen;omega) (by have:=S7.out.lx.nn;unfold maxLen;omega) (by have:=S7.out.lx.mm;unfold maxLen;omega) S7.out.la.n S7.out.la.m S7.out.lx.n S7.out.lx.m S7.out.la.la S7.out.la.lb S7.out.lx.la S7.out.lx.lb;simp only[decide_true,Bool.and_self] at hsm;refine hsm.mono ?_;clear hsm y0 y1 y2 y3;rintro en w8 ⟨rfl,b8⟩;have S8:=Lib.hid (S7.out.to b8);clear b8
       have y0:=cell_of_block (i:=0) S8.out.b1 rfl;have y1:=cell_of_block (i:=1) S8.out.b1 rfl;have y2:=cell_of_block (i:=0) S8.out.b8 rfl;have y3:=cell_of_block (i:=1) S8.out.b8 rfl
       go_wp2_with fail
       have hsm:=qHm w8 rb.a rb.b ry.a ry.b rb.n rb.c rb.m rb.d ry.n ry.c ry.m ry.d sb.1 sb.1 sb.2 sb.2 (by have:=S8.out.lb.nn;unfold maxLen;omega) (by have:=S8.out.lb.mm;unfold maxLen;omega) (by have:=S8.out.ly.nn;unfold maxLen;omega) (by have:=S8.out.ly.mm;unfold maxLen;omega) S8.out.lb.n S8.out.lb.m S8.out.ly.n S8.out.ly.m S8.out.lb.la S8.out.lb.lb S8.out.ly.la S8.out.ly.lb;simp only[decide_true,Bool.and_self] at hsm;refine hsm.mono ?_;clear hsm y0 y1 y2 y3;rintro en w9 ⟨rfl,b9⟩;have S9:=Lib.hid (S8.out.to b9);clear b9
       go_wp2_with fail
       refine(qDn w9 (HE.out.below S9.out.bel)).mono ?_;rintro en wC ⟨rfl,bC⟩;have BC:=Lib.hid (S9.out.to bC).bel;clear bC
       go_wp2_with fail
       go_ret
       exact⟨rfl,BC.out⟩
end Go.Proofs.YtikpmmipopmjaaaGreatDoor
