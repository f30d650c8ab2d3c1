/- Schemas: whether one may be, as the reference answers. -/
import Derived.Test.YtainiaighnjpfaaGreatDoorZQs
import Derived.Test.YtainiaighnjpfaaGreatDoorZQp
set_option linter.unusedVariables false
set_option linter.unusedSimpArgs false
namespace Go.Proofs.YtainiaighnjpfaaGreatDoor
open Go.RowKit Go.Ms Go.Lib Go.Rel
set_option maxRecDepth 100000 in
set_option maxHeartbeats 8000000 in
theorem qD4 (w :World) (A B:Option Addr) (n cap m capm:Nat) (cs:List Co) (ks:List Int) (hsz:∀c∈cs,c.2.1.size≤100000∧c.2.2.2.2.2.size≤100000∧ -9223372036854775808≤c.2.2.2.2.1∧c.2.2.2.2.1≤9223372036854775807) (h1:n≤100000) (h2:m≤100000) (hn:n=cs.length) (hm:m=ks.length)
    (hA:Lay w w.heap.size A (colV cs)) (hB:Lay w w.heap.size B (intV ks)) :
    Calls Tryz.prog 58 #[.agg #[.slice A n cap,.slice B m capm]] w fun e w'=>e=.returned (.int .i64 (qAm cs ks))∧Below w.heap.size w w':=by
 obtain⟨X,hX⟩:∃X,X=w.alloc (.cells #[.slice A n cap,.slice B m capm] 33):=⟨_,rfl⟩;have bX:Below w.heap.size w X:=by rw[hX];exact(Below.refl _ w).alloc le_ _
 have qX:X.heap[w.heap.size]?=some (.cells #[.slice A n cap,.slice B m capm] 33 (0,0)):=by rw[hX];exact qAd _ _
 have lA:Lay X X.heap.size A (colV cs):=(hA.below bX).more bX.size;have lB:Lay X X.heap.size B (intV ks):=(hB.below bX).more bX.size;have a0:=cell_of_block (i:=0) qX rfl;have a1:=cell_of_block (i:=1) qX rfl;have HA:=hh_ lA;have HBK:=hh_ lB;have HN:=hh_ hn;have HM:=hh_ hm;have BX:=hh_ bX;have QX:=hh_ qX;have HSZ:=hh_ hsz;clear hA hB hn hm bX qX lA lB hsz;by_cases t1:n<1
 · have hbad:qAm cs ks=2:=qAo (fun h=>by have:=h.one;have:=HN.out;omega);have t1':(n:Int)<1:=by omega
   rw[hbad];clear hbad;go_enter Tryz.func58,Tryz.ntmps58;go_wp2_with fail
   all_goals (rw[←hX];clear hX)
   go_wp2_with fail
   go_ret;exact⟨rfl,BX.out⟩
 have t1':¬(n:Int)<1:=by omega
 by_cases t2:32<n
 · have hbad:qAm cs ks=2:=qAo (fun h=>by have:=h.most;have:=HN.out;omega);have t2':(32:Int)<n:=by omega
   rw[hbad];clear hbad;go_enter Tryz.func58,Tryz.ntmps58;go_wp2_with fail
   all_goals (rw[←hX];clear hX)
   go_wp2_with fail
   go_ret;exact⟨rfl,BX.out⟩
 have t2':¬(32:Int)<n:=by omega
 by_cases t3:8<m
 · have hbad:qAm cs ks=2:=qAo (fun h=>by have:=h.keys;have:=HM.out;omega);have t3':(8:Int)<m:=by omega
   rw[hbad];clear hbad;go_enter Tryz.func58,Tryz.ntmps58;go_wp2_with fail
   all_goals (rw[←hX];clear hX)
   go_wp2_with fail
   go_ret;exact⟨rfl,BX.out⟩
 have t3':¬(8:Int)<m:=by omega
 go_enter Tryz.func58,Tryz.ntmps58;go_wp2_with fail
 rw[←hX];clear hX;go_loopw [4] (fun id wr=> ∃k:Nat,k≤n∧id=.int .i64 k∧Below X.heap.size X wr∧(∀(j:Nat) c,j<k→cs[j]?=some c→(isNm c.2.1.data.toList=true∧qDw c.2.2.1 c.2.2.2=0)∧1≤c.1∧c.1≤1048576)∧(∀(j:Nat) a b,j+1<k→cs[j]?=some a→cs[j+1]?=some b→a.1<b.1)∧∀(i j:Nat) a b,i<j→j<k→cs[i]?=some a→cs[j]?=some b→a.2.1≠b.2.1) (fun id _=>n-(RowKit.intOf id).toNat)
 case atStart=>exact⟨0,by omega,rfl,Below.refl _ _,fun j c h=>absurd h (by omega),fun j a b h=>absurd h (by omega),fun i j a b _ h=>absurd h (by omega)⟩
 case round =>
  obtain⟨k,hk,rfl,hb,hp1,hp2,hp3⟩:=hrel;have HR1:=hh_ hp1;have HR2:=hh_ hp2;have HR3:=hh_ hp3;have HB:=hh_ hb;have q1:=cell_of_block (i:=1) (qAn QX.out hb) rfl;clear hp1 hp2 hp3 hb;by_cases hlk:k<n
  · have hki : (k :Int)<n:=by omega
    obtain⟨x,hx⟩:∃x,cs[k]?=some x:=⟨_,List.getElem?_eq_getElem (by rw[←HN.out];omega)⟩;obtain⟨hz1,hz2,hz3,hz4⟩:=HSZ.out x (List.mem_of_getElem? hx);obtain⟨i0,s0,⟨k0,u0⟩,n0,m0,t0⟩:=x;obtain⟨g,o,rfl,hg,g1,g2,g3,g4,g5,g6,g7⟩:=HA.out.co hx;simp only at g1 g2 g3 g4 g5 g6 g7 hz1 hz2 hz3 hz4;have HX:=hh_ hx;clear hx;obtain⟨Z,hZ⟩:∃Z,qA1 k0 u0 n0 m0 t0.data.toList=Z:=⟨_,rfl⟩;have HZ:=hh_ hZ;clear hZ
    cases k with
    | zero =>
     simp only[Nat.zero_mul,Nat.add_zero] at g1 g2 g3 g4 g5 g6 g7;have G1:=hh_ g1;have G2:=hh_ g2;have G3:=hh_ g3;have G4:=hh_ g4;have G5:=hh_ g5;have G6:=hh_ g6;have G7:=hh_ g7;clear g1 g2 g3 g4 g5 g6 g7;by_cases c1:i0<1
     · have hbad:qAm cs ks=2:=qAo (fun h=>by have:=(h.id _ _ HX.out).1;simp only at this;omega);have HBAD:=hh_ hbad;have c1':decide (i0<1)=true:=decide_eq_true c1;clear hbad;go_wp2_with fail
       refine qAe [isV (.slice (some ⟨g,o,none⟩) n cap),isV (.int .i64 0),isV (.pointer (some ⟨g,o,none⟩)),isV (.pointer (some ⟨g,o,none⟩)),isV (.int .i64 i0),iT,iT,iU,iU,iU,iU,iU,iU,iT,iT,iU,iU,iU,iU,iU,iU,iU,iU,iU,iU,iU,iU,iU,iU,iU,iU,iT,iT,iU,iU,iU,iU,iU,iU,iU,iT,iT,iU,iU,iU,iU,iU,iU,iU,iU,iU,iU,iU,iU,iT] (by kernel_rfl) (by kernel_rfl) ?_ ?_
       ·
         refine rb ?_;refine rb ?_;refine rf (fun ev wo E=>?_) ?_
         · have e30:ev (.tmp 30)=.slice (some ⟨g,o,none⟩) n cap:=E.e 0;have e31:ev (.tmp 31)=.int .i64 0:=E.e 1;go_simp;exact rv
         refine rf (fun ev wo E=>?_) ?_
         · have e32:ev (.tmp 32)=.pointer (some ⟨g,o,none⟩):=E.e 0;go_simp;exact rv
         refine rf (fun ev wo E=>?_) ?_
         · have e33:ev (.tmp 33)=.pointer (some ⟨g,o,none⟩):=E.e 0;have hu:Below X.heap.size X wo:=HB.out.trans (E.bel.mono HB.out.size);have x0:=(hu.cell (qAg G1.out)).trans G1.out;clear hu;go_simp;exact rv
         refine rf (fun ev wo E=>?_) ?_
         · have e34:ev (.tmp 34)=.int .i64 i0:=E.e 0;have ec:=E.const;go_simp;exact rv
         refine rc 0 ?_;refine ro 0 ?_;refine ro 0 ?_;refine ro 2 ?_;refine ro 1 ?_;refine ro 1 ?_;refine ro 1 ?_;refine rf (fun ev wo E=>?_) ?_
         · have e36:ev (.tmp 36)=.bool true:=E.e 0;have e42:ev (.tmp 42)=undef:=E.e 1;have ec:=E.const;go_simp;exact rv
         refine rc 0 ?_;refine ro 0 ?_;refine ro 1 ?_;refine ro 1 ?_;refine ro2 0 ?_;refine ro2 0 ?_;refine ro2 2 ?_;refine ro2 1 ?_;refine ro2 1 ?_;refine ro2 0 ?_;refine ro2 0 ?_;refine ro2 1 ?_;refine ro2 2 ?_;refine ro2 1 ?_;refine ro2 1 ?_;refine ro2 2 ?_;refine ro 2 ?_;refine rf (fun ev wo E=>?_) ?_
         · have e44:ev (.tmp 44)=.bool true:=E.e 0;have e60:ev (.tmp 60)=undef:=E.e 1;have ec:=E.const;go_simp;exact rv
         refine rc 0 ?_;refine ro 0 ?_;refine ro 0 ?_;refine ro 2 ?_;refine ro 1 ?_;refine ro 1 ?_;refine ro 1 ?_;refine ro 1 ?_;refine rf (fun ev wo E=>?_) ?_
         · have e62:ev (.tmp 62)=.bool true:=E.e 0;have e69:ev (.tmp 69)=undef:=E.e 1;have ec:=E.const;go_simp;exact rv
         refine rc 0 ?_;refine ro 0 ?_;refine ro 0 ?_;refine ro 2 ?_;refine ro 1 ?_;refine ro 1 ?_;refine ro 0 ?_;refine ro 0 ?_;refine ro 2 ?_;refine ro 1 ?_;refine ro 1 ?_;refine ro 2 ?_;refine ro 1 ?_;refine rf (fun ev wo E=>?_) ?_
         · have e71:ev (.tmp 71)=.bool true:=E.e 0;have e83:ev (.tmp 83)=undef:=E.e 1;have ec:=E.const;go_simp;exact rv
         trivial
       · intro wz bz
         (iterate 55 rintro _ rfl);have BW:=hh_ (BX.out.trans ((HB.out.trans (bz.mono HB.out.size)).mono BX.out.size));simp only[qAq];go_simp
         go_wp2_with fail
         go_ret;exact⟨congrArg (fun i=>Ending.returned (.int .i64 i)) HBAD.out.symm,BW.out⟩
     have c1':decide (i0<1)=false:=decide_eq_false c1;by_cases c2:1048576<i0
     · have hbad:qAm cs ks=2:=qAo (fun h=>by have:=(h.id _ _ HX.out).2;simp only at this;omega);have HBAD:=hh_ hbad;have c2':decide (1048576<i0)=true:=decide_eq_true c2;clear hbad;go_wp2_with fail
       refine qAe [isV (.slice (some ⟨g,o,none⟩) n cap),isV (.int .i64 0),isV (.pointer (some ⟨g,o,none⟩)),isV (.pointer (some ⟨g,o,none⟩)),isV (.int .i64 i0),iF,iF,isV (.slice (some ⟨g,o,none⟩) n cap),isV (.int .i64 0),isV (.pointer (some ⟨g,o,none⟩)),isV (.pointer (some ⟨g,o,none⟩)),isV (.int .i64 i0),iT,iT,iT,iU,iU,iU,iU,iU,iU,iU,iU,iU,iU,iU,iU,iU,iU,iU,iU,iT,iT,iU,iU,iU,iU,iU,iU,iU,iT,iT,iU,iU,iU,iU,iU,iU,iU,iU,iU,iU,iU,iU,iT] (by kernel_rfl) (by kernel_rfl) ?_ ?_
       ·
         refine rb ?_;refine rb ?_;refine rf (fun ev wo E=>?_) ?_
         · have e30:ev (.tmp 30)=.slice (some ⟨g,o,none⟩) n cap:=E.e 0;have e31:ev (.tmp 31)=.int .i64 0:=E.e 1;go_simp;exact rv
         refine rf (fun ev wo E=>?_) ?_
         · have e32:ev (.tmp 32)=.pointer (some ⟨g,o,none⟩):=E.e 0;go_simp;exact rv
         refine rf (fun ev wo E=>?_) ?_
         · have e33:ev (.tmp 33)=.pointer (some ⟨g,o,none⟩):=E.e 0;have hu:Below X.heap.size X wo:=HB.out.trans (E.bel.mono HB.out.size);have x0:=(hu.cell (qAg G1.out)).trans G1.out;clear hu;go_simp;exact rv
         refine rf (fun ev wo E=>?_) ?_
         · have e34:ev (.tmp 34)=.int .i64 i0:=E.e 0;have ec:=E.const;go_simp;exact rv
         refine rc 0 ?_;refine rbq 0 ?_;refine rbq 0 ?_;refine rq 2 (fun ev wo E=>?_) ?_
         · have e37:ev (.tmp 37)=.slice (some ⟨g,o,none⟩) n cap:=E.e 0;have e38:ev (.tmp 38)=.int .i64 0:=E.e 1;go_simp;exact rv
         refine rq 1 (fun ev wo E=>?_) ?_
         · have e39:ev (.tmp 39)=.pointer (some ⟨g,o,none⟩):=E.e 0;go_simp;exact rv
         refine rq 1 (fun ev wo E=>?_) ?_
         · have e40:ev (.tmp 40)=.pointer (some ⟨g,o,none⟩):=E.e 0;have hu:Below X.heap.size X wo:=HB.out.trans (E.bel.mono HB.out.size);have x0:=(hu.cell (qAg G1.out)).trans G1.out;clear hu;go_simp;exact rv
         refine rq 1 (fun ev wo E=>?_) ?_
         · have e41:ev (.tmp 41)=.int .i64 i0:=E.e 0;have ec:=E.const;go_simp;exact rv
         refine rf (fun ev wo E=>?_) ?_
         · have e36:ev (.tmp 36)=.bool false:=E.e 0;have e42:ev (.tmp 42)=.bool true:=E.e 1;have ec:=E.const;go_simp;exact rv
         refine rc 0 ?_;refine ro 0 ?_;refine ro 1 ?_;refine ro 1 ?_;refine ro2 0 ?_;refine ro2 0 ?_;refine ro2 2 ?_;refine ro2 1 ?_;refine ro2 1 ?_;refine ro2 0 ?_;refine ro2 0 ?_;refine ro2 1 ?_;refine ro2 2 ?_;refine ro2 1 ?_;refine ro2 1 ?_;refine ro2 2 ?_;refine ro 2 ?_;refine rf (fun ev wo E=>?_) ?_
         · have e44:ev (.tmp 44)=.bool true:=E.e 0;have e60:ev (.tmp 60)=undef:=E.e 1;have ec:=E.const;go_simp;exact rv
         refine rc 0 ?_;refine ro 0 ?_;refine ro 0 ?_;refine ro 2 ?_;refine ro 1 ?_;refine ro 1 ?_;refine ro 1 ?_;refine ro 1 ?_;refine rf (fun ev wo E=>?_) ?_
         · have e62:ev (.tmp 62)=.bool true:=E.e 0;have e69:ev (.tmp 69)=undef:=E.e 1;have ec:=E.const;go_simp;exact rv
         refine rc 0 ?_;refine ro 0 ?_;refine ro 0 ?_;refine ro 2 ?_;refine ro 1 ?_;refine ro 1 ?_;refine ro 0 ?_;refine ro 0 ?_;refine ro 2 ?_;refine ro 1 ?_;refine ro 1 ?_;refine ro 2 ?_;refine ro 1 ?_;refine rf (fun ev wo E=>?_) ?_
         · have e71:ev (.tmp 71)=.bool true:=E.e 0;have e83:ev (.tmp 83)=undef:=E.e 1;have ec:=E.const;go_simp;exact rv
         trivial
       · intro wz bz
         (iterate 55 rintro _ rfl);have BW:=hh_ (BX.out.trans ((HB.out.trans (bz.mono HB.out.size)).mono BX.out.size));simp only[qAq];go_simp
         go_wp2_with fail
         go_ret;exact⟨congrArg (fun i=>Ending.returned (.int .i64 i)) HBAD.out.symm,BW.out⟩
     have c2':decide (1048576<i0)=false:=decide_eq_false c2
     cases hnm:isNm s0.data.toList with
     |false=>
      have hbad:qAm cs ks=2:=qAo (fun h=>by have:=(h.co _ _ HX.out).1;simp only at this;rw[hnm] at this;cases this);have HBAD:=hh_ hbad;have HNM:=hh_ hnm;clear hbad hnm;go_wp2_with fail
      refine qAe [isV (.slice (some ⟨g,o,none⟩) n cap),isV (.int .i64 0),isV (.pointer (some ⟨g,o,none⟩)),isV (.pointer (some ⟨g,o,none⟩)),isV (.int .i64 i0),iF,iF,isV (.slice (some ⟨g,o,none⟩) n cap),isV (.int .i64 0),isV (.pointer (some ⟨g,o,none⟩)),isV (.pointer (some ⟨g,o,none⟩)),isV (.int .i64 i0),iF,iF,iF,isV (.int .i64 0),iF,iF,iU,iU,iU,iU,iU,iU,iU,iU,iU,iU,iU,iU,iF,iF,iF,isV (.slice (some ⟨g,o,none⟩) n cap),isV (.int .i64 0),isV (.pointer (some ⟨g,o,none⟩)),isV (.pointer (some ⟨g,o+1,none⟩)),isV (.string s0),iF,iT,iT,iT,iU,iU,iU,iU,iU,iU,iU,iU,iU,iU,iU,iU,iT] (by kernel_rfl) (by kernel_rfl) ?_ ?_
      ·
        refine rb ?_;refine rb ?_;refine rf (fun ev wo E=>?_) ?_
        · have e30:ev (.tmp 30)=.slice (some ⟨g,o,none⟩) n cap:=E.e 0;have e31:ev (.tmp 31)=.int .i64 0:=E.e 1;go_simp;exact rv
        refine rf (fun ev wo E=>?_) ?_
        · have e32:ev (.tmp 32)=.pointer (some ⟨g,o,none⟩):=E.e 0;go_simp;exact rv
        refine rf (fun ev wo E=>?_) ?_
        · have e33:ev (.tmp 33)=.pointer (some ⟨g,o,none⟩):=E.e 0;have hu:Below X.heap.size X wo:=HB.out.trans (E.bel.mono HB.out.size);have x0:=(hu.cell (qAg G1.out)).trans G1.out;clear hu;go_simp;exact rv
        refine rf (fun ev wo E=>?_) ?_
        · have e34:ev (.tmp 34)=.int .i64 i0:=E.e 0;have ec:=E.const;go_simp;exact rv
        refine rc 0 ?_;refine rbq 0 ?_;refine rbq 0 ?_;refine rq 2 (fun ev wo E=>?_) ?_
        · have e37:ev (.tmp 37)=.slice (some ⟨g,o,none⟩) n cap:=E.e 0;have e38:ev (.tmp 38)=.int .i64 0:=E.e 1;go_simp;exact rv
        refine rq 1 (fun ev wo E=>?_) ?_
        · have e39:ev (.tmp 39)=.pointer (some ⟨g,o,none⟩):=E.e 0;go_simp;exact rv
        refine rq 1 (fun ev wo E=>?_) ?_
        · have e40:ev (.tmp 40)=.pointer (some ⟨g,o,none⟩):=E.e 0;have hu:Below X.heap.size X wo:=HB.out.trans (E.bel.mono HB.out.size);have x0:=(hu.cell (qAg G1.out)).trans G1.out;clear hu;go_simp;exact rv
        refine rq 1 (fun ev wo E=>?_) ?_
        · have e41:ev (.tmp 41)=.int .i64 i0:=E.e 0;have ec:=E.const;go_simp;exact rv
        refine rf (fun ev wo E=>?_) ?_
        · have e36:ev (.tmp 36)=.bool false:=E.e 0;have e42:ev (.tmp 42)=.bool false:=E.e 1;have ec:=E.const;go_simp;exact rv
        refine rc 0 ?_;refine rbq 0 ?_;refine rq 1 (fun ev wo E=>?_) ?_
        · have e45:ev (.tmp 45)=.int .i64 0:=E.e 0;have ec:=E.const;go_simp;exact rv
        refine rcq 0 1 ?_;refine ro 0 ?_;refine ro 0 ?_;refine ro 2 ?_;refine ro 1 ?_;refine ro 1 ?_;refine ro 0 ?_;refine ro 0 ?_;refine ro 1 ?_;refine ro 2 ?_;refine ro 1 ?_;refine ro 1 ?_;refine ro 2 ?_;refine rq 2 (fun ev wo E=>?_) ?_
        · have e47:ev (.tmp 47)=.bool false:=E.e 0;have e59:ev (.tmp 59)=undef:=E.e 1;have ec:=E.const;go_simp;exact rv
        refine rf (fun ev wo E=>?_) ?_
        · have e44:ev (.tmp 44)=.bool false:=E.e 0;have e60:ev (.tmp 60)=.bool false:=E.e 1;have ec:=E.const;go_simp;exact rv
        refine rc 0 ?_;refine rbq 0 ?_;refine rbq 0 ?_;refine rq 2 (fun ev wo E=>?_) ?_
        · have e63:ev (.tmp 63)=.slice (some ⟨g,o,none⟩) n cap:=E.e 0;have e64:ev (.tmp 64)=.int .i64 0:=E.e 1;go_simp;exact rv
        refine rq 1 (fun ev wo E=>?_) ?_
        · have e65:ev (.tmp 65)=.pointer (some ⟨g,o,none⟩):=E.e 0;go_simp;exact rv
        refine rq 1 (fun ev wo E=>?_) ?_
        · have e66:ev (.tmp 66)=.pointer (some ⟨g,o+1,none⟩):=E.e 0;have hu:Below X.heap.size X wo:=HB.out.trans (E.bel.mono HB.out.size);have x0:=(hu.cell (qAg G2.out)).trans G2.out;clear hu;go_simp;exact rv
        refine rq 1 (fun ev wo E=>?_) ?_
        · have e67:ev (.tmp 67)=.string s0:=E.e 0;have ef:=E.func;have hc:=qB0 s0 wo hz1;rw[HNM.out] at hc;have HC2:=hh_ hc;clear hc;go_simp;refine qAb (HC2.out.mono ?_);rintro e w' ⟨rfl,hb⟩;exact⟨_,rfl,hb,rfl⟩
        refine rq 1 (fun ev wo E=>?_) ?_
        · have e68:ev (.tmp 68)=.bool false:=E.e 0;go_simp;exact rv
        refine rf (fun ev wo E=>?_) ?_
        · have e62:ev (.tmp 62)=.bool false:=E.e 0;have e69:ev (.tmp 69)=.bool true:=E.e 1;have ec:=E.const;go_simp;exact rv
        refine rc 0 ?_;refine ro 0 ?_;refine ro 0 ?_;refine ro 2 ?_;refine ro 1 ?_;refine ro 1 ?_;refine ro 0 ?_;refine ro 0 ?_;refine ro 2 ?_;refine ro 1 ?_;refine ro 1 ?_;refine ro 2 ?_;refine ro 1 ?_;refine rf (fun ev wo E=>?_) ?_
        · have e71:ev (.tmp 71)=.bool true:=E.e 0;have e83:ev (.tmp 83)=undef:=E.e 1;have ec:=E.const;go_simp;exact rv
        trivial
      · intro wz bz
        (iterate 55 rintro _ rfl);have BW:=hh_ (BX.out.trans ((HB.out.trans (bz.mono HB.out.size)).mono BX.out.size));simp only[qAq];go_simp
        go_wp2_with fail
        go_ret;exact⟨congrArg (fun i=>Ending.returned (.int .i64 i)) HBAD.out.symm,BW.out⟩
     |true=>
      have HNM:=hh_ hnm;clear hnm;by_cases hz:Z=0
      · subst hz;go_wp2_with fail
        refine qAe [isV (.slice (some ⟨g,o,none⟩) n cap),isV (.int .i64 0),isV (.pointer (some ⟨g,o,none⟩)),isV (.pointer (some ⟨g,o,none⟩)),isV (.int .i64 i0),iF,iF,isV (.slice (some ⟨g,o,none⟩) n cap),isV (.int .i64 0),isV (.pointer (some ⟨g,o,none⟩)),isV (.pointer (some ⟨g,o,none⟩)),isV (.int .i64 i0),iF,iF,iF,isV (.int .i64 0),iF,iF,iU,iU,iU,iU,iU,iU,iU,iU,iU,iU,iU,iU,iF,iF,iF,isV (.slice (some ⟨g,o,none⟩) n cap),isV (.int .i64 0),isV (.pointer (some ⟨g,o,none⟩)),isV (.pointer (some ⟨g,o+1,none⟩)),isV (.string s0),iT,iF,iF,iF,isV (.slice (some ⟨g,o,none⟩) n cap),isV (.int .i64 0),isV (.pointer (some ⟨g,o,none⟩)),isV (.pointer (some ⟨g,o+2,none⟩)),isV (.agg #[.int .i64 k0,.bool u0]),isV (.slice (some ⟨g,o,none⟩) n cap),isV (.int .i64 0),isV (.pointer (some ⟨g,o,none⟩)),isV (.pointer (some ⟨g,o+4,none⟩)),isV (.agg #[.bool n0,.int .i64 m0,.string t0]),isV (.int .i64 0),iF,iF] (by kernel_rfl) (by kernel_rfl) ?_ ?_
        ·
          refine rb ?_;refine rb ?_;refine rf (fun ev wo E=>?_) ?_
          · have e30:ev (.tmp 30)=.slice (some ⟨g,o,none⟩) n cap:=E.e 0;have e31:ev (.tmp 31)=.int .i64 0:=E.e 1;go_simp;exact rv
          refine rf (fun ev wo E=>?_) ?_
          · have e32:ev (.tmp 32)=.pointer (some ⟨g,o,none⟩):=E.e 0;go_simp;exact rv
          refine rf (fun ev wo E=>?_) ?_
          · have e33:ev (.tmp 33)=.pointer (some ⟨g,o,none⟩):=E.e 0;have hu:Below X.heap.size X wo:=HB.out.trans (E.bel.mono HB.out.size);have x0:=(hu.cell (qAg G1.out)).trans G1.out;clear hu;go_simp;exact rv
          refine rf (fun ev wo E=>?_) ?_
          · have e34:ev (.tmp 34)=.int .i64 i0:=E.e 0;have ec:=E.const;go_simp;exact rv
          refine rc 0 ?_;refine rbq 0 ?_;refine rbq 0 ?_;refine rq 2 (fun ev wo E=>?_) ?_
          · have e37:ev (.tmp 37)=.slice (some ⟨g,o,none⟩) n cap:=E.e 0;have e38:ev (.tmp 38)=.int .i64 0:=E.e 1;go_simp;exact rv
          refine rq 1 (fun ev wo E=>?_) ?_
          · have e39:ev (.tmp 39)=.pointer (some ⟨g,o,none⟩):=E.e 0;go_simp;exact rv
          refine rq 1 (fun ev wo E=>?_) ?_
          · have e40:ev (.tmp 40)=.pointer (some ⟨g,o,none⟩):=E.e 0;have hu:Below X.heap.size X wo:=HB.out.trans (E.bel.mono HB.out.size);have x0:=(hu.cell (qAg G1.out)).trans G1.out;clear hu;go_simp;exact rv
          refine rq 1 (fun ev wo E=>?_) ?_
          · have e41:ev (.tmp 41)=.int .i64 i0:=E.e 0;have ec:=E.const;go_simp;exact rv
          refine rf (fun ev wo E=>?_) ?_
          · have e36:ev (.tmp 36)=.bool false:=E.e 0;have e42:ev (.tmp 42)=.bool false:=E.e 1;have ec:=E.const;go_simp;exact rv
          refine rc 0 ?_;refine rbq 0 ?_;refine rq 1 (fun ev wo E=>?_) ?_
          · have e45:ev (.tmp 45)=.int .i64 0:=E.e 0;have ec:=E.const;go_simp;exact rv
          refine rcq 0 1 ?_;refine ro 0 ?_;refine ro 0 ?_;refine ro 2 ?_;refine ro 1 ?_;refine ro 1 ?_;refine ro 0 ?_;refine ro 0 ?_;refine ro 1 ?_;refine ro 2 ?_;refine ro 1 ?_;refine ro 1 ?_;refine ro 2 ?_;refine rq 2 (fun ev wo E=>?_) ?_
          · have e47:ev (.tmp 47)=.bool false:=E.e 0;have e59:ev (.tmp 59)=undef:=E.e 1;have ec:=E.const;go_simp;exact rv
          refine rf (fun ev wo E=>?_) ?_
          · have e44:ev (.tmp 44)=.bool false:=E.e 0;have e60:ev (.tmp 60)=.bool false:=E.e 1;have ec:=E.const;go_simp;exact rv
          refine rc 0 ?_;refine rbq 0 ?_;refine rbq 0 ?_;refine rq 2 (fun ev wo E=>?_) ?_
          · have e63:ev (.tmp 63)=.slice (some ⟨g,o,none⟩) n cap:=E.e 0;have e64:ev (.tmp 64)=.int .i64 0:=E.e 1;go_simp;exact rv
          refine rq 1 (fun ev wo E=>?_) ?_
          · have e65:ev (.tmp 65)=.pointer (some ⟨g,o,none⟩):=E.e 0;go_simp;exact rv
          refine rq 1 (fun ev wo E=>?_) ?_
          · have e66:ev (.tmp 66)=.pointer (some ⟨g,o+1,none⟩):=E.e 0;have hu:Below X.heap.size X wo:=HB.out.trans (E.bel.mono HB.out.size);have x0:=(hu.cell (qAg G2.out)).trans G2.out;clear hu;go_simp;exact rv
          refine rq 1 (fun ev wo E=>?_) ?_
          · have e67:ev (.tmp 67)=.string s0:=E.e 0;have ef:=E.func;have hc:=qB0 s0 wo hz1;rw[HNM.out] at hc;have HC2:=hh_ hc;clear hc;go_simp;refine qAb (HC2.out.mono ?_);rintro e w' ⟨rfl,hb⟩;exact⟨_,rfl,hb,rfl⟩
          refine rq 1 (fun ev wo E=>?_) ?_
          · have e68:ev (.tmp 68)=.bool true:=E.e 0;go_simp;exact rv
          refine rf (fun ev wo E=>?_) ?_
          · have e62:ev (.tmp 62)=.bool false:=E.e 0;have e69:ev (.tmp 69)=.bool false:=E.e 1;have ec:=E.const;go_simp;exact rv
          refine rc 0 ?_;refine rbq 0 ?_;refine rbq 0 ?_;refine rq 2 (fun ev wo E=>?_) ?_
          · have e72:ev (.tmp 72)=.slice (some ⟨g,o,none⟩) n cap:=E.e 0;have e73:ev (.tmp 73)=.int .i64 0:=E.e 1;go_simp;exact rv
          refine rq 1 (fun ev wo E=>?_) ?_
          · have e74:ev (.tmp 74)=.pointer (some ⟨g,o,none⟩):=E.e 0;go_simp;exact rv
          refine rq 1 (fun ev wo E=>?_) ?_
          · have e75:ev (.tmp 75)=.pointer (some ⟨g,o+2,none⟩):=E.e 0;have hu:Below X.heap.size X wo:=HB.out.trans (E.bel.mono HB.out.size);have x0:=(hu.cell (qAg G3.out)).trans G3.out;have x1:=(hu.cell (qAg G4.out)).trans G4.out;clear hu;go_simp;exact rv
          refine rbq 0 ?_;refine rbq 0 ?_;refine rq 2 (fun ev wo E=>?_) ?_
          · have e77:ev (.tmp 77)=.slice (some ⟨g,o,none⟩) n cap:=E.e 0;have e78:ev (.tmp 78)=.int .i64 0:=E.e 1;go_simp;exact rv
          refine rq 1 (fun ev wo E=>?_) ?_
          · have e79:ev (.tmp 79)=.pointer (some ⟨g,o,none⟩):=E.e 0;go_simp;exact rv
          refine rq 1 (fun ev wo E=>?_) ?_
          · have e80:ev (.tmp 80)=.pointer (some ⟨g,o+4,none⟩):=E.e 0;have hu:Below X.heap.size X wo:=HB.out.trans (E.bel.mono HB.out.size);have x0:=(hu.cell (qAg G5.out)).trans G5.out;have x1:=(hu.cell (qAg G6.out)).trans G6.out;have x2:=(hu.cell (qAg G7.out)).trans G7.out;clear hu;go_simp;exact rv
          refine rq 2 (fun ev wo E=>?_) ?_
          · have e76:ev (.tmp 76)=.agg #[.int .i64 k0,.bool u0]:=E.e 0;have e81:ev (.tmp 81)=.agg #[.bool n0,.int .i64 m0,.string t0]:=E.e 1;have ef:=E.func;have hc:=qEa k0 u0 n0 m0 t0 wo hz2 hz3 hz4;rw[HZ.out] at hc;have HC2:=hh_ hc;clear hc;go_simp;refine qAb (HC2.out.mono ?_);rintro e w' ⟨rfl,hb⟩;exact⟨_,rfl,hb,rfl⟩
          refine rq 1 (fun ev wo E=>?_) ?_
          · have e82:ev (.tmp 82)=.int .i64 0:=E.e 0;have ec:=E.const;go_simp;exact rv
          refine rf (fun ev wo E=>?_) ?_
          · have e71:ev (.tmp 71)=.bool false:=E.e 0;have e83:ev (.tmp 83)=.bool false:=E.e 1;have ec:=E.const;go_simp;exact rv
          trivial
        · intro wz bz
          (iterate 55 rintro _ rfl);have BZ:=hh_ (HB.out.trans (bz.mono HB.out.size));have qz:=cell_of_block (i:=1) (qAn QX.out BZ.out) rfl;clear bz;simp only[qAq];go_simp
          go_wp2_with fail
          go_loopw [5] (fun id wy=> ∃q:Nat,q≤0∧id=.int .i64 q∧Below X.heap.size X wy∧∀(i:Nat) a,i<q→cs[i]?=some a→a.2.1≠s0) (fun id _=>0-(RowKit.intOf id).toNat)
          case atStart=>exact⟨0,by omega,rfl,BZ.out,fun i a h=>absurd h (by omega)⟩
          case round=>
           obtain⟨q,hq,rfl,hbq,hpq⟩:=hrel;have HPQ:=hh_ hpq;have HBQ:=hh_ hbq;clear hpq hbq
           · obtain rfl:q=0:=by omega
             go_wp2_with fail
             go_roundw
             case rel=>
              refine⟨1,by omega,by go_num,HBQ.out,fun i c hi hc=>?_,fun i a b' hi ha hb'=>?_,fun i i' a b' hii hi ha hb'=>?_⟩
              · by_cases e:i=0
                · subst e;rw[HX.out] at hc;cases hc;exact⟨⟨HNM.out,HZ.out⟩,by simp only;omega,by simp only;omega⟩
                · exact HR1.out i c (by omega) hc
              · omega
              · omega
             case measure=>simp[RowKit.intOf];omega
      · have hbad:qAm cs ks=2:=qAo (fun h=>hz (by have:=(h.co _ _ HX.out).2;rw[←HZ.out];exact this));have hz2':(Z != 0)=true:=by simpa using hz
        have HBAD:=hh_ hbad;clear hbad;go_wp2_with fail
        refine qAe [isV (.slice (some ⟨g,o,none⟩) n cap),isV (.int .i64 0),isV (.pointer (some ⟨g,o,none⟩)),isV (.pointer (some ⟨g,o,none⟩)),isV (.int .i64 i0),iF,iF,isV (.slice (some ⟨g,o,none⟩) n cap),isV (.int .i64 0),isV (.pointer (some ⟨g,o,none⟩)),isV (.pointer (some ⟨g,o,none⟩)),isV (.int .i64 i0),iF,iF,iF,isV (.int .i64 0),iF,iF,iU,iU,iU,iU,iU,iU,iU,iU,iU,iU,iU,iU,iF,iF,iF,isV (.slice (some ⟨g,o,none⟩) n cap),isV (.int .i64 0),isV (.pointer (some ⟨g,o,none⟩)),isV (.pointer (some ⟨g,o+1,none⟩)),isV (.string s0),iT,iF,iF,iF,isV (.slice (some ⟨g,o,none⟩) n cap),isV (.int .i64 0),isV (.pointer (some ⟨g,o,none⟩)),isV (.pointer (some ⟨g,o+2,none⟩)),isV (.agg #[.int .i64 k0,.bool u0]),isV (.slice (some ⟨g,o,none⟩) n cap),isV (.int .i64 0),isV (.pointer (some ⟨g,o,none⟩)),isV (.pointer (some ⟨g,o+4,none⟩)),isV (.agg #[.bool n0,.int .i64 m0,.string t0]),isV (.int .i64 Z),iT,iT] (by kernel_rfl) (by kernel_rfl) ?_ ?_
        ·
          refine rb ?_;refine rb ?_;refine rf (fun ev wo E=>?_) ?_
          · have e30:ev (.tmp 30)=.slice (some ⟨g,o,none⟩) n cap:=E.e 0;have e31:ev (.tmp 31)=.int .i64 0:=E.e 1;go_simp;exact rv
          refine rf (fun ev wo E=>?_) ?_
          · have e32:ev (.tmp 32)=.pointer (some ⟨g,o,none⟩):=E.e 0;go_simp;exact rv
          refine rf (fun ev wo E=>?_) ?_
          · have e33:ev (.tmp 33)=.pointer (some ⟨g,o,none⟩):=E.e 0;have hu:Below X.heap.size X wo:=HB.out.trans (E.bel.mono HB.out.size);have x0:=(hu.cell (qAg G1.out)).trans G1.out;clear hu;go_simp;exact rv
          refine rf (fun ev wo E=>?_) ?_
          · have e34:ev (.tmp 34)=.int .i64 i0:=E.e 0;have ec:=E.const;go_simp;exact rv
          refine rc 0 ?_;refine rbq 0 ?_;refine rbq 0 ?_;refine rq 2 (fun ev wo E=>?_) ?_
          · have e37:ev (.tmp 37)=.slice (some ⟨g,o,none⟩) n cap:=E.e 0;have e38:ev (.tmp 38)=.int .i64 0:=E.e 1;go_simp;exact rv
          refine rq 1 (fun ev wo E=>?_) ?_
          · have e39:ev (.tmp 39)=.pointer (some ⟨g,o,none⟩):=E.e 0;go_simp;exact rv
          refine rq 1 (fun ev wo E=>?_) ?_
          · have e40:ev (.tmp 40)=.pointer (some ⟨g,o,none⟩):=E.e 0;have hu:Below X.heap.size X wo:=HB.out.trans (E.bel.mono HB.out.size);have x0:=(hu.cell (qAg G1.out)).trans G1.out;clear hu;go_simp;exact rv
          refine rq 1 (fun ev wo E=>?_) ?_
          · have e41:ev (.tmp 41)=.int .i64 i0:=E.e 0;have ec:=E.const;go_simp;exact rv
          refine rf (fun ev wo E=>?_) ?_
          · have e36:ev (.tmp 36)=.bool false:=E.e 0;have e42:ev (.tmp 42)=.bool false:=E.e 1;have ec:=E.const;go_simp;exact rv
          refine rc 0 ?_;refine rbq 0 ?_;refine rq 1 (fun ev wo E=>?_) ?_
          · have e45:ev (.tmp 45)=.int .i64 0:=E.e 0;have ec:=E.const;go_simp;exact rv
          refine rcq 0 1 ?_;refine ro 0 ?_;refine ro 0 ?_;refine ro 2 ?_;refine ro 1 ?_;refine ro 1 ?_;refine ro 0 ?_;refine ro 0 ?_;refine ro 1 ?_;refine ro 2 ?_;refine ro 1 ?_;refine ro 1 ?_;refine ro 2 ?_;refine rq 2 (fun ev wo E=>?_) ?_
          · have e47:ev (.tmp 47)=.bool false:=E.e 0;have e59:ev (.tmp 59)=undef:=E.e 1;have ec:=E.const;go_simp;exact rv
          refine rf (fun ev wo E=>?_) ?_
          · have e44:ev (.tmp 44)=.bool false:=E.e 0;have e60:ev (.tmp 60)=.bool false:=E.e 1;have ec:=E.const;go_simp;exact rv
          refine rc 0 ?_;refine rbq 0 ?_;refine rbq 0 ?_;refine rq 2 (fun ev wo E=>?_) ?_
          · have e63:ev (.tmp 63)=.slice (some ⟨g,o,none⟩) n cap:=E.e 0;have e64:ev (.tmp 64)=.int .i64 0:=E.e 1;go_simp;exact rv
          refine rq 1 (fun ev wo E=>?_) ?_
          · have e65:ev (.tmp 65)=.pointer (some ⟨g,o,none⟩):=E.e 0;go_simp;exact rv
          refine rq 1 (fun ev wo E=>?_) ?_
          · have e66:ev (.tmp 66)=.pointer (some ⟨g,o+1,none⟩):=E.e 0;have hu:Below X.heap.size X wo:=HB.out.trans (E.bel.mono HB.out.size);have x0:=(hu.cell (qAg G2.out)).trans G2.out;clear hu;go_simp;exact rv
          refine rq 1 (fun ev wo E=>?_) ?_
          · have e67:ev (.tmp 67)=.string s0:=E.e 0;have ef:=E.func;have hc:=qB0 s0 wo hz1;rw[HNM.out] at hc;have HC2:=hh_ hc;clear hc;go_simp;refine qAb (HC2.out.mono ?_);rintro e w' ⟨rfl,hb⟩;exact⟨_,rfl,hb,rfl⟩
          refine rq 1 (fun ev wo E=>?_) ?_
          · have e68:ev (.tmp 68)=.bool true:=E.e 0;go_simp;exact rv
          refine rf (fun ev wo E=>?_) ?_
          · have e62:ev (.tmp 62)=.bool false:=E.e 0;have e69:ev (.tmp 69)=.bool false:=E.e 1;have ec:=E.const;go_simp;exact rv
          refine rc 0 ?_;refine rbq 0 ?_;refine rbq 0 ?_;refine rq 2 (fun ev wo E=>?_) ?_
          · have e72:ev (.tmp 72)=.slice (some ⟨g,o,none⟩) n cap:=E.e 0;have e73:ev (.tmp 73)=.int .i64 0:=E.e 1;go_simp;exact rv
          refine rq 1 (fun ev wo E=>?_) ?_
          · have e74:ev (.tmp 74)=.pointer (some ⟨g,o,none⟩):=E.e 0;go_simp;exact rv
          refine rq 1 (fun ev wo E=>?_) ?_
          · have e75:ev (.tmp 75)=.pointer (some ⟨g,o+2,none⟩):=E.e 0;have hu:Below X.heap.size X wo:=HB.out.trans (E.bel.mono HB.out.size);have x0:=(hu.cell (qAg G3.out)).trans G3.out;have x1:=(hu.cell (qAg G4.out)).trans G4.out;clear hu;go_simp;exact rv
          refine rbq 0 ?_;refine rbq 0 ?_;refine rq 2 (fun ev wo E=>?_) ?_
          · have e77:ev (.tmp 77)=.slice (some ⟨g,o,none⟩) n cap:=E.e 0;have e78:ev (.tmp 78)=.int .i64 0:=E.e 1;go_simp;exact rv
          refine rq 1 (fun ev wo E=>?_) ?_
          · have e79:ev (.tmp 79)=.pointer (some ⟨g,o,none⟩):=E.e 0;go_simp;exact rv
          refine rq 1 (fun ev wo E=>?_) ?_
          · have e80:ev (.tmp 80)=.pointer (some ⟨g,o+4,none⟩):=E.e 0;have hu:Below X.heap.size X wo:=HB.out.trans (E.bel.mono HB.out.size);have x0:=(hu.cell (qAg G5.out)).trans G5.out;have x1:=(hu.cell (qAg G6.out)).trans G6.out;have x2:=(hu.cell (qAg G7.out)).trans G7.out;clear hu;go_simp;exact rv
          refine rq 2 (fun ev wo E=>?_) ?_
          · have e76:ev (.tmp 76)=.agg #[.int .i64 k0,.bool u0]:=E.e 0;have e81:ev (.tmp 81)=.agg #[.bool n0,.int .i64 m0,.string t0]:=E.e 1;have ef:=E.func;have hc:=qEa k0 u0 n0 m0 t0 wo hz2 hz3 hz4;rw[HZ.out] at hc;have HC2:=hh_ hc;clear hc;go_simp;refine qAb (HC2.out.mono ?_);rintro e w' ⟨rfl,hb⟩;exact⟨_,rfl,hb,rfl⟩
          refine rq 1 (fun ev wo E=>?_) ?_
          · have e82:ev (.tmp 82)=.int .i64 Z:=E.e 0;have ec:=E.const;go_simp;exact rv
          refine rf (fun ev wo E=>?_) ?_
          · have e71:ev (.tmp 71)=.bool false:=E.e 0;have e83:ev (.tmp 83)=.bool true:=E.e 1;have ec:=E.const;go_simp;exact rv
          trivial
        · intro wz bz
          (iterate 55 rintro _ rfl);have BW:=hh_ (BX.out.trans ((HB.out.trans (bz.mono HB.out.size)).mono BX.out.size));simp only[qAq];go_simp
          go_wp2_with fail
          go_ret;exact⟨congrArg (fun i=>Ending.returned (.int .i64 i)) HBAD.out.symm,BW.out⟩
    | succ j =>
     have G1:=hh_ g1;have G2:=hh_ g2;have G3:=hh_ g3;have G4:=hh_ g4;have G5:=hh_ g5;have G6:=hh_ g6;have G7:=hh_ g7;clear g1 g2 g3 g4 g5 g6 g7;have hjn:(j:Int)<n:=by omega
     have hji:(j:Int)+1<n:=by omega
     obtain⟨xp,hxp⟩:∃x,cs[j]?=some x:=⟨_,List.getElem?_eq_getElem (by rw[←HN.out];omega)⟩;obtain⟨ip,sp,⟨kp,up⟩,np,mp,tp⟩:=xp;obtain⟨gp,op,ep,-,gp1,-⟩:=HA.out.co hxp;cases ep;simp only at gp1;have GP:=hh_ gp1;have HP1:=hh_ hxp;clear gp1 hxp;by_cases c1:i0<1
     · have hbad:qAm cs ks=2:=qAo (fun h=>by have:=(h.id _ _ HX.out).1;simp only at this;omega);have HBAD:=hh_ hbad;have c1':decide (i0<1)=true:=decide_eq_true c1;clear hbad;go_wp2_with fail
       refine qAe [isV (.slice (some ⟨g,o,none⟩) n cap),isV (.int .i64 ((j:Int)+1)),isV (.pointer (some ⟨g,o+(j+1)*7,none⟩)),isV (.pointer (some ⟨g,o+(j+1)*7,none⟩)),isV (.int .i64 i0),iT,iT,iU,iU,iU,iU,iU,iU,iT,iT,iU,iU,iU,iU,iU,iU,iU,iU,iU,iU,iU,iU,iU,iU,iU,iU,iT,iT,iU,iU,iU,iU,iU,iU,iU,iT,iT,iU,iU,iU,iU,iU,iU,iU,iU,iU,iU,iU,iU,iT] (by kernel_rfl) (by kernel_rfl) ?_ ?_
       ·
         refine rb ?_;refine rb ?_;refine rf (fun ev wo E=>?_) ?_
         · have e30:ev (.tmp 30)=.slice (some ⟨g,o,none⟩) n cap:=E.e 0;have e31:ev (.tmp 31)=.int .i64 ((j:Int)+1):=E.e 1;go_simp;exact rv
         refine rf (fun ev wo E=>?_) ?_
         · have e32:ev (.tmp 32)=.pointer (some ⟨g,o+(j+1)*7,none⟩):=E.e 0;go_simp;exact rv
         refine rf (fun ev wo E=>?_) ?_
         · have e33:ev (.tmp 33)=.pointer (some ⟨g,o+(j+1)*7,none⟩):=E.e 0;have hu:Below X.heap.size X wo:=HB.out.trans (E.bel.mono HB.out.size);have x0:=(hu.cell (qAg G1.out)).trans G1.out;clear hu;go_simp;exact rv
         refine rf (fun ev wo E=>?_) ?_
         · have e34:ev (.tmp 34)=.int .i64 i0:=E.e 0;have ec:=E.const;go_simp;exact rv
         refine rc 0 ?_;refine ro 0 ?_;refine ro 0 ?_;refine ro 2 ?_;refine ro 1 ?_;refine ro 1 ?_;refine ro 1 ?_;refine rf (fun ev wo E=>?_) ?_
         · have e36:ev (.tmp 36)=.bool true:=E.e 0;have e42:ev (.tmp 42)=undef:=E.e 1;have ec:=E.const;go_simp;exact rv
         refine rc 0 ?_;refine ro 0 ?_;refine ro 1 ?_;refine ro 1 ?_;refine ro2 0 ?_;refine ro2 0 ?_;refine ro2 2 ?_;refine ro2 1 ?_;refine ro2 1 ?_;refine ro2 0 ?_;refine ro2 0 ?_;refine ro2 1 ?_;refine ro2 2 ?_;refine ro2 1 ?_;refine ro2 1 ?_;refine ro2 2 ?_;refine ro 2 ?_;refine rf (fun ev wo E=>?_) ?_
         · have e44:ev (.tmp 44)=.bool true:=E.e 0;have e60:ev (.tmp 60)=undef:=E.e 1;have ec:=E.const;go_simp;exact rv
         refine rc 0 ?_;refine ro 0 ?_;refine ro 0 ?_;refine ro 2 ?_;refine ro 1 ?_;refine ro 1 ?_;refine ro 1 ?_;refine ro 1 ?_;refine rf (fun ev wo E=>?_) ?_
         · have e62:ev (.tmp 62)=.bool true:=E.e 0;have e69:ev (.tmp 69)=undef:=E.e 1;have ec:=E.const;go_simp;exact rv
         refine rc 0 ?_;refine ro 0 ?_;refine ro 0 ?_;refine ro 2 ?_;refine ro 1 ?_;refine ro 1 ?_;refine ro 0 ?_;refine ro 0 ?_;refine ro 2 ?_;refine ro 1 ?_;refine ro 1 ?_;refine ro 2 ?_;refine ro 1 ?_;refine rf (fun ev wo E=>?_) ?_
         · have e71:ev (.tmp 71)=.bool true:=E.e 0;have e83:ev (.tmp 83)=undef:=E.e 1;have ec:=E.const;go_simp;exact rv
         trivial
       · intro wz bz
         (iterate 55 rintro _ rfl);have BW:=hh_ (BX.out.trans ((HB.out.trans (bz.mono HB.out.size)).mono BX.out.size));simp only[qAq];go_simp
         go_wp2_with fail
         go_ret;exact⟨congrArg (fun i=>Ending.returned (.int .i64 i)) HBAD.out.symm,BW.out⟩
     have c1':decide (i0<1)=false:=decide_eq_false c1;by_cases c2:1048576<i0
     · have hbad:qAm cs ks=2:=qAo (fun h=>by have:=(h.id _ _ HX.out).2;simp only at this;omega);have HBAD:=hh_ hbad;have c2':decide (1048576<i0)=true:=decide_eq_true c2;clear hbad;go_wp2_with fail
       refine qAe [isV (.slice (some ⟨g,o,none⟩) n cap),isV (.int .i64 ((j:Int)+1)),isV (.pointer (some ⟨g,o+(j+1)*7,none⟩)),isV (.pointer (some ⟨g,o+(j+1)*7,none⟩)),isV (.int .i64 i0),iF,iF,isV (.slice (some ⟨g,o,none⟩) n cap),isV (.int .i64 ((j:Int)+1)),isV (.pointer (some ⟨g,o+(j+1)*7,none⟩)),isV (.pointer (some ⟨g,o+(j+1)*7,none⟩)),isV (.int .i64 i0),iT,iT,iT,iU,iU,iU,iU,iU,iU,iU,iU,iU,iU,iU,iU,iU,iU,iU,iU,iT,iT,iU,iU,iU,iU,iU,iU,iU,iT,iT,iU,iU,iU,iU,iU,iU,iU,iU,iU,iU,iU,iU,iT] (by kernel_rfl) (by kernel_rfl) ?_ ?_
       ·
         refine rb ?_;refine rb ?_;refine rf (fun ev wo E=>?_) ?_
         · have e30:ev (.tmp 30)=.slice (some ⟨g,o,none⟩) n cap:=E.e 0;have e31:ev (.tmp 31)=.int .i64 ((j:Int)+1):=E.e 1;go_simp;exact rv
         refine rf (fun ev wo E=>?_) ?_
         · have e32:ev (.tmp 32)=.pointer (some ⟨g,o+(j+1)*7,none⟩):=E.e 0;go_simp;exact rv
         refine rf (fun ev wo E=>?_) ?_
         · have e33:ev (.tmp 33)=.pointer (some ⟨g,o+(j+1)*7,none⟩):=E.e 0;have hu:Below X.heap.size X wo:=HB.out.trans (E.bel.mono HB.out.size);have x0:=(hu.cell (qAg G1.out)).trans G1.out;clear hu;go_simp;exact rv
         refine rf (fun ev wo E=>?_) ?_
         · have e34:ev (.tmp 34)=.int .i64 i0:=E.e 0;have ec:=E.const;go_simp;exact rv
         refine rc 0 ?_;refine rbq 0 ?_;refine rbq 0 ?_;refine rq 2 (fun ev wo E=>?_) ?_
         · have e37:ev (.tmp 37)=.slice (some ⟨g,o,none⟩) n cap:=E.e 0;have e38:ev (.tmp 38)=.int .i64 ((j:Int)+1):=E.e 1;go_simp;exact rv
         refine rq 1 (fun ev wo E=>?_) ?_
         · have e39:ev (.tmp 39)=.pointer (some ⟨g,o+(j+1)*7,none⟩):=E.e 0;go_simp;exact rv
         refine rq 1 (fun ev wo E=>?_) ?_
         · have e40:ev (.tmp 40)=.pointer (some ⟨g,o+(j+1)*7,none⟩):=E.e 0;have hu:Below X.heap.size X wo:=HB.out.trans (E.bel.mono HB.out.size);have x0:=(hu.cell (qAg G1.out)).trans G1.out;clear hu;go_simp;exact rv
         refine rq 1 (fun ev wo E=>?_) ?_
         · have e41:ev (.tmp 41)=.int .i64 i0:=E.e 0;have ec:=E.const;go_simp;exact rv
         refine rf (fun ev wo E=>?_) ?_
         · have e36:ev (.tmp 36)=.bool false:=E.e 0;have e42:ev (.tmp 42)=.bool true:=E.e 1;have ec:=E.const;go_simp;exact rv
         refine rc 0 ?_;refine ro 0 ?_;refine ro 1 ?_;refine ro 1 ?_;refine ro2 0 ?_;refine ro2 0 ?_;refine ro2 2 ?_;refine ro2 1 ?_;refine ro2 1 ?_;refine ro2 0 ?_;refine ro2 0 ?_;refine ro2 1 ?_;refine ro2 2 ?_;refine ro2 1 ?_;refine ro2 1 ?_;refine ro2 2 ?_;refine ro 2 ?_;refine rf (fun ev wo E=>?_) ?_
         · have e44:ev (.tmp 44)=.bool true:=E.e 0;have e60:ev (.tmp 60)=undef:=E.e 1;have ec:=E.const;go_simp;exact rv
         refine rc 0 ?_;refine ro 0 ?_;refine ro 0 ?_;refine ro 2 ?_;refine ro 1 ?_;refine ro 1 ?_;refine ro 1 ?_;refine ro 1 ?_;refine rf (fun ev wo E=>?_) ?_
         · have e62:ev (.tmp 62)=.bool true:=E.e 0;have e69:ev (.tmp 69)=undef:=E.e 1;have ec:=E.const;go_simp;exact rv
         refine rc 0 ?_;refine ro 0 ?_;refine ro 0 ?_;refine ro 2 ?_;refine ro 1 ?_;refine ro 1 ?_;refine ro 0 ?_;refine ro 0 ?_;refine ro 2 ?_;refine ro 1 ?_;refine ro 1 ?_;refine ro 2 ?_;refine ro 1 ?_;refine rf (fun ev wo E=>?_) ?_
         · have e71:ev (.tmp 71)=.bool true:=E.e 0;have e83:ev (.tmp 83)=undef:=E.e 1;have ec:=E.const;go_simp;exact rv
         trivial
       · intro wz bz
         (iterate 55 rintro _ rfl);have BW:=hh_ (BX.out.trans ((HB.out.trans (bz.mono HB.out.size)).mono BX.out.size));simp only[qAq];go_simp
         go_wp2_with fail
         go_ret;exact⟨congrArg (fun i=>Ending.returned (.int .i64 i)) HBAD.out.symm,BW.out⟩
     have c2':decide (1048576<i0)=false:=decide_eq_false c2;by_cases c3:i0≤ip
     · have hbad:qAm cs ks=2:=qAo (fun h=>by have:=h.up _ _ _ HP1.out HX.out;simp only at this;omega);have HBAD:=hh_ hbad;have c3':decide (i0≤ip)=true:=decide_eq_true c3;clear hbad;go_wp2_with fail
       refine qAe [isV (.slice (some ⟨g,o,none⟩) n cap),isV (.int .i64 ((j:Int)+1)),isV (.pointer (some ⟨g,o+(j+1)*7,none⟩)),isV (.pointer (some ⟨g,o+(j+1)*7,none⟩)),isV (.int .i64 i0),iF,iF,isV (.slice (some ⟨g,o,none⟩) n cap),isV (.int .i64 ((j:Int)+1)),isV (.pointer (some ⟨g,o+(j+1)*7,none⟩)),isV (.pointer (some ⟨g,o+(j+1)*7,none⟩)),isV (.int .i64 i0),iF,iF,iF,isV (.int .i64 ((j:Int)+1)),iT,iT,isV (.slice (some ⟨g,o,none⟩) n cap),isV (.int .i64 ((j:Int)+1)),isV (.pointer (some ⟨g,o+(j+1)*7,none⟩)),isV (.pointer (some ⟨g,o+(j+1)*7,none⟩)),isV (.int .i64 i0),isV (.slice (some ⟨g,o,none⟩) n cap),isV (.int .i64 ((j:Int)+1)),isV (.int .i64 (j:Nat)),isV (.pointer (some ⟨g,o+j*7,none⟩)),isV (.pointer (some ⟨g,o+j*7,none⟩)),isV (.int .i64 ip),iT,iT,iT,iT,iU,iU,iU,iU,iU,iU,iU,iT,iT,iU,iU,iU,iU,iU,iU,iU,iU,iU,iU,iU,iU,iT] (by kernel_rfl) (by kernel_rfl) ?_ ?_
       ·
         refine rb ?_;refine rb ?_;refine rf (fun ev wo E=>?_) ?_
         · have e30:ev (.tmp 30)=.slice (some ⟨g,o,none⟩) n cap:=E.e 0;have e31:ev (.tmp 31)=.int .i64 ((j:Int)+1):=E.e 1;go_simp;exact rv
         refine rf (fun ev wo E=>?_) ?_
         · have e32:ev (.tmp 32)=.pointer (some ⟨g,o+(j+1)*7,none⟩):=E.e 0;go_simp;exact rv
         refine rf (fun ev wo E=>?_) ?_
         · have e33:ev (.tmp 33)=.pointer (some ⟨g,o+(j+1)*7,none⟩):=E.e 0;have hu:Below X.heap.size X wo:=HB.out.trans (E.bel.mono HB.out.size);have x0:=(hu.cell (qAg G1.out)).trans G1.out;clear hu;go_simp;exact rv
         refine rf (fun ev wo E=>?_) ?_
         · have e34:ev (.tmp 34)=.int .i64 i0:=E.e 0;have ec:=E.const;go_simp;exact rv
         refine rc 0 ?_;refine rbq 0 ?_;refine rbq 0 ?_;refine rq 2 (fun ev wo E=>?_) ?_
         · have e37:ev (.tmp 37)=.slice (some ⟨g,o,none⟩) n cap:=E.e 0;have e38:ev (.tmp 38)=.int .i64 ((j:Int)+1):=E.e 1;go_simp;exact rv
         refine rq 1 (fun ev wo E=>?_) ?_
         · have e39:ev (.tmp 39)=.pointer (some ⟨g,o+(j+1)*7,none⟩):=E.e 0;go_simp;exact rv
         refine rq 1 (fun ev wo E=>?_) ?_
         · have e40:ev (.tmp 40)=.pointer (some ⟨g,o+(j+1)*7,none⟩):=E.e 0;have hu:Below X.heap.size X wo:=HB.out.trans (E.bel.mono HB.out.size);have x0:=(hu.cell (qAg G1.out)).trans G1.out;clear hu;go_simp;exact rv
         refine rq 1 (fun ev wo E=>?_) ?_
         · have e41:ev (.tmp 41)=.int .i64 i0:=E.e 0;have ec:=E.const;go_simp;exact rv
         refine rf (fun ev wo E=>?_) ?_
         · have e36:ev (.tmp 36)=.bool false:=E.e 0;have e42:ev (.tmp 42)=.bool false:=E.e 1;have ec:=E.const;go_simp;exact rv
         refine rc 0 ?_;refine rbq 0 ?_;refine rq 1 (fun ev wo E=>?_) ?_
         · have e45:ev (.tmp 45)=.int .i64 ((j:Int)+1):=E.e 0;have ec:=E.const;go_simp;exact rv
         refine rcq 0 1 ?_;refine rbq 0 ?_;refine rbq 0 ?_;refine rq 2 (fun ev wo E=>?_) ?_
         · have e48:ev (.tmp 48)=.slice (some ⟨g,o,none⟩) n cap:=E.e 0;have e49:ev (.tmp 49)=.int .i64 ((j:Int)+1):=E.e 1;go_simp;exact rv
         refine rq 1 (fun ev wo E=>?_) ?_
         · have e50:ev (.tmp 50)=.pointer (some ⟨g,o+(j+1)*7,none⟩):=E.e 0;go_simp;exact rv
         refine rq 1 (fun ev wo E=>?_) ?_
         · have e51:ev (.tmp 51)=.pointer (some ⟨g,o+(j+1)*7,none⟩):=E.e 0;have hu:Below X.heap.size X wo:=HB.out.trans (E.bel.mono HB.out.size);have x0:=(hu.cell (qAg G1.out)).trans G1.out;clear hu;go_simp;exact rv
         refine rbq 0 ?_;refine rbq 0 ?_;refine rq 1 (fun ev wo E=>?_) ?_
         · have e54:ev (.tmp 54)=.int .i64 ((j:Int)+1):=E.e 0;have ec:=E.const;go_simp;exact qA9 ⟨Below.refl _ _,by show Value.int _ _=Value.int _ _;rw[IntWalk.i64_in _ ⟨by omega,by omega⟩]⟩
         refine rq 2 (fun ev wo E=>?_) ?_
         · have e53:ev (.tmp 53)=.slice (some ⟨g,o,none⟩) n cap:=E.e 0;have e55:ev (.tmp 55)=.int .i64 (j:Nat):=E.e 1;go_simp;exact rv
         refine rq 1 (fun ev wo E=>?_) ?_
         · have e56:ev (.tmp 56)=.pointer (some ⟨g,o+j*7,none⟩):=E.e 0;go_simp;exact rv
         refine rq 1 (fun ev wo E=>?_) ?_
         · have e57:ev (.tmp 57)=.pointer (some ⟨g,o+j*7,none⟩):=E.e 0;have hu:Below X.heap.size X wo:=HB.out.trans (E.bel.mono HB.out.size);have x0:=(hu.cell (qAg GP.out)).trans GP.out;clear hu;go_simp;exact rv
         refine rq 2 (fun ev wo E=>?_) ?_
         · have e52:ev (.tmp 52)=.int .i64 i0:=E.e 0;have e58:ev (.tmp 58)=.int .i64 ip:=E.e 1;go_simp;exact rv
         refine rq 2 (fun ev wo E=>?_) ?_
         · have e47:ev (.tmp 47)=.bool true:=E.e 0;have e59:ev (.tmp 59)=.bool true:=E.e 1;have ec:=E.const;go_simp;exact rv
         refine rf (fun ev wo E=>?_) ?_
         · have e44:ev (.tmp 44)=.bool false:=E.e 0;have e60:ev (.tmp 60)=.bool true:=E.e 1;have ec:=E.const;go_simp;exact rv
         refine rc 0 ?_;refine ro 0 ?_;refine ro 0 ?_;refine ro 2 ?_;refine ro 1 ?_;refine ro 1 ?_;refine ro 1 ?_;refine ro 1 ?_;refine rf (fun ev wo E=>?_) ?_
         · have e62:ev (.tmp 62)=.bool true:=E.e 0;have e69:ev (.tmp 69)=undef:=E.e 1;have ec:=E.const;go_simp;exact rv
         refine rc 0 ?_;refine ro 0 ?_;refine ro 0 ?_;refine ro 2 ?_;refine ro 1 ?_;refine ro 1 ?_;refine ro 0 ?_;refine ro 0 ?_;refine ro 2 ?_;refine ro 1 ?_;refine ro 1 ?_;refine ro 2 ?_;refine ro 1 ?_;refine rf (fun ev wo E=>?_) ?_
         · have e71:ev (.tmp 71)=.bool true:=E.e 0;have e83:ev (.tmp 83)=undef:=E.e 1;have ec:=E.const;go_simp;exact rv
         trivial
       · intro wz bz
         (iterate 55 rintro _ rfl);have BW:=hh_ (BX.out.trans ((HB.out.trans (bz.mono HB.out.size)).mono BX.out.size));simp only[qAq];go_simp
         go_wp2_with fail
         go_ret;exact⟨congrArg (fun i=>Ending.returned (.int .i64 i)) HBAD.out.symm,BW.out⟩
     have c3':decide (i0≤ip)=false:=decide_eq_false c3
     cases hnm:isNm s0.data.toList with
     |false=>
      have hbad:qAm cs ks=2:=qAo (fun h=>by have:=(h.co _ _ HX.out).1;simp only at this;rw[hnm] at this;cases this);have HBAD:=hh_ hbad;have HNM:=hh_ hnm;clear hbad hnm;go_wp2_with fail
      refine qAe [isV (.slice (some ⟨g,o,none⟩) n cap),isV (.int .i64 ((j:Int)+1)),isV (.pointer (some ⟨g,o+(j+1)*7,none⟩)),isV (.pointer (some ⟨g,o+(j+1)*7,none⟩)),isV (.int .i64 i0),iF,iF,isV (.slice (some ⟨g,o,none⟩) n cap),isV (.int .i64 ((j:Int)+1)),isV (.pointer (some ⟨g,o+(j+1)*7,none⟩)),isV (.pointer (some ⟨g,o+(j+1)*7,none⟩)),isV (.int .i64 i0),iF,iF,iF,isV (.int .i64 ((j:Int)+1)),iT,iT,isV (.slice (some ⟨g,o,none⟩) n cap),isV (.int .i64 ((j:Int)+1)),isV (.pointer (some ⟨g,o+(j+1)*7,none⟩)),isV (.pointer (some ⟨g,o+(j+1)*7,none⟩)),isV (.int .i64 i0),isV (.slice (some ⟨g,o,none⟩) n cap),isV (.int .i64 ((j:Int)+1)),isV (.int .i64 (j:Nat)),isV (.pointer (some ⟨g,o+j*7,none⟩)),isV (.pointer (some ⟨g,o+j*7,none⟩)),isV (.int .i64 ip),iF,iF,iF,iF,isV (.slice (some ⟨g,o,none⟩) n cap),isV (.int .i64 ((j:Int)+1)),isV (.pointer (some ⟨g,o+(j+1)*7,none⟩)),isV (.pointer (some ⟨g,o+(j+1)*7+1,none⟩)),isV (.string s0),iF,iT,iT,iT,iU,iU,iU,iU,iU,iU,iU,iU,iU,iU,iU,iU,iT] (by kernel_rfl) (by kernel_rfl) ?_ ?_
      ·
        refine rb ?_;refine rb ?_;refine rf (fun ev wo E=>?_) ?_
        · have e30:ev (.tmp 30)=.slice (some ⟨g,o,none⟩) n cap:=E.e 0;have e31:ev (.tmp 31)=.int .i64 ((j:Int)+1):=E.e 1;go_simp;exact rv
        refine rf (fun ev wo E=>?_) ?_
        · have e32:ev (.tmp 32)=.pointer (some ⟨g,o+(j+1)*7,none⟩):=E.e 0;go_simp;exact rv
        refine rf (fun ev wo E=>?_) ?_
        · have e33:ev (.tmp 33)=.pointer (some ⟨g,o+(j+1)*7,none⟩):=E.e 0;have hu:Below X.heap.size X wo:=HB.out.trans (E.bel.mono HB.out.size);have x0:=(hu.cell (qAg G1.out)).trans G1.out;clear hu;go_simp;exact rv
        refine rf (fun ev wo E=>?_) ?_
        · have e34:ev (.tmp 34)=.int .i64 i0:=E.e 0;have ec:=E.const;go_simp;exact rv
        refine rc 0 ?_;refine rbq 0 ?_;refine rbq 0 ?_;refine rq 2 (fun ev wo E=>?_) ?_
        · have e37:ev (.tmp 37)=.slice (some ⟨g,o,none⟩) n cap:=E.e 0;have e38:ev (.tmp 38)=.int .i64 ((j:Int)+1):=E.e 1;go_simp;exact rv
        refine rq 1 (fun ev wo E=>?_) ?_
        · have e39:ev (.tmp 39)=.pointer (some ⟨g,o+(j+1)*7,none⟩):=E.e 0;go_simp;exact rv
        refine rq 1 (fun ev wo E=>?_) ?_
        · have e40:ev (.tmp 40)=.pointer (some ⟨g,o+(j+1)*7,none⟩):=E.e 0;have hu:Below X.heap.size X wo:=HB.out.trans (E.bel.mono HB.out.size);have x0:=(hu.cell (qAg G1.out)).trans G1.out;clear hu;go_simp;exact rv
        refine rq 1 (fun ev wo E=>?_) ?_
        · have e41:ev (.tmp 41)=.int .i64 i0:=E.e 0;have ec:=E.const;go_simp;exact rv
        refine rf (fun ev wo E=>?_) ?_
        · have e36:ev (.tmp 36)=.bool false:=E.e 0;have e42:ev (.tmp 42)=.bool false:=E.e 1;have ec:=E.const;go_simp;exact rv
        refine rc 0 ?_;refine rbq 0 ?_;refine rq 1 (fun ev wo E=>?_) ?_
        · have e45:ev (.tmp 45)=.int .i64 ((j:Int)+1):=E.e 0;have ec:=E.const;go_simp;exact rv
        refine rcq 0 1 ?_;refine rbq 0 ?_;refine rbq 0 ?_;refine rq 2 (fun ev wo E=>?_) ?_
        · have e48:ev (.tmp 48)=.slice (some ⟨g,o,none⟩) n cap:=E.e 0;have e49:ev (.tmp 49)=.int .i64 ((j:Int)+1):=E.e 1;go_simp;exact rv
        refine rq 1 (fun ev wo E=>?_) ?_
        · have e50:ev (.tmp 50)=.pointer (some ⟨g,o+(j+1)*7,none⟩):=E.e 0;go_simp;exact rv
        refine rq 1 (fun ev wo E=>?_) ?_
        · have e51:ev (.tmp 51)=.pointer (some ⟨g,o+(j+1)*7,none⟩):=E.e 0;have hu:Below X.heap.size X wo:=HB.out.trans (E.bel.mono HB.out.size);have x0:=(hu.cell (qAg G1.out)).trans G1.out;clear hu;go_simp;exact rv
        refine rbq 0 ?_;refine rbq 0 ?_;refine rq 1 (fun ev wo E=>?_) ?_
        · have e54:ev (.tmp 54)=.int .i64 ((j:Int)+1):=E.e 0;have ec:=E.const;go_simp;exact qA9 ⟨Below.refl _ _,by show Value.int _ _=Value.int _ _;rw[IntWalk.i64_in _ ⟨by omega,by omega⟩]⟩
        refine rq 2 (fun ev wo E=>?_) ?_
        · have e53:ev (.tmp 53)=.slice (some ⟨g,o,none⟩) n cap:=E.e 0;have e55:ev (.tmp 55)=.int .i64 (j:Nat):=E.e 1;go_simp;exact rv
        refine rq 1 (fun ev wo E=>?_) ?_
        · have e56:ev (.tmp 56)=.pointer (some ⟨g,o+j*7,none⟩):=E.e 0;go_simp;exact rv
        refine rq 1 (fun ev wo E=>?_) ?_
        · have e57:ev (.tmp 57)=.pointer (some ⟨g,o+j*7,none⟩):=E.e 0;have hu:Below X.heap.size X wo:=HB.out.trans (E.bel.mono HB.out.size);have x0:=(hu.cell (qAg GP.out)).trans GP.out;clear hu;go_simp;exact rv
        refine rq 2 (fun ev wo E=>?_) ?_
        · have e52:ev (.tmp 52)=.int .i64 i0:=E.e 0;have e58:ev (.tmp 58)=.int .i64 ip:=E.e 1;go_simp;exact rv
        refine rq 2 (fun ev wo E=>?_) ?_
        · have e47:ev (.tmp 47)=.bool true:=E.e 0;have e59:ev (.tmp 59)=.bool false:=E.e 1;have ec:=E.const;go_simp;exact rv
        refine rf (fun ev wo E=>?_) ?_
        · have e44:ev (.tmp 44)=.bool false:=E.e 0;have e60:ev (.tmp 60)=.bool false:=E.e 1;have ec:=E.const;go_simp;exact rv
        refine rc 0 ?_;refine rbq 0 ?_;refine rbq 0 ?_;refine rq 2 (fun ev wo E=>?_) ?_
        · have e63:ev (.tmp 63)=.slice (some ⟨g,o,none⟩) n cap:=E.e 0;have e64:ev (.tmp 64)=.int .i64 ((j:Int)+1):=E.e 1;go_simp;exact rv
        refine rq 1 (fun ev wo E=>?_) ?_
        · have e65:ev (.tmp 65)=.pointer (some ⟨g,o+(j+1)*7,none⟩):=E.e 0;go_simp;exact rv
        refine rq 1 (fun ev wo E=>?_) ?_
        · have e66:ev (.tmp 66)=.pointer (some ⟨g,o+(j+1)*7+1,none⟩):=E.e 0;have hu:Below X.heap.size X wo:=HB.out.trans (E.bel.mono HB.out.size);have x0:=(hu.cell (qAg G2.out)).trans G2.out;clear hu;go_simp;exact rv
        refine rq 1 (fun ev wo E=>?_) ?_
        · have e67:ev (.tmp 67)=.string s0:=E.e 0;have ef:=E.func;have hc:=qB0 s0 wo hz1;rw[HNM.out] at hc;have HC2:=hh_ hc;clear hc;go_simp;refine qAb (HC2.out.mono ?_);rintro e w' ⟨rfl,hb⟩;exact⟨_,rfl,hb,rfl⟩
        refine rq 1 (fun ev wo E=>?_) ?_
        · have e68:ev (.tmp 68)=.bool false:=E.e 0;go_simp;exact rv
        refine rf (fun ev wo E=>?_) ?_
        · have e62:ev (.tmp 62)=.bool false:=E.e 0;have e69:ev (.tmp 69)=.bool true:=E.e 1;have ec:=E.const;go_simp;exact rv
        refine rc 0 ?_;refine ro 0 ?_;refine ro 0 ?_;refine ro 2 ?_;refine ro 1 ?_;refine ro 1 ?_;refine ro 0 ?_;refine ro 0 ?_;refine ro 2 ?_;refine ro 1 ?_;refine ro 1 ?_;refine ro 2 ?_;refine ro 1 ?_;refine rf (fun ev wo E=>?_) ?_
        · have e71:ev (.tmp 71)=.bool true:=E.e 0;have e83:ev (.tmp 83)=undef:=E.e 1;have ec:=E.const;go_simp;exact rv
        trivial
      · intro wz bz
        (iterate 55 rintro _ rfl);have BW:=hh_ (BX.out.trans ((HB.out.trans (bz.mono HB.out.size)).mono BX.out.size));simp only[qAq];go_simp
        go_wp2_with fail
        go_ret;exact⟨congrArg (fun i=>Ending.returned (.int .i64 i)) HBAD.out.symm,BW.out⟩
     |true=>
      have HNM:=hh_ hnm;clear hnm;by_cases hz:Z=0
      · subst hz; go_wp2_with fail
        refine qAe [isV (.slice (some ⟨g,o,none⟩) n cap),isV (.int .i64 ((j:Int)+1)),isV (.pointer (some ⟨g,o+(j+1)*7,none⟩)),isV (.pointer (some ⟨g,o+(j+1)*7,none⟩)),isV (.int .i64 i0),iF,iF,isV (.slice (some ⟨g,o,none⟩) n cap),isV (.int .i64 ((j:Int)+1)),isV (.pointer (some ⟨g,o+(j+1)*7,none⟩)),isV (.pointer (some ⟨g,o+(j+1)*7,none⟩)),isV (.int .i64 i0),iF,iF,iF,isV (.int .i64 ((j:Int)+1)),iT,iT,isV (.slice (some ⟨g,o,none⟩) n cap),isV (.int .i64 ((j:Int)+1)),isV (.pointer (some ⟨g,o+(j+1)*7,none⟩)),isV (.pointer (some ⟨g,o+(j+1)*7,none⟩)),isV (.int .i64 i0),isV (.slice (some ⟨g,o,none⟩) n cap),isV (.int .i64 ((j:Int)+1)),isV (.int .i64 (j:Nat)),isV (.pointer (some ⟨g,o+j*7,none⟩)),isV (.pointer (some ⟨g,o+j*7,none⟩)),isV (.int .i64 ip),iF,iF,iF,iF,isV (.slice (some ⟨g,o,none⟩) n cap),isV (.int .i64 ((j:Int)+1)),isV (.pointer (some ⟨g,o+(j+1)*7,none⟩)),isV (.pointer (some ⟨g,o+(j+1)*7+1,none⟩)),isV (.string s0),iT,iF,iF,iF,isV (.slice (some ⟨g,o,none⟩) n cap),isV (.int .i64 ((j:Int)+1)),isV (.pointer (some ⟨g,o+(j+1)*7,none⟩)),isV (.pointer (some ⟨g,o+(j+1)*7+2,none⟩)),isV (.agg #[.int .i64 k0,.bool u0]),isV (.slice (some ⟨g,o,none⟩) n cap),isV (.int .i64 ((j:Int)+1)),isV (.pointer (some ⟨g,o+(j+1)*7,none⟩)),isV (.pointer (some ⟨g,o+(j+1)*7+4,none⟩)),isV (.agg #[.bool n0,.int .i64 m0,.string t0]),isV (.int .i64 0),iF,iF] (by kernel_rfl) (by kernel_rfl) ?_ ?_
        ·
          refine rb ?_;refine rb ?_;refine rf (fun ev wo E=>?_) ?_
          · have e30:ev (.tmp 30)=.slice (some ⟨g,o,none⟩) n cap:=E.e 0;have e31:ev (.tmp 31)=.int .i64 ((j:Int)+1):=E.e 1;go_simp;exact rv
          refine rf (fun ev wo E=>?_) ?_
          · have e32:ev (.tmp 32)=.pointer (some ⟨g,o+(j+1)*7,none⟩):=E.e 0;go_simp;exact rv
          refine rf (fun ev wo E=>?_) ?_
          · have e33:ev (.tmp 33)=.pointer (some ⟨g,o+(j+1)*7,none⟩):=E.e 0;have hu:Below X.heap.size X wo:=HB.out.trans (E.bel.mono HB.out.size);have x0:=(hu.cell (qAg G1.out)).trans G1.out;clear hu;go_simp;exact rv
          refine rf (fun ev wo E=>?_) ?_
          · have e34:ev (.tmp 34)=.int .i64 i0:=E.e 0;have ec:=E.const;go_simp;exact rv
          refine rc 0 ?_;refine rbq 0 ?_;refine rbq 0 ?_;refine rq 2 (fun ev wo E=>?_) ?_
          · have e37:ev (.tmp 37)=.slice (some ⟨g,o,none⟩) n cap:=E.e 0;have e38:ev (.tmp 38)=.int .i64 ((j:Int)+1):=E.e 1;go_simp;exact rv
          refine rq 1 (fun ev wo E=>?_) ?_
          · have e39:ev (.tmp 39)=.pointer (some ⟨g,o+(j+1)*7,none⟩):=E.e 0;go_simp;exact rv
          refine rq 1 (fun ev wo E=>?_) ?_
          · have e40:ev (.tmp 40)=.pointer (some ⟨g,o+(j+1)*7,none⟩):=E.e 0;have hu:Below X.heap.size X wo:=HB.out.trans (E.bel.mono HB.out.size);have x0:=(hu.cell (qAg G1.out)).trans G1.out;clear hu;go_simp;exact rv
          refine rq 1 (fun ev wo E=>?_) ?_
          · have e41:ev (.tmp 41)=.int .i64 i0:=E.e 0;have ec:=E.const;go_simp;exact rv
          refine rf (fun ev wo E=>?_) ?_
          · have e36:ev (.tmp 36)=.bool false:=E.e 0;have e42:ev (.tmp 42)=.bool false:=E.e 1;have ec:=E.const;go_simp;exact rv
          refine rc 0 ?_;refine rbq 0 ?_;refine rq 1 (fun ev wo E=>?_) ?_
          · have e45:ev (.tmp 45)=.int .i64 ((j:Int)+1):=E.e 0;have ec:=E.const;go_simp;exact rv
          refine rcq 0 1 ?_;refine rbq 0 ?_;refine rbq 0 ?_;refine rq 2 (fun ev wo E=>?_) ?_
          · have e48:ev (.tmp 48)=.slice (some ⟨g,o,none⟩) n cap:=E.e 0;have e49:ev (.tmp 49)=.int .i64 ((j:Int)+1):=E.e 1;go_simp;exact rv
          refine rq 1 (fun ev wo E=>?_) ?_
          · have e50:ev (.tmp 50)=.pointer (some ⟨g,o+(j+1)*7,none⟩):=E.e 0;go_simp;exact rv
          refine rq 1 (fun ev wo E=>?_) ?_
          · have e51:ev (.tmp 51)=.pointer (some ⟨g,o+(j+1)*7,none⟩):=E.e 0;have hu:Below X.heap.size X wo:=HB.out.trans (E.bel.mono HB.out.size);have x0:=(hu.cell (qAg G1.out)).trans G1.out;clear hu;go_simp;exact rv
          refine rbq 0 ?_;refine rbq 0 ?_;refine rq 1 (fun ev wo E=>?_) ?_
          · have e54:ev (.tmp 54)=.int .i64 ((j:Int)+1):=E.e 0;have ec:=E.const;go_simp;exact qA9 ⟨Below.refl _ _,by show Value.int _ _=Value.int _ _;rw[IntWalk.i64_in _ ⟨by omega,by omega⟩]⟩
          refine rq 2 (fun ev wo E=>?_) ?_
          · have e53:ev (.tmp 53)=.slice (some ⟨g,o,none⟩) n cap:=E.e 0;have e55:ev (.tmp 55)=.int .i64 (j:Nat):=E.e 1;go_simp;exact rv
          refine rq 1 (fun ev wo E=>?_) ?_
          · have e56:ev (.tmp 56)=.pointer (some ⟨g,o+j*7,none⟩):=E.e 0;go_simp;exact rv
          refine rq 1 (fun ev wo E=>?_) ?_
          · have e57:ev (.tmp 57)=.pointer (some ⟨g,o+j*7,none⟩):=E.e 0;have hu:Below X.heap.size X wo:=HB.out.trans (E.bel.mono HB.out.size);have x0:=(hu.cell (qAg GP.out)).trans GP.out;clear hu;go_simp;exact rv
          refine rq 2 (fun ev wo E=>?_) ?_
          · have e52:ev (.tmp 52)=.int .i64 i0:=E.e 0;have e58:ev (.tmp 58)=.int .i64 ip:=E.e 1;go_simp;exact rv
          refine rq 2 (fun ev wo E=>?_) ?_
          · have e47:ev (.tmp 47)=.bool true:=E.e 0;have e59:ev (.tmp 59)=.bool false:=E.e 1;have ec:=E.const;go_simp;exact rv
          refine rf (fun ev wo E=>?_) ?_
          · have e44:ev (.tmp 44)=.bool false:=E.e 0;have e60:ev (.tmp 60)=.bool false:=E.e 1;have ec:=E.const;go_simp;exact rv
          refine rc 0 ?_;refine rbq 0 ?_;refine rbq 0 ?_;refine rq 2 (fun ev wo E=>?_) ?_
          · have e63:ev (.tmp 63)=.slice (some ⟨g,o,none⟩) n cap:=E.e 0;have e64:ev (.tmp 64)=.int .i64 ((j:Int)+1):=E.e 1;go_simp;exact rv
          refine rq 1 (fun ev wo E=>?_) ?_
          · have e65:ev (.tmp 65)=.pointer (some ⟨g,o+(j+1)*7,none⟩):=E.e 0;go_simp;exact rv
          refine rq 1 (fun ev wo E=>?_) ?_
          · have e66:ev (.tmp 66)=.pointer (some ⟨g,o+(j+1)*7+1,none⟩):=E.e 0;have hu:Below X.heap.size X wo:=HB.out.trans (E.bel.mono HB.out.size);have x0:=(hu.cell (qAg G2.out)).trans G2.out;clear hu;go_simp;exact rv
          refine rq 1 (fun ev wo E=>?_) ?_
          · have e67:ev (.tmp 67)=.string s0:=E.e 0;have ef:=E.func;have hc:=qB0 s0 wo hz1;rw[HNM.out] at hc;have HC2:=hh_ hc;clear hc;go_simp;refine qAb (HC2.out.mono ?_);rintro e w' ⟨rfl,hb⟩;exact⟨_,rfl,hb,rfl⟩
          refine rq 1 (fun ev wo E=>?_) ?_
          · have e68:ev (.tmp 68)=.bool true:=E.e 0;go_simp;exact rv
          refine rf (fun ev wo E=>?_) ?_
          · have e62:ev (.tmp 62)=.bool false:=E.e 0;have e69:ev (.tmp 69)=.bool false:=E.e 1;have ec:=E.const;go_simp;exact rv
          refine rc 0 ?_;refine rbq 0 ?_;refine rbq 0 ?_;refine rq 2 (fun ev wo E=>?_) ?_
          · have e72:ev (.tmp 72)=.slice (some ⟨g,o,none⟩) n cap:=E.e 0;have e73:ev (.tmp 73)=.int .i64 ((j:Int)+1):=E.e 1;go_simp;exact rv
          refine rq 1 (fun ev wo E=>?_) ?_
          · have e74:ev (.tmp 74)=.pointer (some ⟨g,o+(j+1)*7,none⟩):=E.e 0;go_simp;exact rv
          refine rq 1 (fun ev wo E=>?_) ?_
          · have e75:ev (.tmp 75)=.pointer (some ⟨g,o+(j+1)*7+2,none⟩):=E.e 0;have hu:Below X.heap.size X wo:=HB.out.trans (E.bel.mono HB.out.size);have x0:=(hu.cell (qAg G3.out)).trans G3.out;have x1:=(hu.cell (qAg G4.out)).trans G4.out;clear hu;go_simp;exact rv
          refine rbq 0 ?_;refine rbq 0 ?_;refine rq 2 (fun ev wo E=>?_) ?_
          · have e77:ev (.tmp 77)=.slice (some ⟨g,o,none⟩) n cap:=E.e 0;have e78:ev (.tmp 78)=.int .i64 ((j:Int)+1):=E.e 1;go_simp;exact rv
          refine rq 1 (fun ev wo E=>?_) ?_
          · have e79:ev (.tmp 79)=.pointer (some ⟨g,o+(j+1)*7,none⟩):=E.e 0;go_simp;exact rv
          refine rq 1 (fun ev wo E=>?_) ?_
          · have e80:ev (.tmp 80)=.pointer (some ⟨g,o+(j+1)*7+4,none⟩):=E.e 0;have hu:Below X.heap.size X wo:=HB.out.trans (E.bel.mono HB.out.size);have x0:=(hu.cell (qAg G5.out)).trans G5.out;have x1:=(hu.cell (qAg G6.out)).trans G6.out;have x2:=(hu.cell (qAg G7.out)).trans G7.out;clear hu;go_simp;exact rv
          refine rq 2 (fun ev wo E=>?_) ?_
          · have e76:ev (.tmp 76)=.agg #[.int .i64 k0,.bool u0]:=E.e 0;have e81:ev (.tmp 81)=.agg #[.bool n0,.int .i64 m0,.string t0]:=E.e 1;have ef:=E.func;have hc:=qEa k0 u0 n0 m0 t0 wo hz2 hz3 hz4;rw[HZ.out] at hc;have HC2:=hh_ hc;clear hc;go_simp;refine qAb (HC2.out.mono ?_);rintro e w' ⟨rfl,hb⟩;exact⟨_,rfl,hb,rfl⟩
          refine rq 1 (fun ev wo E=>?_) ?_
          · have e82:ev (.tmp 82)=.int .i64 0:=E.e 0;have ec:=E.const;go_simp;exact rv
          refine rf (fun ev wo E=>?_) ?_
          · have e71:ev (.tmp 71)=.bool false:=E.e 0;have e83:ev (.tmp 83)=.bool false:=E.e 1;have ec:=E.const;go_simp;exact rv
          trivial
        · intro wz bz
          (iterate 55 rintro _ rfl);have BZ:=hh_ (HB.out.trans (bz.mono HB.out.size));have qz:=cell_of_block (i:=1) (qAn QX.out BZ.out) rfl;clear bz;simp only[qAq];go_simp
          go_wp2_with fail
          go_loopw [5] (fun id wy=> ∃q:Nat,q≤(j+1)∧id=.int .i64 q∧Below X.heap.size X wy∧∀(i:Nat) a,i<q→cs[i]?=some a→a.2.1≠s0) (fun id _=>(j+1)-(RowKit.intOf id).toNat)
          case atStart=>exact⟨0,by omega,rfl,BZ.out,fun i a h=>absurd h (by omega)⟩
          case round=>
           obtain⟨q,hq,rfl,hbq,hpq⟩:=hrel;have HPQ:=hh_ hpq;have HBQ:=hh_ hbq;clear hpq hbq;by_cases hlq:q<j+1
           · have hqi:(q:Int)<(j:Int)+1:=by omega
             have hqn:(q:Int)<n:=by omega
             obtain⟨y,hy⟩:∃y,cs[q]?=some y:=⟨_,List.getElem?_eq_getElem (by rw[←HN.out];omega)⟩;obtain⟨i9,s9,⟨k9,u9⟩,n9,m9,t9⟩:=y;obtain⟨g',o',e',-,-,y2,-⟩:=HA.out.co hy;cases e'
             simp only at y2;have x2:=(HBQ.out.cell (qAg y2)).trans y2;have x3:=(HBQ.out.cell (qAg G2.out)).trans G2.out;have heq:=qUx s9 s0;have HY:=hh_ hy;clear hy y2;by_cases hs:s9=s0
             · have hbad:qAm cs ks=2:=qAo (fun h=>h.apart q (j+1) _ _ hlq HY.out HX.out hs);have HBAD:=hh_ hbad;rw[decide_eq_true hs] at heq;clear hbad hs;go_wp2_with fail
               go_quiet (fail)
               go_wp2_with fail
               go_ret;exact⟨congrArg (fun i=>Ending.returned (.int .i64 i)) HBAD.out.symm,BX.out.trans ((qAa HBQ.out _).mono BX.out.size)⟩
             · have HNE:=hh_ hs;rw[decide_eq_false hs] at heq;clear hs;go_wp2_with fail
               go_quiet (fail)
               go_wp2_with fail
               go_roundw
               case rel=>
                refine⟨q+1,by omega,by go_num,qAa HBQ.out _,fun i a hi ha=>?_⟩;by_cases e:i=q
                · subst e;rw[HY.out] at ha;cases ha;exact HNE.out
                · exact HPQ.out i a (by omega) ha
               case measure=>simp[RowKit.intOf];omega
           · have hqi:¬(q:Int)<(j:Int)+1:=by omega
             obtain rfl:q=j+1:=by omega
             go_wp2_with fail
             go_roundw
             case rel=>
              refine⟨j+1+1,by omega,by go_num,HBQ.out,fun i c hi hc=>?_,fun i a b' hi ha hb'=>?_,fun i i' a b' hii hi ha hb'=>?_⟩
              · by_cases e:i=(j+1)
                · subst e;rw[HX.out] at hc;cases hc;exact⟨⟨HNM.out,HZ.out⟩,by simp only;omega,by simp only;omega⟩
                · exact HR1.out i c (by omega) hc
              · by_cases e:i=j
                · subst e;rw[HP1.out] at ha;rw[HX.out] at hb';cases ha;cases hb'
                  simp only;omega
                · exact HR2.out i a b' (by omega) ha hb'
              · by_cases e:i'=j+1
                · subst e;rw[HX.out] at hb';cases hb'
                  exact HPQ.out i a hii ha
                · exact HR3.out i i' a b' hii (by omega) ha hb'
             case measure=>simp[RowKit.intOf];omega
      · have hbad:qAm cs ks=2:=qAo (fun h=>hz (by have:=(h.co _ _ HX.out).2;rw[←HZ.out];exact this));have hz2':(Z != 0)=true:=by simpa using hz
        have HBAD:=hh_ hbad;clear hbad;go_wp2_with fail
        refine qAe [isV (.slice (some ⟨g,o,none⟩) n cap),isV (.int .i64 ((j:Int)+1)),isV (.pointer (some ⟨g,o+(j+1)*7,none⟩)),isV (.pointer (some ⟨g,o+(j+1)*7,none⟩)),isV (.int .i64 i0),iF,iF,isV (.slice (some ⟨g,o,none⟩) n cap),isV (.int .i64 ((j:Int)+1)),isV (.pointer (some ⟨g,o+(j+1)*7,none⟩)),isV (.pointer (some ⟨g,o+(j+1)*7,none⟩)),isV (.int .i64 i0),iF,iF,iF,isV (.int .i64 ((j:Int)+1)),iT,iT,isV (.slice (some ⟨g,o,none⟩) n cap),isV (.int .i64 ((j:Int)+1)),isV (.pointer (some ⟨g,o+(j+1)*7,none⟩)),isV (.pointer (some ⟨g,o+(j+1)*7,none⟩)),isV (.int .i64 i0),isV (.slice (some ⟨g,o,none⟩) n cap),isV (.int .i64 ((j:Int)+1)),isV (.int .i64 (j:Nat)),isV (.pointer (some ⟨g,o+j*7,none⟩)),isV (.pointer (some ⟨g,o+j*7,none⟩)),isV (.int .i64 ip),iF,iF,iF,iF,isV (.slice (some ⟨g,o,none⟩) n cap),isV (.int .i64 ((j:Int)+1)),isV (.pointer (some ⟨g,o+(j+1)*7,none⟩)),isV (.pointer (some ⟨g,o+(j+1)*7+1,none⟩)),isV (.string s0),iT,iF,iF,iF,isV (.slice (some ⟨g,o,none⟩) n cap),isV (.int .i64 ((j:Int)+1)),isV (.pointer (some ⟨g,o+(j+1)*7,none⟩)),isV (.pointer (some ⟨g,o+(j+1)*7+2,none⟩)),isV (.agg #[.int .i64 k0,.bool u0]),isV (.slice (some ⟨g,o,none⟩) n cap),isV (.int .i64 ((j:Int)+1)),isV (.pointer (some ⟨g,o+(j+1)*7,none⟩)),isV (.pointer (some ⟨g,o+(j+1)*7+4,none⟩)),isV (.agg #[.bool n0,.int .i64 m0,.string t0]),isV (.int .i64 Z),iT,iT] (by kernel_rfl) (by kernel_rfl) ?_ ?_
        ·
          refine rb ?_;refine rb ?_;refine rf (fun ev wo E=>?_) ?_
          · have e30:ev (.tmp 30)=.slice (some ⟨g,o,none⟩) n cap:=E.e 0;have e31:ev (.tmp 31)=.int .i64 ((j:Int)+1):=E.e 1;go_simp;exact rv
          refine rf (fun ev wo E=>?_) ?_
          · have e32:ev (.tmp 32)=.pointer (some ⟨g,o+(j+1)*7,none⟩):=E.e 0;go_simp;exact rv
          refine rf (fun ev wo E=>?_) ?_
          · have e33:ev (.tmp 33)=.pointer (some ⟨g,o+(j+1)*7,none⟩):=E.e 0;have hu:Below X.heap.size X wo:=HB.out.trans (E.bel.mono HB.out.size);have x0:=(hu.cell (qAg G1.out)).trans G1.out;clear hu;go_simp;exact rv
          refine rf (fun ev wo E=>?_) ?_
          · have e34:ev (.tmp 34)=.int .i64 i0:=E.e 0;have ec:=E.const;go_simp;exact rv
          refine rc 0 ?_;refine rbq 0 ?_;refine rbq 0 ?_;refine rq 2 (fun ev wo E=>?_) ?_
          · have e37:ev (.tmp 37)=.slice (some ⟨g,o,none⟩) n cap:=E.e 0;have e38:ev (.tmp 38)=.int .i64 ((j:Int)+1):=E.e 1;go_simp;exact rv
          refine rq 1 (fun ev wo E=>?_) ?_
          · have e39:ev (.tmp 39)=.pointer (some ⟨g,o+(j+1)*7,none⟩):=E.e 0;go_simp;exact rv
          refine rq 1 (fun ev wo E=>?_) ?_
          · have e40:ev (.tmp 40)=.pointer (some ⟨g,o+(j+1)*7,none⟩):=E.e 0;have hu:Below X.heap.size X wo:=HB.out.trans (E.bel.mono HB.out.size);have x0:=(hu.cell (qAg G1.out)).trans G1.out;clear hu;go_simp;exact rv
          refine rq 1 (fun ev wo E=>?_) ?_
          · have e41:ev (.tmp 41)=.int .i64 i0:=E.e 0;have ec:=E.const;go_simp;exact rv
          refine rf (fun ev wo E=>?_) ?_
          · have e36:ev (.tmp 36)=.bool false:=E.e 0;have e42:ev (.tmp 42)=.bool false:=E.e 1;have ec:=E.const;go_simp;exact rv
          refine rc 0 ?_;refine rbq 0 ?_;refine rq 1 (fun ev wo E=>?_) ?_
          · have e45:ev (.tmp 45)=.int .i64 ((j:Int)+1):=E.e 0;have ec:=E.const;go_simp;exact rv
          refine rcq 0 1 ?_;refine rbq 0 ?_;refine rbq 0 ?_;refine rq 2 (fun ev wo E=>?_) ?_
          · have e48:ev (.tmp 48)=.slice (some ⟨g,o,none⟩) n cap:=E.e 0;have e49:ev (.tmp 49)=.int .i64 ((j:Int)+1):=E.e 1;go_simp;exact rv
          refine rq 1 (fun ev wo E=>?_) ?_
          · have e50:ev (.tmp 50)=.pointer (some ⟨g,o+(j+1)*7,none⟩):=E.e 0;go_simp;exact rv
          refine rq 1 (fun ev wo E=>?_) ?_
          · have e51:ev (.tmp 51)=.pointer (some ⟨g,o+(j+1)*7,none⟩):=E.e 0;have hu:Below X.heap.size X wo:=HB.out.trans (E.bel.mono HB.out.size);have x0:=(hu.cell (qAg G1.out)).trans G1.out;clear hu;go_simp;exact rv
          refine rbq 0 ?_;refine rbq 0 ?_;refine rq 1 (fun ev wo E=>?_) ?_
          · have e54:ev (.tmp 54)=.int .i64 ((j:Int)+1):=E.e 0;have ec:=E.const;go_simp;exact qA9 ⟨Below.refl _ _,by show Value.int _ _=Value.int _ _;rw[IntWalk.i64_in _ ⟨by omega,by omega⟩]⟩
          refine rq 2 (fun ev wo E=>?_) ?_
          · have e53:ev (.tmp 53)=.slice (some ⟨g,o,none⟩) n cap:=E.e 0;have e55:ev (.tmp 55)=.int .i64 (j:Nat):=E.e 1;go_simp;exact rv
          refine rq 1 (fun ev wo E=>?_) ?_
          · have e56:ev (.tmp 56)=.pointer (some ⟨g,o+j*7,none⟩):=E.e 0;go_simp;exact rv
          refine rq 1 (fun ev wo E=>?_) ?_
          · have e57:ev (.tmp 57)=.pointer (some ⟨g,o+j*7,none⟩):=E.e 0;have hu:Below X.heap.size X wo:=HB.out.trans (E.bel.mono HB.out.size);have x0:=(hu.cell (qAg GP.out)).trans GP.out;clear hu;go_simp;exact rv
          refine rq 2 (fun ev wo E=>?_) ?_
          · have e52:ev (.tmp 52)=.int .i64 i0:=E.e 0;have e58:ev (.tmp 58)=.int .i64 ip:=E.e 1;go_simp;exact rv
          refine rq 2 (fun ev wo E=>?_) ?_
          · have e47:ev (.tmp 47)=.bool true:=E.e 0;have e59:ev (.tmp 59)=.bool false:=E.e 1;have ec:=E.const;go_simp;exact rv
          refine rf (fun ev wo E=>?_) ?_
          · have e44:ev (.tmp 44)=.bool false:=E.e 0;have e60:ev (.tmp 60)=.bool false:=E.e 1;have ec:=E.const;go_simp;exact rv
          refine rc 0 ?_;refine rbq 0 ?_;refine rbq 0 ?_;refine rq 2 (fun ev wo E=>?_) ?_
          · have e63:ev (.tmp 63)=.slice (some ⟨g,o,none⟩) n cap:=E.e 0;have e64:ev (.tmp 64)=.int .i64 ((j:Int)+1):=E.e 1;go_simp;exact rv
          refine rq 1 (fun ev wo E=>?_) ?_
          · have e65:ev (.tmp 65)=.pointer (some ⟨g,o+(j+1)*7,none⟩):=E.e 0;go_simp;exact rv
          refine rq 1 (fun ev wo E=>?_) ?_
          · have e66:ev (.tmp 66)=.pointer (some ⟨g,o+(j+1)*7+1,none⟩):=E.e 0;have hu:Below X.heap.size X wo:=HB.out.trans (E.bel.mono HB.out.size);have x0:=(hu.cell (qAg G2.out)).trans G2.out;clear hu;go_simp;exact rv
          refine rq 1 (fun ev wo E=>?_) ?_
          · have e67:ev (.tmp 67)=.string s0:=E.e 0;have ef:=E.func;have hc:=qB0 s0 wo hz1;rw[HNM.out] at hc;have HC2:=hh_ hc;clear hc;go_simp;refine qAb (HC2.out.mono ?_);rintro e w' ⟨rfl,hb⟩;exact⟨_,rfl,hb,rfl⟩
          refine rq 1 (fun ev wo E=>?_) ?_
          · have e68:ev (.tmp 68)=.bool true:=E.e 0;go_simp;exact rv
          refine rf (fun ev wo E=>?_) ?_
          · have e62:ev (.tmp 62)=.bool false:=E.e 0;have e69:ev (.tmp 69)=.bool false:=E.e 1;have ec:=E.const;go_simp;exact rv
          refine rc 0 ?_;refine rbq 0 ?_;refine rbq 0 ?_;refine rq 2 (fun ev wo E=>?_) ?_
          · have e72:ev (.tmp 72)=.slice (some ⟨g,o,none⟩) n cap:=E.e 0;have e73:ev (.tmp 73)=.int .i64 ((j:Int)+1):=E.e 1;go_simp;exact rv
          refine rq 1 (fun ev wo E=>?_) ?_
          · have e74:ev (.tmp 74)=.pointer (some ⟨g,o+(j+1)*7,none⟩):=E.e 0;go_simp;exact rv
          refine rq 1 (fun ev wo E=>?_) ?_
          · have e75:ev (.tmp 75)=.pointer (some ⟨g,o+(j+1)*7+2,none⟩):=E.e 0;have hu:Below X.heap.size X wo:=HB.out.trans (E.bel.mono HB.out.size);have x0:=(hu.cell (qAg G3.out)).trans G3.out;have x1:=(hu.cell (qAg G4.out)).trans G4.out;clear hu;go_simp;exact rv
          refine rbq 0 ?_;refine rbq 0 ?_;refine rq 2 (fun ev wo E=>?_) ?_
          · have e77:ev (.tmp 77)=.slice (some ⟨g,o,none⟩) n cap:=E.e 0;have e78:ev (.tmp 78)=.int .i64 ((j:Int)+1):=E.e 1;go_simp;exact rv
          refine rq 1 (fun ev wo E=>?_) ?_
          · have e79:ev (.tmp 79)=.pointer (some ⟨g,o+(j+1)*7,none⟩):=E.e 0;go_simp;exact rv
          refine rq 1 (fun ev wo E=>?_) ?_
          · have e80:ev (.tmp 80)=.pointer (some ⟨g,o+(j+1)*7+4,none⟩):=E.e 0;have hu:Below X.heap.size X wo:=HB.out.trans (E.bel.mono HB.out.size);have x0:=(hu.cell (qAg G5.out)).trans G5.out;have x1:=(hu.cell (qAg G6.out)).trans G6.out;have x2:=(hu.cell (qAg G7.out)).trans G7.out;clear hu;go_simp;exact rv
          refine rq 2 (fun ev wo E=>?_) ?_
          · have e76:ev (.tmp 76)=.agg #[.int .i64 k0,.bool u0]:=E.e 0;have e81:ev (.tmp 81)=.agg #[.bool n0,.int .i64 m0,.string t0]:=E.e 1;have ef:=E.func;have hc:=qEa k0 u0 n0 m0 t0 wo hz2 hz3 hz4;rw[HZ.out] at hc;have HC2:=hh_ hc;clear hc;go_simp;refine qAb (HC2.out.mono ?_);rintro e w' ⟨rfl,hb⟩;exact⟨_,rfl,hb,rfl⟩
          refine rq 1 (fun ev wo E=>?_) ?_
          · have e82:ev (.tmp 82)=.int .i64 Z:=E.e 0;have ec:=E.const;go_simp;exact rv
          refine rf (fun ev wo E=>?_) ?_
          · have e71:ev (.tmp 71)=.bool false:=E.e 0;have e83:ev (.tmp 83)=.bool true:=E.e 1;have ec:=E.const;go_simp;exact rv
          trivial
        · intro wz bz
          (iterate 55 rintro _ rfl);have BW:=hh_ (BX.out.trans ((HB.out.trans (bz.mono HB.out.size)).mono BX.out.size));simp only[qAq];go_simp
          go_wp2_with fail
          go_ret;exact⟨congrArg (fun i=>Ending.returned (.int .i64 i)) HBAD.out.symm,BW.out⟩
  · have hki:¬(k:Int)<n:=by omega
    obtain rfl:k=n:=by omega
    go_wp2_with fail
    go_loopw [6] (fun id wy=> ∃i:Nat,i≤m∧id=.int .i64 i∧Below X.heap.size X wy∧(∀(i':Nat) k' (c':Unit),i'<i→ks[i']?=some k'→True→0≤k'∧k'<k∧∀d,cs[k'.toNat]?=some d→d.2.2.1.2=false)∧∀(i':Nat) a b,i'+1<i→ks[i']?=some a→ks[i'+1]?=some b→a<b) (fun id _=>m-(RowKit.intOf id).toNat)
    case atStart=>exact⟨0,by omega,rfl,HB.out,fun j c _ h=>absurd h (by omega),fun j a b h=>absurd h (by omega)⟩
    case round=>
     obtain⟨i,hi,rfl,hby,hs1,hs2⟩:=hrel
     have HS1:=hh_ hs1;have HS2:=hh_ hs2;have HY:=hh_ hby
     have qy:=cell_of_block (i:=1) (qAn QX.out hby) rfl
     clear hs1 hs2 hby
     by_cases hli:i<m
     · have hii:(i:Int)<m:=by omega
       obtain⟨x,hx⟩:∃x,ks[i]?=some x:=⟨_,List.getElem?_eq_getElem (by rw[←HM.out];omega)⟩;obtain⟨gk,ok,rfl,-,y1⟩:=HBK.out.num hx;have HKX:=hh_ hx;clear hx
       cases i with
       | zero =>
        rw[Nat.add_zero] at y1;have x1:=(HY.out.cell (qAg y1)).trans y1;clear y1;by_cases d1:x<0
        · have hbad:qAm cs ks=2:=qAo (fun h=>by have:=(h.kin _ _ HKX.out).1;omega);have HBAD:=hh_ hbad;clear hbad;go_wp2_with fail
          go_ret;exact⟨congrArg (fun i=>Ending.returned (.int .i64 i)) HBAD.out.symm,BX.out.trans (HY.out.mono BX.out.size)⟩
        by_cases d2:(k:Int)≤x
        · have hbad:qAm cs ks=2:=qAo (fun h=>by have:=(h.kin _ _ HKX.out).2;have:=HN.out;omega);have HBAD:=hh_ hbad;clear hbad;go_wp2_with fail
          go_ret;exact⟨congrArg (fun i=>Ending.returned (.int .i64 i)) HBAD.out.symm,BX.out.trans (HY.out.mono BX.out.size)⟩
        obtain⟨p,rfl⟩:∃p:Nat,x=p:=⟨x.toNat,by omega⟩;have hpn:(p:Int)<k:=by omega
        obtain⟨c,hc⟩:∃c,cs[p]?=some c:=⟨_,List.getElem?_eq_getElem (by rw[←HN.out];omega)⟩;obtain⟨gc,oc,rfl,-,-,-,-,y4,-⟩:=HA.out.co hc;have x4:=(HY.out.cell (qAg y4)).trans y4;have x4':wr.cell? ⟨gc,oc+p*7+2+1,none⟩=some (.bool c.2.2.1.2):=by rw[show oc+p*7+2+1=oc+p*7+3 by omega];exact x4
        have HC:=hh_ hc;clear hc y4 x4;obtain⟨nl,hnl⟩:∃u,c.2.2.1.2=u:=⟨_,rfl⟩;rw[hnl] at x4'
        cases nl with
        |true=>
         have hbad:qAm cs ks=2:=qAo (fun h=>by have:=h.full _ _ c HKX.out (by simpa using HC.out);rw[hnl] at this;cases this);have HBAD:=hh_ hbad;clear hbad;go_wp2_with fail
         go_ret;exact⟨congrArg (fun i=>Ending.returned (.int .i64 i)) HBAD.out.symm,BX.out.trans (HY.out.mono BX.out.size)⟩
        | false=>
         have HNL:=hh_ hnl;clear hnl;go_wp2_with fail
         go_roundw
         case rel=>
          refine⟨1,by omega,by go_num,HY.out,fun i' k' c' hi hk' hc'=>?_,fun i' a b' hi ha hb'=>?_⟩
          · by_cases e:i'=0
            · subst e;rw[HKX.out] at hk';cases hk'
              refine⟨by omega,hpn,fun d hd=>?_⟩;have:cs[p]?=some d:=by simpa using hd
              rw[HC.out] at this;cases this;exact HNL.out
            · exact HS1.out i' k' c' (by omega) hk' hc'
          · omega
         case measure=>simp[RowKit.intOf];omega
       | succ i=>
        have x1:=(HY.out.cell (qAg y1)).trans y1;obtain⟨xp,hxp⟩:∃x,ks[i]?=some x:=⟨_,List.getElem?_eq_getElem (by rw[←HM.out];omega)⟩;obtain⟨gp,op,ep,-,y2⟩:=HBK.out.num hxp;cases ep;have x2:=(HY.out.cell (qAg y2)).trans y2;have HKP:=hh_ hxp;have him:(i:Int)<m:=by omega
        have him1:(i:Int)+1<m:=by omega
        clear y1 y2 hxp;by_cases d1:x<0
        · have hbad:qAm cs ks=2:=qAo (fun h=>by have:=(h.kin _ _ HKX.out).1;omega);have HBAD:=hh_ hbad;clear hbad;go_wp2_with fail
          go_ret;exact⟨congrArg (fun i=>Ending.returned (.int .i64 i)) HBAD.out.symm,BX.out.trans (HY.out.mono BX.out.size)⟩
        by_cases d2:(k:Int)≤x
        · have hbad:qAm cs ks=2:=qAo (fun h=>by have:=(h.kin _ _ HKX.out).2;have:=HN.out;omega);have HBAD:=hh_ hbad;clear hbad;go_wp2_with fail
          go_ret;exact⟨congrArg (fun i=>Ending.returned (.int .i64 i)) HBAD.out.symm,BX.out.trans (HY.out.mono BX.out.size)⟩
        obtain⟨p,rfl⟩:∃p:Nat,x=p:=⟨x.toNat,by omega⟩;have hpn:(p:Int)<k:=by omega
        obtain⟨c,hc⟩:∃c,cs[p]?=some c:=⟨_,List.getElem?_eq_getElem (by rw[←HN.out];omega)⟩;obtain⟨gc,oc,rfl,-,-,-,-,y4,-⟩:=HA.out.co hc;have x4:=(HY.out.cell (qAg y4)).trans y4;have x4':wr.cell? ⟨gc,oc+p*7+2+1,none⟩=some (.bool c.2.2.1.2):=by rw[show oc+p*7+2+1=oc+p*7+3 by omega];exact x4
        have HC:=hh_ hc;clear hc y4 x4;by_cases d3:(p:Int)≤xp
        · have hbad:qAm cs ks=2:=qAo (fun h=>by have:=h.kup _ _ _ HKP.out HKX.out;omega);have HBAD:=hh_ hbad;clear hbad;go_wp2_with fail
          go_ret;exact⟨congrArg (fun i=>Ending.returned (.int .i64 i)) HBAD.out.symm,BX.out.trans (HY.out.mono BX.out.size)⟩
        obtain⟨nl,hnl⟩:∃u,c.2.2.1.2=u:=⟨_,rfl⟩;rw[hnl] at x4'
        cases nl with
        |true=>
         have hbad:qAm cs ks=2:=qAo (fun h=>by have:=h.full _ _ c HKX.out (by simpa using HC.out);rw[hnl] at this;cases this);have HBAD:=hh_ hbad;clear hbad;go_wp2_with fail
         go_ret;exact⟨congrArg (fun i=>Ending.returned (.int .i64 i)) HBAD.out.symm,BX.out.trans (HY.out.mono BX.out.size)⟩
        | false=>
         have HNL:=hh_ hnl;clear hnl;go_wp2_with fail
         go_roundw
         case rel=>
          refine⟨i+1+1,by omega,by go_num,HY.out,fun i' k' c' hi hk' hc'=>?_,fun i' a b' hi ha hb'=>?_⟩
          · by_cases e:i'=(i+1)
            · subst e;rw[HKX.out] at hk';cases hk'
              refine⟨by omega,hpn,fun d hd=>?_⟩;have:cs[p]?=some d:=by simpa using hd
              rw[HC.out] at this;cases this;exact HNL.out
            · exact HS1.out i' k' c' (by omega) hk' hc'
          · by_cases e:i'=i
            · subst e;rw[HKP.out] at ha;rw[HKX.out] at hb';cases ha;cases hb'
              omega
            · exact HS2.out i' a b' (by omega) ha hb'
         case measure=>simp[RowKit.intOf];omega
     · have hii:¬(i:Int)<m:=by omega
       obtain rfl:i=m:=by omega
       have hgood:qAm cs ks=0:=qLi ⟨fun j c hc=>(HR1.out j c (by have:=(List.getElem?_eq_some_iff.1 hc).1;have:=HN.out;omega) hc).1,by have:=HN.out;omega,by have:=HN.out;omega,
         fun a b x y hab hx hy=>HR3.out a b x y hab (by have:=(List.getElem?_eq_some_iff.1 hy).1;have:=HN.out;omega) hx hy,
         fun j c hc=>(HR1.out j c (by have:=(List.getElem?_eq_some_iff.1 hc).1;have:=HN.out;omega) hc).2,
         fun j a b ha hb'=>HR2.out j a b (by have:=(List.getElem?_eq_some_iff.1 hb').1;have:=HN.out;omega) ha hb',
         by have:=HM.out;omega,fun j x hx=>by have h:=HS1.out j x () (by have:=(List.getElem?_eq_some_iff.1 hx).1;have:=HM.out;omega) hx trivial;have:=HN.out;exact⟨h.1,by omega⟩,
         fun j a b ha hb'=>HS2.out j a b (by have:=(List.getElem?_eq_some_iff.1 hb').1;have:=HM.out;omega) ha hb',
         fun j x c hx hc=>(HS1.out j x () (by have:=(List.getElem?_eq_some_iff.1 hx).1;have:=HM.out;omega) hx trivial).2.2 c hc⟩
       have HBAD:=hh_ hgood;clear hgood;go_wp2_with fail
       go_ret;exact⟨congrArg (fun i=>Ending.returned (.int .i64 i)) HBAD.out.symm,BX.out.trans (HY.out.mono BX.out.size)⟩
end Go.Proofs.YtainiaighnjpfaaGreatDoor
