/- Schemas: the column of a line. -/
import Derived.Test.YtainiaighnjpfaaGreatDoorZQp
import Derived.Test.YtainiaighnjpfaaGreatDoorZQq
set_option linter.unusedVariables false
set_option linter.unusedSimpArgs false
namespace Go.Ms
open Go.RowKit Go.Lib
def qAu (s:Bs):Option (Co×Bool):=if (qBc 10 s).2=true then qGa (qBc 10 s).1 else none
theorem qCw {w:World} {b:Nat} {x0 x1 x2 x3 x4 x5 x6:Value} {T:TypeId} (h:w.heap[b]?=some (.cells #[x0,x1,x2,x3,x4,x5,x6] T (0,0))) (p0 p1 p2 p3 p4 p5 p6:Value) :
    (((((((w.setCell ⟨b,0,none⟩ p0).setCell ⟨b,1,none⟩ p1).setCell ⟨b,2,none⟩ p2).setCell ⟨b,3,none⟩ p3).setCell ⟨b,4,none⟩ p4).setCell ⟨b,5,none⟩ p5).setCell ⟨b,6,none⟩ p6).heap[b]?=some (.cells #[p0,p1,p2,p3,p4,p5,p6] T (0,0)):=by
 simp[World.setCell,Array.getElem?_modify,h]
theorem qB2 {B:Nat} {w0 w:World} {b:Nat} (h:Below B w0 w) (hb:B≤b) (p0 p1 p2 p3 p4 p5 p6:Value) :
    Below B w0 (((((((w.setCell ⟨b,0,none⟩ p0).setCell ⟨b,1,none⟩ p1).setCell ⟨b,2,none⟩ p2).setCell ⟨b,3,none⟩ p3).setCell ⟨b,4,none⟩ p4).setCell ⟨b,5,none⟩ p5).setCell ⟨b,6,none⟩ p6):=
  ((((((h.setCell (p:=⟨b,0,none⟩) hb _).setCell (p:=⟨b,1,none⟩) hb _).setCell (p:=⟨b,2,none⟩) hb _).setCell (p:=⟨b,3,none⟩) hb _).setCell (p:=⟨b,4,none⟩) hb _).setCell (p:=⟨b,5,none⟩) hb _).setCell (p:=⟨b,6,none⟩) hb _
theorem List.size_toArray_mk (l:Bs):(ByteArray.mk l.toArray).size=l.length:=List.size_toArray
theorem qAc {w:World} {b i:Nat} {cs:Array Value} {T:TypeId} (h:w.heap[b]?=some (.cells cs T (0,0))):w.frozen? ⟨b,i,none⟩=false:=by simp[World.frozen?,h]
theorem fz_ (i:Nat) {w:World} {b:Nat} {cs:Array Value} {T:TypeId} (h:w.heap[b]?=some (.cells cs T (0,0))):w.frozen? ⟨b,i,none⟩=false:=qAc h
theorem cb_ (i:Nat) {w:World} {b:Nat} {cs:Array Value} {T:TypeId} {v:Value} (h:w.heap[b]?=some (.cells cs T (0,0))) (hv:cs[i]?=some v):w.cell? ⟨b,i,none⟩=some v:=cell_of_block h hv
theorem bk_ {w w':World} {b:Nat} {o:Obj} (h:w.heap[b]?=some o) (hb:Below w.heap.size w w'):w'.heap[b]?=some o:=qAn h hb
theorem bx_ {w:World} {b:Nat} {o:Obj} (h:w.heap[b]?=some o) (o':Obj):(w.alloc o').heap[b]?=some o:=qCd h o'
theorem iw_ (n:Int) (h: -9223372036854775808≤n∧n≤9223372036854775807):IntKind.i64.wrap n=n:=IntWalk.i64_in n h
theorem ml_ {n:Nat} (h:n≤9223372036854775807:=by omega):n≤maxLen:=by unfold maxLen;omega
end Go.Ms
namespace Go.Proofs.YtainiaighnjpfaaGreatDoor
open Go.RowKit Go.Ms Go.Lib Go.Rel
set_option maxRecDepth 100000 in
set_option maxHeartbeats 4000000 in
theorem qK3 (S : ByteArray) (w:World) (hs:S.size≤20000) (hE:Env w) :
    Calls Tryz.prog 89 #[.string S] w fun e w'=>(∃c k b,e=.returned (.tuple #[coA c,.bool k,.bool b])∧(b=true→qAu S.data.toList=some (c,k))∧(b=false→qAu S.data.toList=none))∧Below w.heap.size w w':=by
 have hcut:=fun w=>Tryz.strings_CutSuffix S ⟨#[10]⟩ w (by omega)
 have hse:=qL1 10 S.data.toList;have hsd:(ByteArray.mk #[10]).data.toList=[10]:=rfl;simp only[hsd] at hcut;obtain⟨T,hT⟩:∃T,trimSuffix S.data.toList [10]=T:=⟨_,rfl⟩;obtain⟨wh,hwh⟩:∃u,hasSuffix S.data.toList [10]=u:=⟨_,rfl⟩;rw[hT,hwh] at hse;simp only[hT,hwh] at hcut;have hlr:qAu S.data.toList=if wh=true then qGa T else none:=by unfold qAu;rw[hse]
 have hTl:T.length≤20000:=by
  rw[←hT];unfold trimSuffix;have:S.data.toList.length=S.size:=by simp
  split
  · rw[List.length_take];omega
  · omega
 have hTs:(ByteArray.mk T.toArray).size=T.length:=List.size_toArray;obtain⟨X,hX⟩:∃X,X=w.alloc (.cells #[.int .i64 0,.string ⟨#[]⟩,.int .i64 0,.bool false,.bool false,.int .i64 0,.string ⟨#[]⟩] 45):=⟨_,rfl⟩;have bX:Below w.heap.size w X:=by rw[hX];exact(Below.refl _ w).alloc le_ _
 have qX:X.heap[w.heap.size]?=some (.cells #[.int .i64 0,.string ⟨#[]⟩,.int .i64 0,.bool false,.bool false,.int .i64 0,.string ⟨#[]⟩] 45 (0,0)):=by rw[hX];exact qAd _ _
 have hEX:=hE.below bX;have hsp:=qRl ⟨T.toArray⟩ X (by omega) hEX;have e4:(ByteArray.mk T.toArray).data.toList=T:=rfl;simp only[e4] at hsp;have HCUT:=hh_ hcut;have HSP:=hh_ hsp;have HLR:=hh_ hlr;have HE:=hh_ hEX;have BX:=hh_ bX;have QX:=hh_ qX;have HTL:=hh_ hTl;have HTS:=hh_ hTs;clear hcut hsp hlr hE hEX bX qX hTl hTs hse hsd hT hwh e4;go_enter Tryz.func89,Tryz.ntmps89;go_wp2_with fail
 rw[←hX];clear hX;refine(HCUT.out _).mono ?_;rintro en wq ⟨rfl,hw⟩;rw[hw];clear hw wq;go_wp2_with fail
 refine HSP.out.mono ?_;rintro en w1 ⟨hres,b1⟩;have q1:=qAn QX.out b1;have r0:=cell_of_block (i:=0) q1 rfl;have r1:=cell_of_block (i:=1) q1 rfl;have r2:=cell_of_block (i:=2) q1 rfl;have r3:=cell_of_block (i:=3) q1 rfl;have r4:=cell_of_block (i:=4) q1 rfl;have r5:=cell_of_block (i:=5) q1 rfl;have r6:=cell_of_block (i:=6) q1 rfl;have f0:=qAc (i:=0) q1;have f1:=qAc (i:=1) q1;have f2:=qAc (i:=2) q1;have f3:=qAc (i:=3) q1;have f4:=qAc (i:=4) q1;have f5:=qAc (i:=5) q1;have f6:=qAc (i:=6) q1;have Q1:=hh_ q1;have B1:=hh_ (BX.out.trans (b1.mono BX.out.size));clear q1;have fin:∀(k:Bool),qAu S.data.toList=none→(∃c k' b,Ending.returned (.tuple #[coA zCo,.bool k,.bool false])=.returned (.tuple #[coA c,.bool k',.bool b])∧(b=true→qAu S.data.toList=some (c,k'))∧(b=false→qAu S.data.toList=none)):=fun k h=>⟨_,_,_,rfl,fun e=>(by cases e),fun _=>h⟩
 have FIN:=hh_ fin;clear fin
 cases wh with
 | false=>
  have hno:qAu S.data.toList=none:=by rw[HLR.out];rfl
  have HNO:=hh_ hno;clear hno
  have hv:∃v:Value,en=.returned v:=by
   rcases hres with⟨_,A,n,c,rfl,_⟩|⟨p,_,rfl,_⟩
   · exact⟨_,rfl⟩
   · exact⟨_,rfl⟩
  obtain⟨v,rfl⟩:=hv;clear hres b1;go_wp2_with fail
  have z:=qCw Q1.out (.int .i64 0) (.string ⟨#[]⟩) (.int .i64 0) (.bool false) (.bool false) (.int .i64 0) (.string ⟨#[]⟩);have hb:=qB2 B1.out le_ (.int .i64 0) (.string ⟨#[]⟩) (.int .i64 0) (.bool false) (.bool false) (.int .i64 0) (.string ⟨#[]⟩);generalize (((((((w1.setCell ⟨w.heap.size,0,none⟩ (.int .i64 0)).setCell ⟨w.heap.size,1,none⟩ (.string ⟨#[]⟩)).setCell ⟨w.heap.size,2,none⟩ (.int .i64 0)).setCell ⟨w.heap.size,3,none⟩ (.bool false)).setCell ⟨w.heap.size,4,none⟩ (.bool false)).setCell ⟨w.heap.size,5,none⟩ (.int .i64 0)).setCell ⟨w.heap.size,6,none⟩ (.string ⟨#[]⟩))=W3 at z hb ⊢;have z0:=cell_of_block (w:=W3) (i:=0) z rfl;have z1:=cell_of_block (w:=W3) (i:=1) z rfl;have z2:=cell_of_block (w:=W3) (i:=2) z rfl;have z3:=cell_of_block (w:=W3) (i:=3) z rfl;have z4:=cell_of_block (w:=W3) (i:=4) z rfl;have z5:=cell_of_block (w:=W3) (i:=5) z rfl;have z6:=cell_of_block (w:=W3) (i:=6) z rfl;refine bodyPost_ret (v:=.tuple #[coA zCo,.bool false,.bool false]) (by simp[results,Tryz.results89,go_sem,coA,zCo,z0,z1,z2,z3,z4,z5,z6]) rfl ?_;exact⟨FIN.out _ HNO.out,hb⟩
 | true=>
  rw[if_pos rfl] at HLR;rcases hres with⟨hpn,A,n,c,rfl,hn4⟩|⟨p,hp,rfl,qp⟩
  · have hno:qAu S.data.toList=none:=by rw[HLR.out,qIg,hpn]
    have HNO:=hh_ hno;have hn4':(n:Int)<4:=by omega
    clear hno hpn b1;go_wp2_with fail
    have z:=qCw Q1.out (.int .i64 0) (.string ⟨#[]⟩) (.int .i64 0) (.bool false) (.bool false) (.int .i64 0) (.string ⟨#[]⟩);have hb:=qB2 B1.out le_ (.int .i64 0) (.string ⟨#[]⟩) (.int .i64 0) (.bool false) (.bool false) (.int .i64 0) (.string ⟨#[]⟩);generalize (((((((w1.setCell ⟨w.heap.size,0,none⟩ (.int .i64 0)).setCell ⟨w.heap.size,1,none⟩ (.string ⟨#[]⟩)).setCell ⟨w.heap.size,2,none⟩ (.int .i64 0)).setCell ⟨w.heap.size,3,none⟩ (.bool false)).setCell ⟨w.heap.size,4,none⟩ (.bool false)).setCell ⟨w.heap.size,5,none⟩ (.int .i64 0)).setCell ⟨w.heap.size,6,none⟩ (.string ⟨#[]⟩))=W3 at z hb ⊢;have z0:=cell_of_block (w:=W3) (i:=0) z rfl;have z1:=cell_of_block (w:=W3) (i:=1) z rfl;have z2:=cell_of_block (w:=W3) (i:=2) z rfl;have z3:=cell_of_block (w:=W3) (i:=3) z rfl;have z4:=cell_of_block (w:=W3) (i:=4) z rfl;have z5:=cell_of_block (w:=W3) (i:=5) z rfl;have z6:=cell_of_block (w:=W3) (i:=6) z rfl;refine bodyPost_ret (v:=.tuple #[coA zCo,.bool false,.bool false]) (by simp[results,Tryz.results89,go_sem,coA,zCo,z0,z1,z2,z3,z4,z5,z6]) rfl ?_;exact⟨FIN.out _ HNO.out,hb⟩
  have hrp:qAu S.data.toList=qFi p.1 p.2.1 p.2.2.1 p.2.2.2:=by rw[HLR.out,qIg,hp]
  obtain⟨hp3,hpe⟩:=qKt hp;obtain⟨pa,pb,pc,pd⟩:=p;simp only at hrp qp hpe
  have hpl:pa.length+pb.length+pc.length+pd.length≤20000:=by
   have:=congrArg List.length hpe;simp at this;have:=HTL.out;omega
  obtain⟨g,hg⟩:∃g,X.heap.size=g:=⟨_,rfl⟩;rw[hg] at qp ⊢;have t0:=cell_of_block (i:=0) qp rfl;have t1:=cell_of_block (i:=1) qp rfl;have hnm:=qHv ⟨pb.toArray⟩ w1 (by rw[List.size_toArray_mk];omega);have e5:(ByteArray.mk pb.toArray).data.toList=pb:=rfl;rw[e5] at hnm;have HRP:=hh_ hrp;have HPL:=hh_ hpl;have QP:=hh_ qp;have HNM:=hh_ hnm;have E1:=hh_ (HE.out.below b1);clear hrp hp3 hpe hp hpl qp hnm e5 HLR b1 hg
  cases hn:isNm pb with
  |false=>
   have hno:qAu S.data.toList=none:=by rw[HRP.out];unfold qFi;rw[if_neg (fun h=>by rw[hn] at h;cases h.1)]
   have HNO:=hh_ hno;rw[hn] at HNM;clear hno hn;go_wp2_with fail
   refine HNM.out.mono ?_;rintro en w2 ⟨rfl,b2⟩;have q2:=qAn Q1.out b2;have s0:=cell_of_block (i:=0) q2 rfl;have s1:=cell_of_block (i:=1) q2 rfl;have s2:=cell_of_block (i:=2) q2 rfl;have s3:=cell_of_block (i:=3) q2 rfl;have s4:=cell_of_block (i:=4) q2 rfl;have s5:=cell_of_block (i:=5) q2 rfl;have s6:=cell_of_block (i:=6) q2 rfl;have h0:=qAc (i:=0) q2;have h1:=qAc (i:=1) q2;have h2:=qAc (i:=2) q2;have h3:=qAc (i:=3) q2;have h4:=qAc (i:=4) q2;have h5:=qAc (i:=5) q2;have h6:=qAc (i:=6) q2;have Q2:=hh_ q2;have B2:=hh_ (B1.out.trans (b2.mono B1.out.size));clear q2 b2;go_wp2_with fail
   have z:=qCw Q2.out (.int .i64 0) (.string ⟨#[]⟩) (.int .i64 0) (.bool false) (.bool false) (.int .i64 0) (.string ⟨#[]⟩);have hb:=qB2 B2.out le_ (.int .i64 0) (.string ⟨#[]⟩) (.int .i64 0) (.bool false) (.bool false) (.int .i64 0) (.string ⟨#[]⟩);generalize (((((((w2.setCell ⟨w.heap.size,0,none⟩ (.int .i64 0)).setCell ⟨w.heap.size,1,none⟩ (.string ⟨#[]⟩)).setCell ⟨w.heap.size,2,none⟩ (.int .i64 0)).setCell ⟨w.heap.size,3,none⟩ (.bool false)).setCell ⟨w.heap.size,4,none⟩ (.bool false)).setCell ⟨w.heap.size,5,none⟩ (.int .i64 0)).setCell ⟨w.heap.size,6,none⟩ (.string ⟨#[]⟩))=W3 at z hb ⊢;have z0:=cell_of_block (w:=W3) (i:=0) z rfl;have z1:=cell_of_block (w:=W3) (i:=1) z rfl;have z2:=cell_of_block (w:=W3) (i:=2) z rfl;have z3:=cell_of_block (w:=W3) (i:=3) z rfl;have z4:=cell_of_block (w:=W3) (i:=4) z rfl;have z5:=cell_of_block (w:=W3) (i:=5) z rfl;have z6:=cell_of_block (w:=W3) (i:=6) z rfl;refine bodyPost_ret (v:=.tuple #[coA zCo,.bool false,.bool false]) (by simp[results,Tryz.results89,go_sem,coA,zCo,z0,z1,z2,z3,z4,z5,z6]) rfl ?_;exact⟨FIN.out _ HNO.out,hb⟩
  | true =>
   have HN:=hh_ hn;rw[hn] at HNM;clear hn;go_wp2_with fail
   refine HNM.out.mono ?_;rintro en w2 ⟨rfl,b2⟩;have q2:=qAn Q1.out b2;have p2:=qAn QP.out b2;have u0:=cell_of_block (i:=0) p2 rfl;have Q2:=hh_ q2;have B2:=hh_ (B1.out.trans (b2.mono B1.out.size));have P2:=hh_ p2;have E2:=hh_ (E1.out.below b2);have hat:=qVs ⟨pa.toArray⟩ w2 (by rw[List.size_toArray_mk];have:=HPL.out;omega) E2.out;have e6:(ByteArray.mk pa.toArray).data.toList=pa:=rfl;simp only[e6] at hat;have HAT:=hh_ hat;clear q2 b2 p2 hat e6 t0 t1 r0 r1 r2 r3 r4 r5 r6 f0 f1 f2 f3 f4 f5 f6;go_wp2_with fail
   refine HAT.out.mono ?_;rintro en w3 ⟨hres,b3⟩;have q3:=qAn Q2.out b3;have p3:=qAn P2.out b3;have v0:=cell_of_block (i:=0) p3 rfl;have v2:=cell_of_block (i:=2) p3 rfl;have r0:=cell_of_block (i:=0) q3 rfl;have r1:=cell_of_block (i:=1) q3 rfl;have r2:=cell_of_block (i:=2) q3 rfl;have r3:=cell_of_block (i:=3) q3 rfl;have r4:=cell_of_block (i:=4) q3 rfl;have r5:=cell_of_block (i:=5) q3 rfl;have r6:=cell_of_block (i:=6) q3 rfl;have f0:=qAc (i:=0) q3;have f1:=qAc (i:=1) q3;have f2:=qAc (i:=2) q3;have f3:=qAc (i:=3) q3;have f4:=qAc (i:=4) q3;have f5:=qAc (i:=5) q3;have f6:=qAc (i:=6) q3;have Q3:=hh_ q3;have B3:=hh_ (B2.out.trans (b3.mono B2.out.size));have P3:=hh_ p3;have E3:=hh_ (E2.out.below b3);clear q3 b3 p3 u0;rcases hres with⟨id,hid,rfl⟩|⟨hne,v,te,pe,rfl⟩
   · have hoo := qZl hid;have HOO:=hh_ hoo;clear hoo;obtain⟨hi0,hi1⟩: -9223372036854775808≤id∧id≤9223372036854775807:=atoiAll_bounds hid;by_cases c1:id<0
     · have hno:qAu S.data.toList=none:=by rw[HRP.out];unfold qFi;rw[if_neg (fun h=>by have h2:=h.2.1;rw[HOO.out] at h2;split at h2 <;> omega)]
       have HNO:=hh_ hno;clear hno hid;go_wp2_with fail
       go_region
       all_goals go_wp2_with fail
       all_goals (
         have z:=qCw Q3.out (.int .i64 0) (.string ⟨#[]⟩) (.int .i64 0) (.bool false) (.bool false) (.int .i64 0) (.string ⟨#[]⟩);have hb:=qB2 B3.out le_ (.int .i64 0) (.string ⟨#[]⟩) (.int .i64 0) (.bool false) (.bool false) (.int .i64 0) (.string ⟨#[]⟩);generalize (((((((w3.setCell ⟨w.heap.size,0,none⟩ (.int .i64 0)).setCell ⟨w.heap.size,1,none⟩ (.string ⟨#[]⟩)).setCell ⟨w.heap.size,2,none⟩ (.int .i64 0)).setCell ⟨w.heap.size,3,none⟩ (.bool false)).setCell ⟨w.heap.size,4,none⟩ (.bool false)).setCell ⟨w.heap.size,5,none⟩ (.int .i64 0)).setCell ⟨w.heap.size,6,none⟩ (.string ⟨#[]⟩))=W3 at z hb ⊢;have z0:=cell_of_block (w:=W3.drew) (i:=0) z rfl;have z1:=cell_of_block (w:=W3.drew) (i:=1) z rfl;have z2:=cell_of_block (w:=W3.drew) (i:=2) z rfl;have z3:=cell_of_block (w:=W3.drew) (i:=3) z rfl;have z4:=cell_of_block (w:=W3.drew) (i:=4) z rfl;have z5:=cell_of_block (w:=W3.drew) (i:=5) z rfl;have z6:=cell_of_block (w:=W3.drew) (i:=6) z rfl;refine bodyPost_ret (v:=.tuple #[coA zCo,.bool false,.bool false]) (by simp[results,Tryz.results89,go_sem,coA,zCo,z0,z1,z2,z3,z4,z5,z6]) rfl ?_;exact⟨FIN.out _ HNO.out,hb.drew⟩
         )
     by_cases c2:1048576<id
     · have hno:qAu S.data.toList=none:=by rw[HRP.out];unfold qFi;rw[if_neg (fun h=>by have h2:=h.2.1;rw[HOO.out] at h2;split at h2 <;> omega)]
       have HNO:=hh_ hno;clear hno hid;have c1':decide (id<0)=false:=decide_eq_false c1;have c2':decide (1048576<id)=true:=decide_eq_true c2;go_wp2_with fail
       go_region
       all_goals go_wp2_with fail
       all_goals (
         have z:=qCw Q3.out (.int .i64 0) (.string ⟨#[]⟩) (.int .i64 0) (.bool false) (.bool false) (.int .i64 0) (.string ⟨#[]⟩);have hb:=qB2 B3.out le_ (.int .i64 0) (.string ⟨#[]⟩) (.int .i64 0) (.bool false) (.bool false) (.int .i64 0) (.string ⟨#[]⟩);generalize (((((((w3.setCell ⟨w.heap.size,0,none⟩ (.int .i64 0)).setCell ⟨w.heap.size,1,none⟩ (.string ⟨#[]⟩)).setCell ⟨w.heap.size,2,none⟩ (.int .i64 0)).setCell ⟨w.heap.size,3,none⟩ (.bool false)).setCell ⟨w.heap.size,4,none⟩ (.bool false)).setCell ⟨w.heap.size,5,none⟩ (.int .i64 0)).setCell ⟨w.heap.size,6,none⟩ (.string ⟨#[]⟩))=W3 at z hb ⊢;have z0:=cell_of_block (w:=W3.drew) (i:=0) z rfl;have z1:=cell_of_block (w:=W3.drew) (i:=1) z rfl;have z2:=cell_of_block (w:=W3.drew) (i:=2) z rfl;have z3:=cell_of_block (w:=W3.drew) (i:=3) z rfl;have z4:=cell_of_block (w:=W3.drew) (i:=4) z rfl;have z5:=cell_of_block (w:=W3.drew) (i:=5) z rfl;have z6:=cell_of_block (w:=W3.drew) (i:=6) z rfl;refine bodyPost_ret (v:=.tuple #[coA zCo,.bool false,.bool false]) (by simp[results,Tryz.results89,go_sem,coA,zCo,z0,z1,z2,z3,z4,z5,z6]) rfl ?_;exact⟨FIN.out _ HNO.out,hb.drew⟩
         )
     have c1':decide (id<0)=false:=decide_eq_false c1;have c2':decide (1048576<id)=false:=decide_eq_false c2;have hit:=qMd id w3.drew hi0 hi1 (E3.out.below br_.drew);clear hit;by_cases c3:itoa id=pa
     · subst c3; clear hid;go_wp2_with fail
       refine qAe [isV (.nilIface),iF,iF,isV (.int .i64 id),iF,iF,iF,isV (.int .i64 id),iF,iF,iF,isV (.int .i64 id),isV (.string ⟨(itoa id).toArray⟩),isV (.slice (some ⟨g,0,none⟩) 4 4),isV (.pointer (some ⟨g,0,none⟩)),isV (.string ⟨(itoa id).toArray⟩),iF,iF] (by kernel_rfl) (by kernel_rfl) ?_ ?_
       ·
         refine rb ?_;refine rf (fun ev wo E=>?_) ?_
         · have e43:ev (.tmp 43)=.nilIface:=E.e 0;have ec:=E.const;go_simp;exact rv
         refine rc 0 ?_;refine rbq 0 ?_;refine rq 1 (fun ev wo E=>?_) ?_
         · have e46:ev (.tmp 46)=.int .i64 id:=E.e 0;have ec:=E.const;go_simp;exact rv
         refine rf (fun ev wo E=>?_) ?_
         · have e45:ev (.tmp 45)=.bool false:=E.e 0;have e47:ev (.tmp 47)=.bool false:=E.e 1;have ec:=E.const;go_simp;exact rv
         refine rc 0 ?_;refine rbq 0 ?_;refine rq 1 (fun ev wo E=>?_) ?_
         · have e50:ev (.tmp 50)=.int .i64 id:=E.e 0;have ec:=E.const;go_simp;exact rv
         refine rf (fun ev wo E=>?_) ?_
         · have e49:ev (.tmp 49)=.bool false:=E.e 0;have e51:ev (.tmp 51)=.bool false:=E.e 1;have ec:=E.const;go_simp;exact rv
         refine rc 0 ?_;refine rbq 0 ?_;refine rq 1 (fun ev wo E=>?_) ?_
         · have e54:ev (.tmp 54)=.int .i64 id:=E.e 0;have ef:=E.func;have hc:=qMd id wo hi0 hi1 (E3.out.below E.bel);have HC2:=hh_ hc;clear hc;go_simp;refine qAb (HC2.out.mono ?_);rintro e w' ⟨rfl,hb⟩;exact⟨_,rfl,hb,rfl⟩
         refine rbq 0 ?_;refine rq 1 (fun ev wo E=>?_) ?_
         · have e56:ev (.tmp 56)=.slice (some ⟨g,0,none⟩) 4 4:=E.e 0;have ec:=E.const;go_simp;exact rv
         refine rq 1 (fun ev wo E=>?_) ?_
         · have e57:ev (.tmp 57)=.pointer (some ⟨g,0,none⟩):=E.e 0;have x0:=cell_of_block (i:=0) (qAn P3.out E.bel) rfl;go_simp;exact rv
         refine rq 2 (fun ev wo E=>?_) ?_
         · have e55:ev (.tmp 55)=.string ⟨(itoa id).toArray⟩:=E.e 0;have e58:ev (.tmp 58)=.string ⟨(itoa id).toArray⟩:=E.e 1;go_simp;exact rv
         refine rf (fun ev wo E=>?_) ?_
         · have e53:ev (.tmp 53)=.bool false:=E.e 0;have e59:ev (.tmp 59)=.bool false:=E.e 1;have ec:=E.const;go_simp;exact rv
         trivial
       · intro wz bz
         (iterate 18 rintro _ rfl);have p4:=qAn P3.out bz;have y2:=cell_of_block (i:=2) p4 rfl;have q4:=qAn Q3.out bz
         have P4:=hh_ p4;have Q4:=hh_ q4;have B4:=hh_ (B3.out.trans (bz.mono B3.out.size));have E4:=hh_ (E3.out.below bz);have hid2:idOf (itoa id)=id:=by have h:=HOO.out;simp only[true_and] at h;rw[h,if_pos ⟨by omega,by omega⟩]
         have hs1:=qL1 42 pc;have hc1:=fun w=>Tryz.strings_CutSuffix ⟨pc.toArray⟩ ⟨#[42]⟩ w (by rw[List.size_toArray_mk];have:=HPL.out;omega)
         have d1:(ByteArray.mk pc.toArray).data.toList=pc:=rfl;have d2:(ByteArray.mk #[42]).data.toList=[42]:=rfl;have hl1:(trimSuffix pc [42]).length≤pc.length:=by unfold trimSuffix;split <;> simp
         simp only[d1,d2] at hc1;obtain⟨P1,hP1⟩:∃L,trimSuffix pc [42]=L:=⟨_,rfl⟩;obtain⟨key,hkey⟩:∃L,hasSuffix pc [42]=L:=⟨_,rfl⟩;rw[hP1,hkey] at hs1;rw[hP1] at hl1;simp only[hP1,hkey] at hc1;have hs2:=qL1 63 P1;have hc2:=fun w=>Tryz.strings_CutSuffix ⟨P1.toArray⟩ ⟨#[63]⟩ w (by rw[List.size_toArray_mk];have:=HPL.out;omega)
         have d3:(ByteArray.mk P1.toArray).data.toList=P1:=rfl;have d4:(ByteArray.mk #[63]).data.toList=[63]:=rfl;simp only[d3,d4] at hc2;obtain⟨P2,hP2⟩:∃L,trimSuffix P1 [63]=L:=⟨_,rfl⟩;obtain⟨nul,hnul⟩:∃L,hasSuffix P1 [63]=L:=⟨_,rfl⟩;rw[hP2,hnul] at hs2;simp only[hP2,hnul] at hc2
         have hlr:qAu S.data.toList=if 1≤kindOf P2∧(qBr (kindOf P2) nul pd).2=0 then some ((id,⟨pb.toArray⟩,(kindOf P2,nul),unCl (qBr (kindOf P2) nul pd).1),key) else none:=by
          rw[HRP.out];unfold qFi;rw[hs1];simp only;rw[hs2];simp only;rw[hid2,HN.out];by_cases hk:1≤kindOf P2∧(qBr (kindOf P2) nul pd).2=0
          · rw[if_pos hk,if_pos ⟨rfl,by omega,hk.1,hk.2⟩]
          · rw[if_neg hk,if_neg (fun h=>hk ⟨h.2.2.1,h.2.2.2⟩)]
         have HLR2:=hh_ hlr;have HC1:=hh_ hc1;have HC2:=hh_ hc2;have hw:=qSh wz;have hix:=fun w' (h:Below wz.heap.size wz w')=>qQx w' (some ⟨wz.heap.size,0,none⟩) 6 6 qJ3 ⟨P2.toArray⟩ (by unfold maxLen;omega) rfl
         have hwi:=qR3 ⟨P2.toArray⟩;have d5:(ByteArray.mk P2.toArray).data.toList=P2:=rfl;rw[d5] at hwi;obtain⟨I,hI⟩:∃I,idxL (fun t=>decide ((ByteArray.mk P2.toArray)=t)) qJ3=I:=⟨_,rfl⟩;rw[hI] at hwi;simp only[hI] at hix;have HW:=hh_ hw;have HIX:=hh_ hix;have HWI:=hh_ hwi;clear p4 q4 hid2 hs1 hs2 hc1 hc2 d1 d2 d3 d4 d5 hl1 hP1 hkey hP2 hnul hlr hw hix hwi hI;simp only[qAq];go_simp;go_wp2_with fail
         refine(HC1.out _).mono ?_;rintro en wq ⟨rfl,hwq⟩;rw[hwq];clear hwq wq;go_wp2_with fail
         refine(HC2.out _).mono ?_;rintro en wq ⟨rfl,hwq⟩;rw[hwq];clear hwq wq;go_wp2_with fail
         refine HW.out.mono ?_;rintro en wq ⟨rfl,hwq⟩;rw[←hwq];clear hwq wq;have hbw:Below wz.heap.size wz (wz.alloc (.cells (strV qJ3).toArray 9)):=(Below.refl _ wz).alloc le_ _;have hix2:=HIX.out _ hbw (qBs wz (strV qJ3) 9);have HIX2:=hh_ hix2;have HBW:=hh_ hbw;clear hix2 hbw;go_wp2_with fail
         refine HIX2.out.mono ?_;rintro en w6 ⟨rfl,b6⟩;have bz6:=HBW.out.trans (b6.mono HBW.out.size);have q6:=qAn Q4.out bz6;have p6:=qAn P4.out bz6;have Q6:=hh_ q6;have P6:=hh_ p6;have B6:=hh_ (B4.out.trans (bz6.mono B4.out.size));have E6:=hh_ (E4.out.below bz6);clear b6 bz6 q6 p6 HIX HIX2 HW;by_cases hk0:P2=[]
         · have hno:qAu S.data.toList=none:=by rw[HLR2.out,if_neg (fun h=>by have h1:=h.1;rw[hk0] at h1;revert h1;decide)]
           have HNO:=hh_ hno;subst hk0;clear hno;have bY:Below w6.heap.size w6 (w6.alloc (.cells #[.int .i64 I,.bool nul] 41)):=(Below.refl _ w6).alloc le_ _;have qY:=qAn Q6.out bY;have n0:=cell_of_block (i:=0) qY rfl;have n1:=cell_of_block (i:=1) qY rfl;have n2:=cell_of_block (i:=2) qY rfl;have n3:=cell_of_block (i:=3) qY rfl;have n4:=cell_of_block (i:=4) qY rfl;have n5:=cell_of_block (i:=5) qY rfl;have n6:=cell_of_block (i:=6) qY rfl;have m0:=qAc (i:=0) qY;have m1:=qAc (i:=1) qY;have m2:=qAc (i:=2) qY;have m3:=qAc (i:=3) qY;have m4:=qAc (i:=4) qY;have m5:=qAc (i:=5) qY;have m6:=qAc (i:=6) qY;have QY:=hh_ qY;have BY:=hh_ (B6.out.trans (bY.mono B6.out.size));clear qY bY;go_wp2_with fail
           have z:=qCw QY.out (.int .i64 0) (.string ⟨#[]⟩) (.int .i64 0) (.bool false) (.bool false) (.int .i64 0) (.string ⟨#[]⟩);have hb:=qB2 BY.out le_ (.int .i64 0) (.string ⟨#[]⟩) (.int .i64 0) (.bool false) (.bool false) (.int .i64 0) (.string ⟨#[]⟩);generalize ((((((((w6.alloc (.cells #[.int .i64 I,.bool nul] 41)).setCell ⟨w.heap.size,0,none⟩ (.int .i64 0)).setCell ⟨w.heap.size,1,none⟩ (.string ⟨#[]⟩)).setCell ⟨w.heap.size,2,none⟩ (.int .i64 0)).setCell ⟨w.heap.size,3,none⟩ (.bool false)).setCell ⟨w.heap.size,4,none⟩ (.bool false)).setCell ⟨w.heap.size,5,none⟩ (.int .i64 0)).setCell ⟨w.heap.size,6,none⟩ (.string ⟨#[]⟩))=W3 at z hb ⊢;have z0:=cell_of_block (w:=W3) (i:=0) z rfl;have z1:=cell_of_block (w:=W3) (i:=1) z rfl;have z2:=cell_of_block (w:=W3) (i:=2) z rfl;have z3:=cell_of_block (w:=W3) (i:=3) z rfl;have z4:=cell_of_block (w:=W3) (i:=4) z rfl;have z5:=cell_of_block (w:=W3) (i:=5) z rfl;have z6:=cell_of_block (w:=W3) (i:=6) z rfl;refine bodyPost_ret (v:=.tuple #[coA zCo,.bool false,.bool false]) (by simp[results,Tryz.results89,go_sem,coA,zCo,z0,z1,z2,z3,z4,z5,z6]) rfl ?_;exact⟨FIN.out _ HNO.out,hb⟩
         · have hk1:P2.isEmpty=false:=by rw[List.isEmpty_eq_false_iff];exact hk0
           go_wp2_with fail
           obtain⟨Y,hY⟩:∃Y,Y=w6.alloc (.cells #[.int .i64 I,.bool nul] 41):=⟨_,rfl⟩;rw[←hY];have bY:Below w6.heap.size w6 Y:=by rw[hY];exact(Below.refl _ w6).alloc le_ _
           have tY:Y.heap[w6.heap.size]?=some (.cells #[.int .i64 I,.bool nul] 41 (0,0)):=by rw[hY];exact qAd _ _
           clear hY;have pY:=qAn P6.out bY;have qY:=qAn Q6.out bY;have e0:=cell_of_block (w:=Y) (i:=0) tY rfl;have e1:=cell_of_block (w:=Y) (i:=1) tY rfl;have e3:=cell_of_block (w:=Y) (i:=3) pY rfl;have e0d:=cell_of_block (w:=Y.drew) (i:=0) tY rfl;have e1d:=cell_of_block (w:=Y.drew) (i:=1) tY rfl;have e3d:=cell_of_block (w:=Y.drew) (i:=3) pY rfl;have e0a:=cell_of_block (i:=0) (qCd tY (.cells #[.bool false,.int .i64 0,.string ⟨#[]⟩] 43)) rfl;have e1a:=cell_of_block (i:=1) (qCd tY (.cells #[.bool false,.int .i64 0,.string ⟨#[]⟩] 43)) rfl;have e3a:=cell_of_block (i:=3) (qCd pY (.cells #[.bool false,.int .i64 0,.string ⟨#[]⟩] 43)) rfl;have e0b:=cell_of_block (w:=(Y.alloc (.cells #[.bool false,.int .i64 0,.string ⟨#[]⟩] 43)).drew) (i:=0) (qCd tY (.cells #[.bool false,.int .i64 0,.string ⟨#[]⟩] 43)) rfl;have e1b:=cell_of_block (w:=(Y.alloc (.cells #[.bool false,.int .i64 0,.string ⟨#[]⟩] 43)).drew) (i:=1) (qCd tY (.cells #[.bool false,.int .i64 0,.string ⟨#[]⟩] 43)) rfl;have e3b:=cell_of_block (w:=(Y.alloc (.cells #[.bool false,.int .i64 0,.string ⟨#[]⟩] 43)).drew) (i:=3) (qCd pY (.cells #[.bool false,.int .i64 0,.string ⟨#[]⟩] 43)) rfl;have EY:=E6.out.below bY;have hpd:(ByteArray.mk pd.toArray).size≤20000:=by rw[List.size_toArray_mk];have:=HPL.out;omega
           have ka:=qMt I nul ⟨pd.toArray⟩ Y.drew hpd (EY.below br_.drew);have kb:=qMt I nul ⟨pd.toArray⟩ (Y.alloc (.cells #[.bool false,.int .i64 0,.string ⟨#[]⟩] 43)).drew hpd (EY.below (br_.alloc le_ _).drew);have d6:(ByteArray.mk pd.toArray).data.toList=pd:=rfl;rw[d6] at ka kb;obtain⟨⟨⟨du,dn,ds⟩,de⟩,hD⟩:∃D,qBr I nul pd=D:=⟨_,rfl⟩;rw[hD] at ka kb;simp only[qGl] at ka kb;have KA:=hh_ ka;have KB:=hh_ kb;have TY:=hh_ tY;have PY:=hh_ pY;have QY:=hh_ qY;have BY:=hh_ (B6.out.trans (bY.mono B6.out.size));have HD:=hh_ hD;have EYH:=hh_ EY;clear bY tY pY qY EY hpd ka kb d6 hD;go_cut [12,13] from 82 to 89 (fun v12 v13 wx=> ∃db,v12=.pointer (some ⟨db,0,none⟩)∧v13=.int .i64 de∧wx.heap[db]?=some (.cells #[.bool du,.int .i64 dn,.string ⟨ds.toArray⟩] 43 (0,0))∧Below Y.heap.size Y wx)
           case first=>
            go_region_with (first
              |(go_at_call 127;with_reducible refine KA.out.mono ?_;rintro en w7 ⟨rfl,b7⟩;have B7:=hh_ b7;clear b7)
              |(go_at_call 127;with_reducible refine KB.out.mono ?_;rintro en w7 ⟨rfl,b7⟩;have qd:=qAn (w:=(Y.alloc (.cells #[.bool false,.int .i64 0,.string ⟨#[]⟩] 43)).drew) (qAd Y (.cells #[.bool false,.int .i64 0,.string ⟨#[]⟩] 43)) b7;have x0:=cell_of_block (i:=0) qd rfl;have x1:=cell_of_block (i:=1) qd rfl;have x2:=cell_of_block (i:=2) qd rfl;have g0:=qAc (i:=0) qd;have g1:=qAc (i:=1) qd;have g2:=qAc (i:=2) qd;have QD:=hh_ qd;have B7:=hh_ b7;clear b7 qd))
            all_goals go_wp2_with fail
            all_goals go_meet
            all_goals (first
              |exact⟨_,rfl,rfl,qZo QD.out _ _ _,((((Below.refl _ Y).alloc le_ _).drew.trans (B7.out.mono (by show Y.heap.size≤(Y.alloc _).heap.size;rw[World.size_alloc];omega))).setCell (p:=⟨Y.heap.size,0,none⟩) le_ _ |>.setCell (p:=⟨Y.heap.size,1,none⟩) le_ _ |>.setCell (p:=⟨Y.heap.size,2,none⟩) le_ _)⟩
              |exact⟨_,rfl,rfl,qAd _ _,(((Below.refl _ Y).drew.trans B7.out).alloc ((Below.refl _ Y).drew.trans B7.out).size _)⟩
              |(trace_state;done ))
           case rest=>
            obtain⟨db,rfl,rfl,qdb,bwc⟩:=hcut;have tW:=qAn TY.out bwc;have pW:=qAn PY.out bwc;have qW:=qAn QY.out bwc;have a0:=cell_of_block (i:=0) tW rfl;have a1:=cell_of_block (i:=1) tW rfl;have a2:=cell_of_block (i:=1) pW rfl;have a3:=cell_of_block (i:=0) qdb rfl;have a4:=cell_of_block (i:=1) qdb rfl;have a5:=cell_of_block (i:=2) qdb rfl;have n0:=cell_of_block (i:=0) qW rfl;have m0:=qAc (i:=0) qW;have n1:=cell_of_block (i:=1) qW rfl;have m1:=qAc (i:=1) qW;have n2:=cell_of_block (i:=2) qW rfl;have m2:=qAc (i:=2) qW;have n3:=cell_of_block (i:=3) qW rfl;have m3:=qAc (i:=3) qW;have n4:=cell_of_block (i:=4) qW rfl;have m4:=qAc (i:=4) qW;have n5:=cell_of_block (i:=5) qW rfl;have m5:=qAc (i:=5) qW;have n6:=cell_of_block (i:=6) qW rfl;have m6:=qAc (i:=6) qW;have QW:=hh_ qW;have BW:=hh_ (BY.out.trans (bwc.mono BY.out.size));clear tW pW qW qdb bwc;go_wp2_with fail
            go_cut [3,4] from 90 to 99 (fun v3 v4 wx=>v3=.bool key∧v4=.bool (de==0)∧wx=(((((((wc.setCell ⟨w.heap.size,0,none⟩ (.int .i64 id)).setCell ⟨w.heap.size,1,none⟩ (.string ⟨pb.toArray⟩)).setCell ⟨w.heap.size,2,none⟩ (.int .i64 I)).setCell ⟨w.heap.size,3,none⟩ (.bool nul)).setCell ⟨w.heap.size,4,none⟩ (.bool du)).setCell ⟨w.heap.size,5,none⟩ (.int .i64 dn)).setCell ⟨w.heap.size,6,none⟩ (.string ⟨ds.toArray⟩)).drew)
            case first=>
             go_region
             all_goals go_wp2_with fail
             all_goals go_meet
             all_goals exact⟨rfl,rfl,rfl⟩
            case rest=>
             obtain⟨rfl,rfl,rfl⟩:=hcut;have z:=qCw QW.out (.int .i64 id) (.string ⟨pb.toArray⟩) (.int .i64 I) (.bool nul) (.bool du) (.int .i64 dn) (.string ⟨ds.toArray⟩);have hb:=qB2 BW.out le_ (.int .i64 id) (.string ⟨pb.toArray⟩) (.int .i64 I) (.bool nul) (.bool du) (.int .i64 dn) (.string ⟨ds.toArray⟩);generalize (((((((wc.setCell ⟨w.heap.size,0,none⟩ (.int .i64 id)).setCell ⟨w.heap.size,1,none⟩ (.string ⟨pb.toArray⟩)).setCell ⟨w.heap.size,2,none⟩ (.int .i64 I)).setCell ⟨w.heap.size,3,none⟩ (.bool nul)).setCell ⟨w.heap.size,4,none⟩ (.bool du)).setCell ⟨w.heap.size,5,none⟩ (.int .i64 dn)).setCell ⟨w.heap.size,6,none⟩ (.string ⟨ds.toArray⟩))=W3 at z hb ⊢;have z0:=cell_of_block (w:=W3.drew) (i:=0) z rfl;have z1:=cell_of_block (w:=W3.drew) (i:=1) z rfl;have z2:=cell_of_block (w:=W3.drew) (i:=2) z rfl;have z3:=cell_of_block (w:=W3.drew) (i:=3) z rfl;have z4:=cell_of_block (w:=W3.drew) (i:=4) z rfl;have z5:=cell_of_block (w:=W3.drew) (i:=5) z rfl;have z6:=cell_of_block (w:=W3.drew) (i:=6) z rfl;go_wp2_with fail
             refine bodyPost_ret (v:=.tuple #[.agg #[.int .i64 id,.string ⟨pb.toArray⟩,.int .i64 I,.bool nul,.bool du,.int .i64 dn,.string ⟨ds.toArray⟩],.bool key,.bool (de==0)]) (by simp[results,Tryz.results89,go_sem,z0,z1,z2,z3,z4,z5,z6]) rfl ?_;refine⟨⟨(id,⟨pb.toArray⟩,(I,nul),(du,dn,⟨ds.toArray⟩)),key,de==0,rfl,fun e=>?_,fun e=>?_⟩,hb.drew⟩
             · have hde:de=0:=by simpa using e
               have hI:=HWI.out;rw[if_neg hk0] at hI;have hd:=HD.out;by_cases hk:kindOf P2=0
               · rw[if_pos hk] at hI;rw[hI] at hd;have:qBr (-1) nul pd=((false,0,[]),2):=rfl;rw[this] at hd;simp only[Prod.mk.injEq] at hd;omega
               · rw[if_neg hk] at hI;rw[hI] at hd;have hk1:1≤kindOf P2:=by have:=qSq P2;omega
                 rw[HLR2.out,hd,if_pos ⟨hk1,hde⟩,hI];rfl
             · have hde:de≠0:=by simpa using e
               have hI:=HWI.out;rw[if_neg hk0] at hI;have hd:=HD.out;by_cases hk:kindOf P2=0
               · rw[HLR2.out,if_neg (fun h=>by have:=h.1;omega)]
               · rw[if_neg hk] at hI;rw[hI] at hd;rw[HLR2.out,hd,if_neg (fun h=>hde h.2)]
     · have hno:qAu S.data.toList=none:=by rw[HRP.out];unfold qFi;rw[if_neg (fun h=>by have h2:=h.2.1;rw[HOO.out,if_neg (fun e=>c3 e.1)] at h2;omega)]
       have HNO:=hh_ hno;have hq3:(itoa id==pa)=false:=by simpa using c3
       clear hid hno c3;go_wp2_with fail
       refine qAe [isV (.nilIface),iF,iF,isV (.int .i64 id),iF,iF,iF,isV (.int .i64 id),iF,iF,iF,isV (.int .i64 id),isV (.string ⟨(itoa id).toArray⟩),isV (.slice (some ⟨g,0,none⟩) 4 4),isV (.pointer (some ⟨g,0,none⟩)),isV (.string ⟨pa.toArray⟩),iT,iT] (by kernel_rfl) (by kernel_rfl) ?_ ?_
       ·
         refine rb ?_;refine rf (fun ev wo E=>?_) ?_
         · have e43:ev (.tmp 43)=.nilIface:=E.e 0;have ec:=E.const;go_simp;exact rv
         refine rc 0 ?_;refine rbq 0 ?_;refine rq 1 (fun ev wo E=>?_) ?_
         · have e46:ev (.tmp 46)=.int .i64 id:=E.e 0;have ec:=E.const;go_simp;exact rv
         refine rf (fun ev wo E=>?_) ?_
         · have e45:ev (.tmp 45)=.bool false:=E.e 0;have e47:ev (.tmp 47)=.bool false:=E.e 1;have ec:=E.const;go_simp;exact rv
         refine rc 0 ?_;refine rbq 0 ?_;refine rq 1 (fun ev wo E=>?_) ?_
         · have e50:ev (.tmp 50)=.int .i64 id:=E.e 0;have ec:=E.const;go_simp;exact rv
         refine rf (fun ev wo E=>?_) ?_
         · have e49:ev (.tmp 49)=.bool false:=E.e 0;have e51:ev (.tmp 51)=.bool false:=E.e 1;have ec:=E.const;go_simp;exact rv
         refine rc 0 ?_;refine rbq 0 ?_;refine rq 1 (fun ev wo E=>?_) ?_
         · have e54:ev (.tmp 54)=.int .i64 id:=E.e 0;have ef:=E.func;have hc:=qMd id wo hi0 hi1 (E3.out.below E.bel);have HC2:=hh_ hc;clear hc;go_simp;refine qAb (HC2.out.mono ?_);rintro e w' ⟨rfl,hb⟩;exact⟨_,rfl,hb,rfl⟩
         refine rbq 0 ?_;refine rq 1 (fun ev wo E=>?_) ?_
         · have e56:ev (.tmp 56)=.slice (some ⟨g,0,none⟩) 4 4:=E.e 0;have ec:=E.const;go_simp;exact rv
         refine rq 1 (fun ev wo E=>?_) ?_
         · have e57:ev (.tmp 57)=.pointer (some ⟨g,0,none⟩):=E.e 0;have x0:=cell_of_block (i:=0) (qAn P3.out E.bel) rfl;go_simp;exact rv
         refine rq 2 (fun ev wo E=>?_) ?_
         · have e55:ev (.tmp 55)=.string ⟨(itoa id).toArray⟩:=E.e 0;have e58:ev (.tmp 58)=.string ⟨pa.toArray⟩:=E.e 1;go_simp;exact rv
         refine rf (fun ev wo E=>?_) ?_
         · have e53:ev (.tmp 53)=.bool false:=E.e 0;have e59:ev (.tmp 59)=.bool true:=E.e 1;have ec:=E.const;go_simp;exact rv
         trivial
       · intro wz bz
         (iterate 18 rintro _ rfl);have q4:=qAn Q3.out bz;have n0:=cell_of_block (i:=0) q4 rfl;have n1:=cell_of_block (i:=1) q4 rfl;have n2:=cell_of_block (i:=2) q4 rfl;have n3:=cell_of_block (i:=3) q4 rfl;have n4:=cell_of_block (i:=4) q4 rfl;have n5:=cell_of_block (i:=5) q4 rfl;have n6:=cell_of_block (i:=6) q4 rfl;have m0:=qAc (i:=0) q4;have m1:=qAc (i:=1) q4;have m2:=qAc (i:=2) q4;have m3:=qAc (i:=3) q4;have m4:=qAc (i:=4) q4;have m5:=qAc (i:=5) q4
         have m6:=qAc (i:=6) q4;have Q4:=hh_ q4;have B4:=hh_ (B3.out.trans (bz.mono B3.out.size));clear q4;simp only[qAq];go_simp;go_wp2_with fail
         have z:=qCw Q4.out (.int .i64 0) (.string ⟨#[]⟩) (.int .i64 0) (.bool false) (.bool false) (.int .i64 0) (.string ⟨#[]⟩);have hb:=qB2 B4.out le_ (.int .i64 0) (.string ⟨#[]⟩) (.int .i64 0) (.bool false) (.bool false) (.int .i64 0) (.string ⟨#[]⟩);generalize (((((((wz.setCell ⟨w.heap.size,0,none⟩ (.int .i64 0)).setCell ⟨w.heap.size,1,none⟩ (.string ⟨#[]⟩)).setCell ⟨w.heap.size,2,none⟩ (.int .i64 0)).setCell ⟨w.heap.size,3,none⟩ (.bool false)).setCell ⟨w.heap.size,4,none⟩ (.bool false)).setCell ⟨w.heap.size,5,none⟩ (.int .i64 0)).setCell ⟨w.heap.size,6,none⟩ (.string ⟨#[]⟩))=W3 at z hb ⊢;have z0:=cell_of_block (w:=W3) (i:=0) z rfl;have z1:=cell_of_block (w:=W3) (i:=1) z rfl;have z2:=cell_of_block (w:=W3) (i:=2) z rfl;have z3:=cell_of_block (w:=W3) (i:=3) z rfl;have z4:=cell_of_block (w:=W3) (i:=4) z rfl;have z5:=cell_of_block (w:=W3) (i:=5) z rfl;have z6:=cell_of_block (w:=W3) (i:=6) z rfl;refine bodyPost_ret (v:=.tuple #[coA zCo,.bool false,.bool false]) (by simp[results,Tryz.results89,go_sem,coA,zCo,z0,z1,z2,z3,z4,z5,z6]) rfl ?_;exact⟨FIN.out _ HNO.out,hb⟩
   · have hno:qAu S.data.toList=none:=by rw[HRP.out];unfold qFi;rw[if_neg (fun h=>by have:=qYz hne;omega)]
     have HNO:=hh_ hno;clear hno hne;go_wp2_with fail
     go_region
     all_goals go_wp2_with fail
     all_goals (
       have z:=qCw Q3.out (.int .i64 0) (.string ⟨#[]⟩) (.int .i64 0) (.bool false) (.bool false) (.int .i64 0) (.string ⟨#[]⟩);have hb:=qB2 B3.out le_ (.int .i64 0) (.string ⟨#[]⟩) (.int .i64 0) (.bool false) (.bool false) (.int .i64 0) (.string ⟨#[]⟩);generalize (((((((w3.setCell ⟨w.heap.size,0,none⟩ (.int .i64 0)).setCell ⟨w.heap.size,1,none⟩ (.string ⟨#[]⟩)).setCell ⟨w.heap.size,2,none⟩ (.int .i64 0)).setCell ⟨w.heap.size,3,none⟩ (.bool false)).setCell ⟨w.heap.size,4,none⟩ (.bool false)).setCell ⟨w.heap.size,5,none⟩ (.int .i64 0)).setCell ⟨w.heap.size,6,none⟩ (.string ⟨#[]⟩))=W3 at z hb ⊢;have z0:=cell_of_block (w:=W3.drew) (i:=0) z rfl;have z1:=cell_of_block (w:=W3.drew) (i:=1) z rfl;have z2:=cell_of_block (w:=W3.drew) (i:=2) z rfl;have z3:=cell_of_block (w:=W3.drew) (i:=3) z rfl;have z4:=cell_of_block (w:=W3.drew) (i:=4) z rfl;have z5:=cell_of_block (w:=W3.drew) (i:=5) z rfl;have z6:=cell_of_block (w:=W3.drew) (i:=6) z rfl;refine bodyPost_ret (v:=.tuple #[coA zCo,.bool false,.bool false]) (by simp[results,Tryz.results89,go_sem,coA,zCo,z0,z1,z2,z3,z4,z5,z6]) rfl ?_;exact⟨FIN.out _ HNO.out,hb.drew⟩
       )
end Go.Proofs.YtainiaighnjpfaaGreatDoor
