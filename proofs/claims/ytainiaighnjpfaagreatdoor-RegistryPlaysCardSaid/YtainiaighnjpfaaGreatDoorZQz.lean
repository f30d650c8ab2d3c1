/- Evolve: may a schema follow another one: the package's answer. -/
import Derived.Test.YtainiaighnjpfaaGreatDoorZQx
import Derived.Test.YtainiaighnjpfaaGreatDoorZQy
set_option linter.unusedVariables false
set_option linter.unusedSimpArgs false
namespace Go.Ms
open Go.RowKit Go.Lib
theorem qR5 (cs:List Co) (v:Int):qDf (fun c=>decide (c.1=v)) cs=match evAt cs v with
    |some k=>(k,true)
    |none=>(0,false):=by
 unfold qDf evAt;rfl
structure qKm (tS tI tB tF:TypeId) (fn:Value) (va vb:Array Value) (above:Int) (w W:World):Prop where
  ba:W.heap[w.heap.size]?=some (.cells va tS (0,0))
  bb:W.heap[w.heap.size+1]?=some (.cells vb tS (0,0))
  bv:W.heap[w.heap.size+2]?=some (.cells #[.int .i64 above] tI (0,0))
  br:W.heap[w.heap.size+3]?=some (.cells #[.bool false] tB (0,0))
  bf:W.heap[w.heap.size+4]?=some (.cells #[fn] tF (0,0))
  bi:W.heap[w.heap.size+5]?=some (.cells vb tS (0,0))
  bel:Below w.heap.size w W
  sz:w.heap.size+6≤W.heap.size
section
variable {tS tI tB tF:TypeId} {fn:Value} {va vb:Array Value} {above:Int} {w W W':World}
theorem qKm.grown (h:qKm tS tI tB tF fn va vb above w W) {row:Option Nat} (hg:W.grownBy W' row) (hr:∀r,row=some r→w.heap.size+6≤r):qKm tS tI tB tF fn va vb above w W':=by
 have hne:∀k:Nat,k<w.heap.size+6→some k≠row:=fun k hk e=>by have:=hr k e.symm;omega
 have go:∀{k:Nat} {o:Obj},k<w.heap.size+6→W.heap[k]?=some o→W'.heap[k]?=some o:=fun hk ho=>(hg.block _ (Array.getElem?_eq_some_iff.1 ho).1 (hne _ hk)).trans ho
 exact⟨go (by omega) h.ba,go (by omega) h.bb,go (by omega) h.bv,go (by omega) h.br,go (by omega) h.bf,go (by omega) h.bi,h.bel.grown hg h.bel.size (fun k e=>by have:=hr k e;omega),Nat.le_trans h.sz hg.size⟩
theorem qKm.below (h:qKm tS tI tB tF fn va vb above w W) (hb:Below W.heap.size W W'):qKm tS tI tB tF fn va vb above w W':=
  h.grown (row:=none) ⟨hb.os,hb.tape,hb.output,hb.size,fun k hk _=>hb.block k hk⟩ (fun r e=>by cases e)
theorem qKm.setr (h:qKm tS tI tB tF fn va vb above w W):qKm tS tI tB tF fn va vb above w (W.setCell ⟨w.heap.size+3,0,none⟩ (.bool false)):=
  ⟨qAj h.ba (by omega) _,qAj h.bb (by omega) _,qAj h.bv (by omega) _,ms_one_set h.br _,qAj h.bf (by omega) _,qAj h.bi (by omega) _,h.bel.setCell (p:=⟨w.heap.size+3,0,none⟩) (by simp only;omega) _,by simp only[World.size_setCell];exact h.sz⟩
end
structure qGm (g o B:Nat) (i1:Int) (s1:ByteArray) (k1:Int) (u1 n1:Bool) (m1:Int) (t1:ByteArray) (W:World):Prop where
  lt:g<B
  c0:W.cell? ⟨g,o,none⟩=some (.int .i64 i1)
  c1:W.cell? ⟨g,o+1,none⟩=some (.string s1)
  c2:W.cell? ⟨g,o+2,none⟩=some (.int .i64 k1)
  c3:W.cell? ⟨g,o+3,none⟩=some (.bool u1)
  c4:W.cell? ⟨g,o+4,none⟩=some (.bool n1)
  c5:W.cell? ⟨g,o+5,none⟩=some (.int .i64 m1)
  c6:W.cell? ⟨g,o+6,none⟩=some (.string t1)
theorem qGm.below {g o B:Nat} {i1:Int} {s1:ByteArray} {k1:Int} {u1 n1:Bool} {m1:Int} {t1:ByteArray} {W W':World} (h:qGm g o B i1 s1 k1 u1 n1 m1 t1 W) (hb:Below B W W'):qGm g o B i1 s1 k1 u1 n1 m1 t1 W':=
  ⟨h.lt,(hb.cell h.lt).trans h.c0,(hb.cell h.lt).trans h.c1,(hb.cell h.lt).trans h.c2,(hb.cell h.lt).trans h.c3,(hb.cell h.lt).trans h.c4,(hb.cell h.lt).trans h.c5,(hb.cell h.lt).trans h.c6⟩
theorem qGm.more {g o B B':Nat} {i1:Int} {s1:ByteArray} {k1:Int} {u1 n1:Bool} {m1:Int} {t1:ByteArray} {W:World} (h:qGm g o B i1 s1 k1 u1 n1 m1 t1 W) (hb:B≤B'):qGm g o B' i1 s1 k1 u1 n1 m1 t1 W:=
  ⟨Nat.lt_of_lt_of_le h.lt hb,h.c0,h.c1,h.c2,h.c3,h.c4,h.c5,h.c6⟩
def qK2 (l:List Int):Value→World→Prop:=fun v w=> ∃A c,v=.slice A l.length c∧Lay w w.heap.size A (intV l)
theorem qG4 (l:List Int):Go.Rel.Stable (qK2 l):=fun v w w' ⟨A,c,h1,h2⟩ hb=>⟨A,c,h1,(h2.below hb).more hb.size⟩
theorem qKu {w:World} {B:Nat} {T:TypeId} {v:Value} {l:List Int} (h:OwnI w B T v l):qK2 l v w:=by
 obtain⟨A,c,rfl,-,-⟩:=qAf h;exact⟨A,c,rfl,Lay.of_own h le_⟩
theorem qQw {cs:List Co} {ab:Int} {d:Co} (h:evAt cs d.1=none):qD0 cs ab d=decide (ab<d.1):=by unfold qD0;rw[h]
theorem qQa {cs:List Co} {ab:Int} {d:Co} {k:Nat} (h:evAt cs d.1=some k):qD0 cs ab d=qFa (cs.getD k zCo) d:=by unfold qD0;rw[h]
theorem qP7 {cs:List Co} {ab:Int} {pre:List Co} {x:Co} (h:pre.all (qD0 cs ab)=true) (hx:qD0 cs ab x=true):(pre++[x]).all (qD0 cs ab)=true:=by rw[List.all_append,h];simp[hx]
end Go.Ms
namespace Go.Proofs.YtainiaighnjpfaaGreatDoor
open Go.RowKit Go.Ms Go.Lib Go.Shelf Go.Rel
attribute [local go_sem] Oper.semAt_some
abbrev qPv (va vb:Array Value) (above:Int) (w W:World):Prop:=qKm 33 3 4 151 (.func (.func 101) #[] #[]) va vb above w W
set_option maxRecDepth 100000 in
set_option maxHeartbeats 4000000 in
theorem qJl (A B:Option Addr) (n cap m capm:Nat) (cs:List Co) (ks:List Int) (A' B':Option Addr) (n' cap' m' capm':Nat) (ds:List Co) (ls:List Int) (above:Int) (w:World)
    (hn:n=cs.length) (hm:m=ks.length) (hn2:n≤100000) (hm2:m≤100000) (hA:Lay w w.heap.size A (colV cs)) (hB:Lay w w.heap.size B (intV ks)) (hk:qJn cs ks)
    (kn:n'=ds.length) (km:m'=ls.length) (kn2:n'≤100000) (km2:m'≤100000) (kA:Lay w w.heap.size A' (colV ds)) (kB:Lay w w.heap.size B' (intV ls)) (kk:qJn ds ls) :
    Calls Tryz.prog 70 #[.agg #[.slice A n cap,.slice B m capm],.agg #[.slice A' n' cap',.slice B' m' capm'],.int .i64 above] w fun e w'=>e=.returned (.bool (qBa (cs,ks) (ds,ls) above))∧Below w.heap.size w w':=by
 have HN:=hh_ hn;have HM:=hh_ hm;have HA:=hh_ hA;have HB:=hh_ hB;have HK:=hh_ hk;have KN:=hh_ kn;have KM:=hh_ km;have KA:=hh_ kA;have KB:=hh_ kB;have KK:=hh_ kk;clear hn hm hA hB hk kn km kA kB kk;refine(callsIn_wide (n:=6)).1 ?_;have hdp:Fence.wide.depth.isSome=true→1≤6:=fun h=>absurd h (by decide)
 refine callsIn_of_wp_marks Tryz.func70 rfl trivial ?_ rfl;simp only[Tryz.ntmps70,List.size_toArray,List.length_cons,List.length_nil,Nat.reduceAdd,Nat.reduceSub,Array.replicate_succ,Array.replicate_zero,List.push_toArray,List.append_toArray,List.nil_append,List.cons_append];gi_wp2_with (refine⟨trivial,?_⟩;gi_at_call 87;refine(callsIn_wide.2 (qOc A' B' n' cap' m' capm' _)).mono ?_;rintro e w' ⟨rfl,hw⟩;rw[hw];clear hw)
 obtain⟨X,hX⟩:∃X,X=((((((w.alloc (.cells #[.slice A n cap,.slice B m capm] 33)).alloc (.cells #[.slice A' n' cap',.slice B' m' capm'] 33)).alloc (.cells #[.int .i64 above] 3)).alloc (.cells #[.bool false] 4)).alloc (.cells #[.func (.func 101) #[] #[]] 151)).alloc (.cells #[.slice A' n' cap',.slice B' m' capm'] 33)):=⟨_,rfl⟩
 have hst:qPv #[.slice A n cap,.slice B m capm] #[.slice A' n' cap',.slice B' m' capm'] above w X:=by
  have at_:=fun (W:World) (o:Obj) (k:Nat) (h:W.heap.size=k)=>(h▸qAd W o:(W.alloc o).heap[k]?=some o)
  refine⟨?_,?_,?_,?_,?_,?_,?_,?_⟩
  · rw[hX];exact bx_ (bx_ (bx_ (bx_ (bx_ (qAd _ _) _) _) _) _) _
  · rw[hX];exact bx_ (bx_ (bx_ (bx_ (at_ _ _ _ (by simp only[World.size_alloc])) _) _) _) _
  · rw[hX];exact bx_ (bx_ (bx_ (at_ _ _ _ (by simp only[World.size_alloc])) _) _) _
  · rw[hX];exact bx_ (bx_ (at_ _ _ _ (by simp only[World.size_alloc])) _) _
  · rw[hX];exact bx_ (at_ _ _ _ (by simp only[World.size_alloc])) _
  · rw[hX];exact at_ _ _ _ (by simp only[World.size_alloc])
  · rw[hX];exact((((((Below.refl _ w).alloc le_ _).alloc (by simp only[World.size_alloc];omega) _).alloc (by simp only[World.size_alloc];omega) _).alloc (by simp only[World.size_alloc];omega) _).alloc (by simp only[World.size_alloc];omega) _).alloc (by simp only[World.size_alloc];omega) _
  · rw[hX];simp only[World.size_alloc];omega
 have zX:X.heap.size=w.heap.size+6:=by rw[hX];simp only[World.size_alloc]
 rw[←hX];clear hX
 refine qDl rfl (by omega) (gf:=118) (Bs:=w.heap.size+1+1+1+1+1) (R:=qPr (w.heap.size+1+1+1+1+1) A' n' cap' B' m' capm' ds ls) rfl trivial (enters_of Tryz.func118 (by kernel_rfl) rfl) (qOr 5 (w.heap.size+1+1+1+1+1) A' B' n' cap' m' capm' ds ls KN.out kn2) (fun _=>rfl)
   (fun pre W=>qPv #[.slice A n cap,.slice B m capm] #[.slice A' n' cap',.slice B' m' capm'] above w W∧pre.all (qD0 cs above)=true)
   (fun x a' pre W=> ∃bx,a'={ tmps:=#[.agg #[.slice A n cap,.slice B m capm],.agg #[.slice A' n' cap',.slice B' m' capm'],.int .i64 above,.pointer (some ⟨w.heap.size,0,none⟩),.pointer (some ⟨w.heap.size+1,0,none⟩),.pointer (some ⟨w.heap.size+1+1,0,none⟩),.pointer (some ⟨w.heap.size+1+1+1,0,none⟩),.pointer (some ⟨w.heap.size+1+1+1+1,0,none⟩),.int .i64 x.1,.pointer (some ⟨bx,0,none⟩),undef,undef,.agg #[.slice A' n' cap',.slice B' m' capm'],.func (.func 118) #[] #[.pointer (some ⟨w.heap.size+1+1+1+1+1,0,none⟩)],.int .i64 x.1,coA x,undef,undef,undef,undef,undef,undef,undef,undef,undef,undef,undef,undef,undef,undef,undef,undef,undef,undef,undef,undef,undef,undef,undef,undef,undef,undef,undef,undef,undef,undef,undef,undef],defers:=[] }∧
     w.heap.size+6≤bx∧W.heap[bx]?=some (.cells (coV x).toArray 45 (0,0))∧qPv #[.slice A n cap,.slice B m capm] #[.slice A' n' cap',.slice B' m' capm'] above w W∧pre.all (qD0 cs above)=true)
   (fun c pre W=>c=.ret∧qPv #[.slice A n cap,.slice B m capm] #[.slice A' n' cap',.slice B' m' capm'] above w W∧∃d∈ds,qD0 cs above d=false) ?hR ?hI ?hIa ?hIx ?h0 ?assign ?body ?done ?stop
 case hR=>exact fun s W h=>⟨h.1.bi,(KA.out.below h.1.bel).more h.1.bel.size,(KB.out.below h.1.bel).more h.1.bel.size⟩
 case hI=>exact fun pre V V' row h hg hr=>⟨h.1.grown hg (fun r e=>by have:=(hr r e).1;omega),h.2⟩
 case hIx=>exact fun c pre V V' row h hg hr=>⟨h.1,h.2.1.grown hg (fun r e=>by have:=(hr r e).1;omega),h.2.2⟩
 case hIa=>
  rintro x a' pre V V' row ⟨bx,h1,h2,h3,h4,h5⟩ hg hr;refine⟨bx,h1,h2,(hg.block _ (Array.getElem?_eq_some_iff.1 h3).1 (fun e=>?_)).trans h3,h4.grown hg (fun r e=>by have:=(hr r e).1;omega),h5⟩;obtain⟨_,o,ho,hc⟩:=hr bx e.symm;rw[h3] at ho;cases ho;cases hc
 case h0=>exact⟨hst,rfl⟩
 case assign=>
  rintro l pre x W K hp ⟨h1,h2⟩ hK;have hK2:=fun a' W'=>hK a' W'
  have HK:=hh_ hK2;have H1:=hh_ h1;clear hK hK2 h1 hst;obtain⟨i0,s0,⟨k0,u0⟩,n0,m0,t0⟩:=x;simp only[coA];gi_wp2
  have hnb:=qAd W (.cells #[.int .i64 i0,.string s0,.int .i64 k0,.bool u0,.bool n0,.int .i64 m0,.string t0] 45);refine HK.out _ _ ⟨by rw[World.size_alloc];omega,fun k o _ hk _=>bx_ hk _⟩ ⟨W.heap.size,rfl,H1.out.sz,hnb,H1.out.below ((Below.refl _ W).alloc le_ _),h2⟩
 case body=>
  rintro l pre x a' W hp ⟨bx,rfl,hbx,hb,hst,hall⟩;have hmem:x∈ds:=hp.subset (by simp);have hcA:Lay W W.heap.size A (colV cs):=(HA.out.below hst.bel).more hst.bel.size;have hpl:=qR9 W A B n cap m capm cs x.1 ml_ HN.out hcA;rw[qR5] at hpl;have y0:=cb_ 0 hst.ba rfl;have y1:=cb_ 1 hst.ba rfl;have HS:=hh_ hst;have HBB:=hh_ hb;have HALL:=hh_ hall;have HMEM:=hh_ hmem;clear hst hb hall hmem hp
  cases hat:evAt cs x.1 with
  |none=>
   rw[hat] at hpl;have hec:qD0 cs above x=decide (above<x.1):=qQw hat;obtain⟨i0,s0,⟨k0,u0⟩,n0,m0,t0⟩:=x;simp only at hpl hec;have HPL:=hh_ hpl;clear hpl hat hcA;simp only[coA];by_cases hab:i0≤above
   · rw[decide_eq_false (by omega)] at hec;have HEC:=hh_ hec;have HD:=hh_ (decide_eq_true hab);clear hec;gi_wp2_with (refine⟨trivial,?_⟩;gi_at_call 103;refine(CallsIn.inRound l (callsIn_wide.2 HPL.out)).mono ?_;rintro e W1 ⟨rfl,b1⟩;have S1:=hh_ (HS.out.below b1);have C1:=hh_ (bk_ HBB.out b1);have B1:=hh_ b1;clear b1)
     refine qCt [iF,iF,iU,iU,iU,iU,iU,iU,iU,iU,iU,iF,iF,iF,iT,iT,isV (.int .i64 i0),isV (.int .i64 above),iT,iT,iT] (by kernel_rfl) (by kernel_rfl) (by kernel_rfl) ?_ ?_
     ·
       refine rb ?_;refine rc 0 ?_;refine ro 0 ?_;refine ro 0 ?_;refine ro 1 ?_;refine ro 0 ?_;refine ro 2 ?_;refine ro 1 ?_;refine ro 0 ?_;refine ro 3 ?_;refine ro 1 ?_;refine rf (fun ev wo E=>?_) ?_
       · have e23:ev (.tmp 23)=.bool false:=E.e 0;have e32:ev (.tmp 32)=undef:=E.e 1;have ec:=E.const;go_simp;exact rv
       refine rc 0 ?_;refine rbq 0 ?_;refine rq 1 (fun ev wo E=>?_) ?_
       · have e35:ev (.tmp 35)=.bool false:=E.e 0;go_simp;exact rv
       refine rcq 0 1 ?_;refine rbq 0 ?_;refine rq 0 (fun ev wo E=>?_) ?_
       · have e5:ev (.tmp 5)=.pointer (some ⟨w.heap.size+1+1,0,none⟩):=(E.base 5 rfl).trans rfl;have hx0:=cb_ 0 (bk_ S1.out.bv E.bel) rfl;go_simp;exact rv
       refine rq 2 (fun ev wo E=>?_) ?_
       · have e38:ev (.tmp 38)=.int .i64 i0:=E.e 0;have e39:ev (.tmp 39)=.int .i64 above:=E.e 1;have hd2:=HD.out;go_simp;exact rv
       refine rq 2 (fun ev wo E=>?_) ?_
       · have e37:ev (.tmp 37)=.bool true:=E.e 0;have e40:ev (.tmp 40)=.bool true:=E.e 1;have ec:=E.const;go_simp;exact rv
       refine rf (fun ev wo E=>?_) ?_
       · have e34:ev (.tmp 34)=.bool false:=E.e 0;have e41:ev (.tmp 41)=.bool true:=E.e 1;have ec:=E.const;go_simp;exact rv
       trivial
     · intro wz bz
       (iterate 21 rintro _ rfl)
       have S2:=hh_ (S1.out.below bz);have K2:=hh_ (B1.out.trans (bz.mono B1.out.size));clear bz;have f3:=fz_ 0 S2.out.br;have y4:=cb_ 0 S2.out.br rfl;simp only[qAq];go_simp;gi_wp2
       refine⟨⟨by simp only[World.size_setCell];exact K2.out.size,fun k o hk1 hk hk3=>?_⟩,rfl,S2.out.setr,_,HMEM.out,HEC.out⟩;refine qAj (bk_ hk K2.out) (fun e=>?_) _;omega
   · rw[decide_eq_true (by omega)] at hec;have HEC:=hh_ hec;have HD:=hh_ (decide_eq_false hab);clear hec;gi_wp2_with (refine⟨trivial,?_⟩;gi_at_call 103;refine(CallsIn.inRound l (callsIn_wide.2 HPL.out)).mono ?_;rintro e W1 ⟨rfl,b1⟩;have S1:=hh_ (HS.out.below b1);have C1:=hh_ (bk_ HBB.out b1);have B1:=hh_ b1;clear b1)
     refine qCt [iF,iF,iU,iU,iU,iU,iU,iU,iU,iU,iU,iF,iF,iF,iT,iT,isV (.int .i64 i0),isV (.int .i64 above),iF,iF,iF] (by kernel_rfl) (by kernel_rfl) (by kernel_rfl) ?_ ?_
     ·
       refine rb ?_;refine rc 0 ?_;refine ro 0 ?_;refine ro 0 ?_;refine ro 1 ?_;refine ro 0 ?_;refine ro 2 ?_;refine ro 1 ?_;refine ro 0 ?_;refine ro 3 ?_;refine ro 1 ?_;refine rf (fun ev wo E=>?_) ?_
       · have e23:ev (.tmp 23)=.bool false:=E.e 0;have e32:ev (.tmp 32)=undef:=E.e 1;have ec:=E.const;go_simp;exact rv
       refine rc 0 ?_;refine rbq 0 ?_;refine rq 1 (fun ev wo E=>?_) ?_
       · have e35:ev (.tmp 35)=.bool false:=E.e 0;go_simp;exact rv
       refine rcq 0 1 ?_;refine rbq 0 ?_;refine rq 0 (fun ev wo E=>?_) ?_
       · have e5:ev (.tmp 5)=.pointer (some ⟨w.heap.size+1+1,0,none⟩):=(E.base 5 rfl).trans rfl;have hx0:=cb_ 0 (bk_ S1.out.bv E.bel) rfl;go_simp;exact rv
       refine rq 2 (fun ev wo E=>?_) ?_
       · have e38:ev (.tmp 38)=.int .i64 i0:=E.e 0;have e39:ev (.tmp 39)=.int .i64 above:=E.e 1;have hd2:=HD.out;go_simp;exact rv
       refine rq 2 (fun ev wo E=>?_) ?_
       · have e37:ev (.tmp 37)=.bool true:=E.e 0;have e40:ev (.tmp 40)=.bool false:=E.e 1;have ec:=E.const;go_simp;exact rv
       refine rf (fun ev wo E=>?_) ?_
       · have e34:ev (.tmp 34)=.bool false:=E.e 0;have e41:ev (.tmp 41)=.bool false:=E.e 1;have ec:=E.const;go_simp;exact rv
       trivial
     · intro wz bz
       (iterate 21 rintro _ rfl)
       have S2:=hh_ (S1.out.below bz);have K2:=hh_ (B1.out.trans (bz.mono B1.out.size));clear bz;simp only[qAq];go_simp;gi_wp2
       exact⟨⟨K2.out.size,fun k o _ hk _=>bk_ hk K2.out⟩,S2.out,qP7 HALL.out HEC.out⟩
  | some k=>
   rw[hat] at hpl;obtain⟨c,hc,hid⟩:=qHm hat;have hkl:k<n:=by rw[HN.out];exact(List.getElem?_eq_some_iff.1 hc).1
   have hec:qD0 cs above x=qFa c x:=by rw[qQa hat,List.getD_eq_getElem?_getD,hc];rfl
   have hst2:=fun W=>qTq c x W hid
   obtain⟨g,o,rfl,hg,j1,j2,j3,j4,j5,j6,j7⟩:=hcA.co hc;obtain⟨i0,s0,⟨k0,u0⟩,n0,m0,t0⟩:=x;obtain⟨i1,s1,⟨k1,u1⟩,n1,m1,t1⟩:=c;simp only at hpl hec j1 j2 j3 j4 j5 j6 j7;simp only[coA] at hst2;have HPL:=hh_ hpl;have HKL:=hh_ hkl;have GW:=hh_ (qGm.mk hg j1 j2 j3 j4 j5 j6 j7);clear hpl hat hcA hc hid hg j1 j2 j3 j4 j5 j6 j7 hkl;simp only[coA]
   cases hes:qFa ((i1,s1,(k1,u1),n1,m1,t1):Co) (i0,s0,(k0,u0),n0,m0,t0) with
   |true=>
    rw[hes] at hst2 hec;have HEC:=hh_ hec;have HST:=hh_ hst2;clear hec hst2 hes;gi_wp2_with (refine⟨trivial,?_⟩;gi_at_call 103;refine(CallsIn.inRound l (callsIn_wide.2 HPL.out)).mono ?_;rintro e W1 ⟨rfl,b1⟩;have S1:=hh_ (HS.out.below b1);have C1:=hh_ (bk_ HBB.out b1);have B1:=hh_ b1;clear b1)
    have G:=hh_ ((GW.out.below B1.out).more B1.out.size);refine qCt [iT,iT,isV (.func (.func 101) #[] #[]),isV (.pointer (some ⟨w.heap.size,0,none⟩)),isV (.slice (some ⟨g,o,none⟩) n cap),isV (.int .i64 (k:Nat)),isV (.pointer (some ⟨g,o+k*7,none⟩)),isV (.agg #[.int .i64 i1,.string s1,.int .i64 k1,.bool u1,.bool n1,.int .i64 m1,.string t1]),isV (.agg #[.int .i64 i0,.string s0,.int .i64 k0,.bool u0,.bool n0,.int .i64 m0,.string t0]),iT,iF,iF,iF,iT,iF,iF,iU,iU,iU,iF,iF] (by kernel_rfl) (by kernel_rfl) (by kernel_rfl) ?_ ?_
    ·
      refine rb ?_;refine rc 0 ?_;refine rq 0 (fun ev wo E=>?_) ?_
      · have e7:ev (.tmp 7)=.pointer (some ⟨w.heap.size+1+1+1+1,0,none⟩):=(E.base 7 rfl).trans rfl;have hx0:=cb_ 0 (bk_ S1.out.bf E.bel) rfl;go_simp;exact rv
      refine rq 0 (fun ev wo E=>?_) ?_
      · have e3:ev (.tmp 3)=.pointer (some ⟨w.heap.size,0,none⟩):=(E.base 3 rfl).trans rfl;go_simp;exact rv
      refine rq 1 (fun ev wo E=>?_) ?_
      · have e25:ev (.tmp 25)=.pointer (some ⟨w.heap.size,0,none⟩):=E.e 0;have hx0:=cb_ 0 (bk_ S1.out.ba E.bel) rfl;go_simp;exact rv
      refine rbq 0 ?_;refine rq 2 (fun ev wo E=>?_) ?_
      · have e26:ev (.tmp 26)=.slice (some ⟨g,o,none⟩) n cap:=E.e 0;have e27:ev (.tmp 27)=.int .i64 (k:Nat):=E.e 1;have hk1:=HKL.out;have hk2:(k:Int)<n:=by omega
        go_simp;exact rv
      refine rq 1 (fun ev wo E=>?_) ?_
      · have e28:ev (.tmp 28)=.pointer (some ⟨g,o+k*7,none⟩):=E.e 0;have hx0:=(E.bel.cell (G.out.lt)).trans G.out.c0;have hx1:=(E.bel.cell (G.out.lt)).trans G.out.c1;have hx2:=(E.bel.cell (G.out.lt)).trans G.out.c2;have hx3:=(E.bel.cell (G.out.lt)).trans G.out.c3;have hx4:=(E.bel.cell (G.out.lt)).trans G.out.c4;have hx5:=(E.bel.cell (G.out.lt)).trans G.out.c5;have hx6:=(E.bel.cell (G.out.lt)).trans G.out.c6;go_simp;exact rv
      refine rq 0 (fun ev wo E=>?_) ?_
      · have e9:ev (.tmp 9)=.pointer (some ⟨bx,0,none⟩):=(E.base 9 rfl).trans rfl;have hx0:=cb_ 0 (bk_ C1.out E.bel) rfl;have hx1:=cb_ 1 (bk_ C1.out E.bel) rfl;have hx2:=cb_ 2 (bk_ C1.out E.bel) rfl;have hx3:=cb_ 3 (bk_ C1.out E.bel) rfl;have hx4:=cb_ 4 (bk_ C1.out E.bel) rfl;have hx5:=cb_ 5 (bk_ C1.out E.bel) rfl;have hx6:=cb_ 6 (bk_ C1.out E.bel) rfl;go_simp;exact rv
      refine rq 3 (fun ev wo E=>?_) ?_
      · have e24:ev (.tmp 24)=.func (.func 101) #[] #[]:=E.e 0;have e29:ev (.tmp 29)=.agg #[.int .i64 i1,.string s1,.int .i64 k1,.bool u1,.bool n1,.int .i64 m1,.string t1]:=E.e 1;have e30:ev (.tmp 30)=.agg #[.int .i64 i0,.string s0,.int .i64 k0,.bool u0,.bool n0,.int .i64 m0,.string t0]:=E.e 2;go_simp;refine qAb ((HST.out wo).mono ?_);rintro e w' ⟨rfl,hb⟩;exact⟨_,rfl,hb,rfl⟩
      refine rq 1 (fun ev wo E=>?_) ?_
      · have e31:ev (.tmp 31)=.bool true:=E.e 0;go_simp;exact rv
      refine rf (fun ev wo E=>?_) ?_
      · have e23:ev (.tmp 23)=.bool true:=E.e 0;have e32:ev (.tmp 32)=.bool false:=E.e 1;have ec:=E.const;go_simp;exact rv
      refine rc 0 ?_;refine rbq 0 ?_;refine rq 1 (fun ev wo E=>?_) ?_
      · have e35:ev (.tmp 35)=.bool true:=E.e 0;go_simp;exact rv
      refine rcq 0 1 ?_;refine ro 0 ?_;refine ro 0 ?_;refine ro 2 ?_;refine rq 2 (fun ev wo E=>?_) ?_
      · have e37:ev (.tmp 37)=.bool false:=E.e 0;have e40:ev (.tmp 40)=undef:=E.e 1;have ec:=E.const;go_simp;exact rv
      refine rf (fun ev wo E=>?_) ?_
      · have e34:ev (.tmp 34)=.bool false:=E.e 0;have e41:ev (.tmp 41)=.bool false:=E.e 1;have ec:=E.const;go_simp;exact rv
      trivial
    · intro wz bz
      (iterate 21 rintro _ rfl)
      have S2:=hh_ (S1.out.below bz);have K2:=hh_ (B1.out.trans (bz.mono B1.out.size));clear bz;simp only[qAq];go_simp;gi_wp2
      exact⟨⟨K2.out.size,fun k o _ hk _=>bk_ hk K2.out⟩,S2.out,qP7 HALL.out HEC.out⟩
   |false=>
    rw[hes] at hst2 hec;have HEC:=hh_ hec;have HST:=hh_ hst2;clear hec hst2 hes;gi_wp2_with (refine⟨trivial,?_⟩;gi_at_call 103;refine(CallsIn.inRound l (callsIn_wide.2 HPL.out)).mono ?_;rintro e W1 ⟨rfl,b1⟩;have S1:=hh_ (HS.out.below b1);have C1:=hh_ (bk_ HBB.out b1);have B1:=hh_ b1;clear b1)
    have G:=hh_ ((GW.out.below B1.out).more B1.out.size);refine qCt [iT,iT,isV (.func (.func 101) #[] #[]),isV (.pointer (some ⟨w.heap.size,0,none⟩)),isV (.slice (some ⟨g,o,none⟩) n cap),isV (.int .i64 (k:Nat)),isV (.pointer (some ⟨g,o+k*7,none⟩)),isV (.agg #[.int .i64 i1,.string s1,.int .i64 k1,.bool u1,.bool n1,.int .i64 m1,.string t1]),isV (.agg #[.int .i64 i0,.string s0,.int .i64 k0,.bool u0,.bool n0,.int .i64 m0,.string t0]),iF,iT,iT,iT,iU,iU,iU,iU,iU,iU,iU,iT] (by kernel_rfl) (by kernel_rfl) (by kernel_rfl) ?_ ?_
    ·
      refine rb ?_;refine rc 0 ?_;refine rq 0 (fun ev wo E=>?_) ?_
      · have e7:ev (.tmp 7)=.pointer (some ⟨w.heap.size+1+1+1+1,0,none⟩):=(E.base 7 rfl).trans rfl;have hx0:=cb_ 0 (bk_ S1.out.bf E.bel) rfl;go_simp;exact rv
      refine rq 0 (fun ev wo E=>?_) ?_
      · have e3:ev (.tmp 3)=.pointer (some ⟨w.heap.size,0,none⟩):=(E.base 3 rfl).trans rfl;go_simp;exact rv
      refine rq 1 (fun ev wo E=>?_) ?_
      · have e25:ev (.tmp 25)=.pointer (some ⟨w.heap.size,0,none⟩):=E.e 0;have hx0:=cb_ 0 (bk_ S1.out.ba E.bel) rfl;go_simp;exact rv
      refine rbq 0 ?_;refine rq 2 (fun ev wo E=>?_) ?_
      · have e26:ev (.tmp 26)=.slice (some ⟨g,o,none⟩) n cap:=E.e 0;have e27:ev (.tmp 27)=.int .i64 (k:Nat):=E.e 1;have hk1:=HKL.out;have hk2:(k:Int)<n:=by omega
        go_simp;exact rv
      refine rq 1 (fun ev wo E=>?_) ?_
      · have e28:ev (.tmp 28)=.pointer (some ⟨g,o+k*7,none⟩):=E.e 0;have hx0:=(E.bel.cell (G.out.lt)).trans G.out.c0;have hx1:=(E.bel.cell (G.out.lt)).trans G.out.c1;have hx2:=(E.bel.cell (G.out.lt)).trans G.out.c2;have hx3:=(E.bel.cell (G.out.lt)).trans G.out.c3;have hx4:=(E.bel.cell (G.out.lt)).trans G.out.c4;have hx5:=(E.bel.cell (G.out.lt)).trans G.out.c5;have hx6:=(E.bel.cell (G.out.lt)).trans G.out.c6;go_simp;exact rv
      refine rq 0 (fun ev wo E=>?_) ?_
      · have e9:ev (.tmp 9)=.pointer (some ⟨bx,0,none⟩):=(E.base 9 rfl).trans rfl;have hx0:=cb_ 0 (bk_ C1.out E.bel) rfl;have hx1:=cb_ 1 (bk_ C1.out E.bel) rfl;have hx2:=cb_ 2 (bk_ C1.out E.bel) rfl;have hx3:=cb_ 3 (bk_ C1.out E.bel) rfl;have hx4:=cb_ 4 (bk_ C1.out E.bel) rfl;have hx5:=cb_ 5 (bk_ C1.out E.bel) rfl;have hx6:=cb_ 6 (bk_ C1.out E.bel) rfl;go_simp;exact rv
      refine rq 3 (fun ev wo E=>?_) ?_
      · have e24:ev (.tmp 24)=.func (.func 101) #[] #[]:=E.e 0;have e29:ev (.tmp 29)=.agg #[.int .i64 i1,.string s1,.int .i64 k1,.bool u1,.bool n1,.int .i64 m1,.string t1]:=E.e 1;have e30:ev (.tmp 30)=.agg #[.int .i64 i0,.string s0,.int .i64 k0,.bool u0,.bool n0,.int .i64 m0,.string t0]:=E.e 2;go_simp;refine qAb ((HST.out wo).mono ?_);rintro e w' ⟨rfl,hb⟩;exact⟨_,rfl,hb,rfl⟩
      refine rq 1 (fun ev wo E=>?_) ?_
      · have e31:ev (.tmp 31)=.bool false:=E.e 0;go_simp;exact rv
      refine rf (fun ev wo E=>?_) ?_
      · have e23:ev (.tmp 23)=.bool true:=E.e 0;have e32:ev (.tmp 32)=.bool true:=E.e 1;have ec:=E.const;go_simp;exact rv
      refine rc 0 ?_;refine ro 0 ?_;refine ro 1 ?_;refine ro 1 ?_;refine ro2 0 ?_;refine ro2 0 ?_;refine ro2 2 ?_;refine ro 2 ?_;refine rf (fun ev wo E=>?_) ?_
      · have e34:ev (.tmp 34)=.bool true:=E.e 0;have e41:ev (.tmp 41)=undef:=E.e 1;have ec:=E.const;go_simp;exact rv
      trivial
    · intro wz bz
      (iterate 21 rintro _ rfl)
      have S2:=hh_ (S1.out.below bz);have K2:=hh_ (B1.out.trans (bz.mono B1.out.size));clear bz;have f3:=fz_ 0 S2.out.br;have y4:=cb_ 0 S2.out.br rfl;simp only[qAq];go_simp;gi_wp2
      refine⟨⟨by simp only[World.size_setCell];exact K2.out.size,fun k o hk1 hk hk3=>?_⟩,rfl,S2.out.setr,_,HMEM.out,HEC.out⟩;refine qAj (bk_ hk K2.out) (fun e=>?_) _;omega
 case stop=>
  rintro D c pre W hD ⟨rfl,hst,d,hd,hbad⟩ hK
  have hno:qBa (cs,ks) (ds,ls) above=false:=by
   unfold qBa;rw[List.all_eq_false.2 ⟨d,hd,by rw[hbad];decide⟩];rfl
  have HST:=hh_ hst;have HK2:=hh_ hK;have HNO:=hh_ hno;clear hst hK hbad hno;gi_wp2
  have z1:=cb_ 0 (qBe (o':=.deferred none) HST.out.br (show w.heap.size+3≠D by omega)) rfl;refine⟨by simp,.inl ⟨_,_,rfl,run_takeDeferred HK2.out,?_⟩⟩;refine⟨.bool false,?_,congrArg (fun b=>Ending.returned (.bool b)) HNO.out.symm,?_⟩
  · simp[results,Tryz.results70,Tryz.f70,go_sem,z1]
  · exact HST.out.bel.grown (grownBy_putObj' _ D (.deferred none)) HST.out.bel.size (fun k e=>by cases e;omega)
 case done=>
  rintro D W hD ⟨hst,hall⟩ hK
  have hyes:qBa (cs,ks) (ds,ls) above=decide (qA6 (cs,ks)=qA6 (ds,ls)):=by
   unfold qBa;rw[hall,Bool.true_and]
  have H1:=hh_ hst;have HDE:=hh_ hK;have HYES:=hh_ hyes;clear hst hK hyes hall;gi_wp2
  refine wpIn_wide.2 ?_;refine qB4 (l:=[_,_,_,_,_]) (o:=_) [isV (.agg #[.slice A n cap,.slice B m capm]),qK2 (qA6 (cs,ks)),isV (.agg #[.slice A' n' cap',.slice B' m' capm']),qK2 (qA6 (ds,ls)),isV (.bool (decide (qA6 (cs,ks)=qA6 (ds,ls))))] (by kernel_rfl) (by kernel_rfl) (by kernel_rfl) (by kernel_rfl) rfl ?_ ?_
  ·
    refine rf (fun ev wo E=>?_) ?_
    · have e3:ev (.tmp 3)=.pointer (some ⟨w.heap.size,0,none⟩):=(E.base 3 rfl).trans rfl;have hx0:=cb_ 0 (bk_ H1.out.ba E.bel) rfl;have hx1:=cb_ 1 (bk_ H1.out.ba E.bel) rfl;go_simp;exact rv
    refine⟨qBo (qA5.free rfl) (qG4 _) (fun ev wo E=>?_),?_⟩
    · have e43:ev (.tmp 43)=.agg #[.slice A n cap,.slice B m capm]:=E.e 0;have ef:=E.func;go_simp;refine qAb ((qKv A B n cap m capm cs ks wo HN.out HM.out hn2 hm2 (HA.out.below (H1.out.bel.trans (E.bel.mono H1.out.bel.size)) |>.more (Nat.le_trans H1.out.bel.size E.bel.size)) (HB.out.below (H1.out.bel.trans (E.bel.mono H1.out.bel.size)) |>.more (Nat.le_trans H1.out.bel.size E.bel.size)) HK.out).mono ?_);rintro e w' ⟨v,rfl,ho,hb⟩;exact⟨_,rfl,hb,qKu ho⟩
    refine rf (fun ev wo E=>?_) ?_
    · have e4:ev (.tmp 4)=.pointer (some ⟨w.heap.size+1,0,none⟩):=(E.base 4 rfl).trans rfl;have hx0:=cb_ 0 (bk_ H1.out.bb E.bel) rfl;have hx1:=cb_ 1 (bk_ H1.out.bb E.bel) rfl;go_simp;exact rv
    refine⟨qBo (qA5.free rfl) (qG4 _) (fun ev wo E=>?_),?_⟩
    · have e45:ev (.tmp 45)=.agg #[.slice A' n' cap',.slice B' m' capm']:=E.e 0;have ef:=E.func;go_simp;refine qAb ((qKv A' B' n' cap' m' capm' ds ls wo KN.out KM.out kn2 km2 (KA.out.below (H1.out.bel.trans (E.bel.mono H1.out.bel.size)) |>.more (Nat.le_trans H1.out.bel.size E.bel.size)) (KB.out.below (H1.out.bel.trans (E.bel.mono H1.out.bel.size)) |>.more (Nat.le_trans H1.out.bel.size E.bel.size)) KK.out).mono ?_);rintro e w' ⟨v,rfl,ho,hb⟩;exact⟨_,rfl,hb,qKu ho⟩
    refine rf (fun ev wo E=>?_) ?_
    · have e44:(qK2 (qA6 (cs,ks))) (ev (.tmp 44)) wo:=E.d 0 rfl rfl rfl;have e46:(qK2 (qA6 (ds,ls))) (ev (.tmp 46)) wo:=E.d 1 rfl rfl rfl;have ef:=E.func;obtain⟨A1,c1,e1,l1⟩:=e44;obtain⟨A2,c2,e2,l2⟩:=e46;go_simp;refine qAb ((qKz wo A1 A2 _ c1 _ c2 _ _ (by rw[qDr,←HM.out];unfold maxLen;omega) (by rw[qDr,←KM.out];unfold maxLen;omega) rfl rfl l1 l2).mono ?_);rintro e w' ⟨rfl,hb⟩;exact⟨_,rfl,hb,rfl⟩
    trivial
  · intro wz bz;rintro _ rfl;intro v44 h44;rintro _ rfl;intro v46 h46;rintro _ rfl;have S2:=hh_ (H1.out.below bz);have D2:=hh_ (bk_ HDE.out bz);clear bz;have f3:=fz_ 0 S2.out.br;have y4:=cb_ 0 S2.out.br rfl;simp only[qAq];unfold Oper.wp;go_simp;gi_wp2
    have hk2:(wz.setCell ⟨w.heap.size+3,0,none⟩ (.bool (decide (qA6 (cs,ks)=qA6 (ds,ls))))).heap[D]?=some (.deferred (some [])):=qAj D2.out (by omega) _;have hb1:=Go.Ms.ms_one_set S2.out.br (.bool (decide (qA6 (cs,ks)=qA6 (ds,ls))));have z1:=cb_ 0 (qBe (o':=.deferred none) hb1 (show w.heap.size+3≠D by omega)) rfl;have hbe:=S2.out.bel.setCell (p:=⟨w.heap.size+3,0,none⟩) (by simp only;omega) (.bool (decide (qA6 (cs,ks)=qA6 (ds,ls))));refine⟨by simp,.inl ⟨_,_,rfl,run_takeDeferred hk2,?_⟩⟩;refine⟨.bool (decide (qA6 (cs,ks)=qA6 (ds,ls))),?_,congrArg (fun b=>Ending.returned (.bool b)) HYES.out.symm,?_⟩
    · simp[results,Tryz.results70,Tryz.f70,go_sem,z1]
    · exact hbe.grown (grownBy_putObj' _ D (.deferred none)) hbe.size (fun k e=>by cases e;omega)
end Go.Proofs.YtainiaighnjpfaaGreatDoor
