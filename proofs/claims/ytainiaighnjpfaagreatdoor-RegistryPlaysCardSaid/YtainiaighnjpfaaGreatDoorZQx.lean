/- Evolve: what of a column stays; may a column follow one of the same id. -/
import Derived.Test.YtainiaighnjpfaaGreatDoorZQw
set_option maxHeartbeats 4000000
set_option maxRecDepth 100000
set_option linter.unusedVariables false
set_option linter.unusedSimpArgs false
namespace Go.Proofs.YtainiaighnjpfaaGreatDoor
open Go.RowKit Go.Ms Go.Lib Go.Shelf Go.Rel
theorem qPq (c:Co) (w:World):Calls Tryz.prog 102 #[coA c] w fun e w'=>e=.returned (coA (evAs c))∧Below w.heap.size w w':=by
 obtain⟨i0,s0,⟨k0,u0⟩,n0,m0,t0⟩:=c;by_cases h:k0=2
 · have he:evAs ((i0,s0,(k0,u0),n0,m0,t0):Co)=(i0,s0,(3,u0),n0,m0,t0):=by unfold evAs qUl;rw[if_pos h]
   rw[he];subst h;clear he;show Calls Tryz.prog 102 #[.agg #[.int .i64 i0,.string s0,.int .i64 2,.bool u0,.bool n0,.int .i64 m0,.string t0]] w _
   go_enter Tryz.func102,Tryz.ntmps102;go_wp2_with fail
   refine bodyPost_ret (results_cell_row (P:=Tryz.prog) rfl _ _ (w.heap.size+1) 45 _ (0,0) _ rfl (heap_alloc2_new w _ _) Tryz.underlying45 rfl (by kernel_rfl)) rfl ?_;exact⟨rfl,((Below.refl _ w).alloc le_ _).alloc (by rw[World.size_alloc];omega) _⟩
 · have he:evAs ((i0,s0,(k0,u0),n0,m0,t0):Co)=(i0,s0,(k0,u0),n0,m0,t0):=by unfold evAs;rw[if_neg h]
   rw[he];clear he;show Calls Tryz.prog 102 #[.agg #[.int .i64 i0,.string s0,.int .i64 k0,.bool u0,.bool n0,.int .i64 m0,.string t0]] w _
   have hk:(k0==2)=false:=by simpa using h
   go_enter Tryz.func102,Tryz.ntmps102;go_wp2_with fail
   refine bodyPost_ret (results_cell_row (P:=Tryz.prog) rfl _ _ (w.heap.size+1) 45 _ (0,0) _ rfl (heap_alloc2_new w _ _) Tryz.underlying45 rfl (by kernel_rfl)) rfl ?_;exact⟨rfl,((Below.refl _ w).alloc le_ _).alloc (by rw[World.size_alloc];omega) _⟩
theorem qTq (c d:Co) (w:World) (h:c.1=d.1):Calls Tryz.prog 101 #[coA c,coA d] w fun e w'=>e=.returned (.bool (qFa c d))∧Below w.heap.size w w':=by
 rw[←qZt h];clear h;have ha:=fun W=>qPq c W
 have hb:=fun W=>qPq d W
 obtain⟨C,hC⟩:∃C,evAs c=C:=⟨_,rfl⟩;obtain⟨D,hD⟩:∃D,evAs d=D:=⟨_,rfl⟩;rw[hC] at ha ⊢;rw[hD] at hb ⊢;clear hC hD;obtain⟨i0,s0,⟨k0,u0⟩,n0,m0,t0⟩:=c;obtain⟨i1,s1,⟨k1,u1⟩,n1,m1,t1⟩:=d;obtain⟨ai,aS,⟨ak,au⟩,an,am,aT⟩:=C;obtain⟨bi,bS,⟨bk,bu⟩,bn,bm,bT⟩:=D
 have q:∀S T:ByteArray,S.toList=T.toList↔S=T:=fun S T=>by
  rw[Lib.toList_data,Lib.toList_data];exact⟨fun h=>by rw[qBu (s:=S) rfl,qBu (s:=T) rfl,h],fun h=>by rw[h]⟩
 have he:((ai,aS,(ak,au),an,am,aT):Co)=(bi,bS,(bk,bu),bn,bm,bT)↔(ai=bi∧aS.toList=bS.toList∧ak=bk∧au=bu∧an=bn∧am=bm∧aT.toList=bT.toList):=by
  rw[q,q];simp only[Prod.mk.injEq];constructor
  · rintro⟨a,b,⟨c,d⟩,e,f,g⟩;exact⟨a,b,c,d,e,f,g⟩
  · rintro⟨a,b,c,d,e,f,g⟩;exact⟨a,b,⟨c,d⟩,e,f,g⟩
 clear q;simp only[coA] at ha hb;show Calls Tryz.prog 101 #[.agg #[.int .i64 i0,.string s0,.int .i64 k0,.bool u0,.bool n0,.int .i64 m0,.string t0],.agg #[.int .i64 i1,.string s1,.int .i64 k1,.bool u1,.bool n1,.int .i64 m1,.string t1]] w _
 have HA:=hh_ ha;have HB:=hh_ hb;clear ha hb
 cases heb:decide (((ai,aS,(ak,au),an,am,aT):Co)=(bi,bS,(bk,bu),bn,bm,bT)) with
 | true =>
  have he2:=he.1 (of_decide_eq_true heb);have HE:=hh_ he2;clear he he2 heb;by_cases h3:k0=3
  · by_cases h2:k1=2
    · have h3':(k0==3)=true:=by simpa using h3
      have h2':(k1==2)=true:=by simpa using h2
      have hr:(true&& !(decide (k0=3)&&decide (k1=2)))=false:=by simp[h3,h2]
      show Calls _ _ _ _ fun e w'=>e=.returned (.bool (true&& !(decide (k0=3)&&decide (k1=2))))∧_
      rw[hr];clear hr h3 h2;go_enter Tryz.func101,Tryz.ntmps101;go_wp2_with fail
      obtain⟨X,hX⟩:∃X,X=(w.alloc (.cells #[.int .i64 i0,.string s0,.int .i64 k0,.bool u0,.bool n0,.int .i64 m0,.string t0] 45)).alloc (.cells #[.int .i64 i1,.string s1,.int .i64 k1,.bool u1,.bool n1,.int .i64 m1,.string t1] 45):=⟨_,rfl⟩;have q0:X.heap[w.heap.size]?=some (.cells #[.int .i64 i0,.string s0,.int .i64 k0,.bool u0,.bool n0,.int .i64 m0,.string t0] 45 (0,0)):=by rw[hX];exact bx_ (qAd _ _) _
      have q1:X.heap[w.heap.size+1]?=some (.cells #[.int .i64 i1,.string s1,.int .i64 k1,.bool u1,.bool n1,.int .i64 m1,.string t1] 45 (0,0)):=by rw[hX];exact heap_alloc2_new w _ _
      have bX:Below w.heap.size w X:=by rw[hX];exact((Below.refl _ w).alloc le_ _).alloc (by rw[World.size_alloc];omega) _
      rw[←hX];have Q0:=hh_ q0;have Q1:=hh_ q1;have BX:=hh_ bX;clear hX q0 q1 bX;refine qAe [isV (.agg #[.int .i64 i0,.string s0,.int .i64 k0,.bool u0,.bool n0,.int .i64 m0,.string t0]),isV (.agg #[.int .i64 ai,.string aS,.int .i64 ak,.bool au,.bool an,.int .i64 am,.string aT]),isV (.agg #[.int .i64 i1,.string s1,.int .i64 k1,.bool u1,.bool n1,.int .i64 m1,.string t1]),isV (.agg #[.int .i64 bi,.string bS,.int .i64 bk,.bool bu,.bool bn,.int .i64 bm,.string bT]),iT,iT,iT,iF,iF,iF] (by kernel_rfl) (by kernel_rfl) ?_ ?_
      ·
        refine rf (fun ev wo E=>?_) ?_
        · have e2:ev (.tmp 2)=.pointer (some ⟨w.heap.size,0,none⟩):=(E.base 2 rfl).trans rfl;have hx0:=cb_ 0 (bk_ Q0.out E.bel) rfl;have hx1:=cb_ 1 (bk_ Q0.out E.bel) rfl;have hx2:=cb_ 2 (bk_ Q0.out E.bel) rfl;have hx3:=cb_ 3 (bk_ Q0.out E.bel) rfl;have hx4:=cb_ 4 (bk_ Q0.out E.bel) rfl;have hx5:=cb_ 5 (bk_ Q0.out E.bel) rfl;have hx6:=cb_ 6 (bk_ Q0.out E.bel) rfl;go_simp;exact rv
        refine rf (fun ev wo E=>?_) ?_
        · have e16:ev (.tmp 16)=.agg #[.int .i64 i0,.string s0,.int .i64 k0,.bool u0,.bool n0,.int .i64 m0,.string t0]:=E.e 0;have ef:=E.func;go_simp;refine qAb ((HA.out wo).mono ?_);rintro e w' ⟨rfl,hb⟩;exact⟨_,rfl,hb,rfl⟩
        refine rf (fun ev wo E=>?_) ?_
        · have e3:ev (.tmp 3)=.pointer (some ⟨w.heap.size+1,0,none⟩):=(E.base 3 rfl).trans rfl;have hx0:=cb_ 0 (bk_ Q1.out E.bel) rfl;have hx1:=cb_ 1 (bk_ Q1.out E.bel) rfl;have hx2:=cb_ 2 (bk_ Q1.out E.bel) rfl;have hx3:=cb_ 3 (bk_ Q1.out E.bel) rfl;have hx4:=cb_ 4 (bk_ Q1.out E.bel) rfl;have hx5:=cb_ 5 (bk_ Q1.out E.bel) rfl;have hx6:=cb_ 6 (bk_ Q1.out E.bel) rfl;go_simp;exact rv
        refine rf (fun ev wo E=>?_) ?_
        · have e18:ev (.tmp 18)=.agg #[.int .i64 i1,.string s1,.int .i64 k1,.bool u1,.bool n1,.int .i64 m1,.string t1]:=E.e 0;have ef:=E.func;go_simp;refine qAb ((HB.out wo).mono ?_);rintro e w' ⟨rfl,hb⟩;exact⟨_,rfl,hb,rfl⟩
        refine rf (fun ev wo E=>?_) ?_
        · have e17:ev (.tmp 17)=.agg #[.int .i64 ai,.string aS,.int .i64 ak,.bool au,.bool an,.int .i64 am,.string aT]:=E.e 0;have e19:ev (.tmp 19)=.agg #[.int .i64 bi,.string bS,.int .i64 bk,.bool bu,.bool bn,.int .i64 bm,.string bT]:=E.e 1;obtain⟨w1,w2,w3,w4,w5,w6,w7⟩:=HE.out;go_simp;exact rv
        refine rc 0 ?_;refine rbq 0 ?_;refine rq 1 (fun ev wo E=>?_) ?_
        · have e22:ev (.tmp 22)=.bool true:=E.e 0;go_simp;exact rv
        refine rf (fun ev wo E=>?_) ?_
        · have e21:ev (.tmp 21)=.bool true:=E.e 0;have e23:ev (.tmp 23)=.bool false:=E.e 1;have ec:=E.const;go_simp;exact rv
        refine⟨qA7 0 (qA5.free rfl) (.inr rfl) rfl rfl rfl rfl (qAr _),?_⟩;trivial
      · intro wz bz
        (iterate 10 rintro _ rfl);have BZ:=hh_ (BX.out.trans (bz.mono BX.out.size));clear bz;simp only[qAq];go_simp
        go_wp2_with fail
        go_ret;exact⟨rfl,BZ.out⟩
    · have h3':(k0==3)=true:=by simpa using h3
      have h2':(k1==2)=false:=by simpa using h2
      have hr:(true&& !(decide (k0=3)&&decide (k1=2)))=true:=by simp[h2]
      show Calls _ _ _ _ fun e w'=>e=.returned (.bool (true&& !(decide (k0=3)&&decide (k1=2))))∧_
      rw[hr];clear hr h3 h2;go_enter Tryz.func101,Tryz.ntmps101;go_wp2_with fail
      obtain⟨X,hX⟩:∃X,X=(w.alloc (.cells #[.int .i64 i0,.string s0,.int .i64 k0,.bool u0,.bool n0,.int .i64 m0,.string t0] 45)).alloc (.cells #[.int .i64 i1,.string s1,.int .i64 k1,.bool u1,.bool n1,.int .i64 m1,.string t1] 45):=⟨_,rfl⟩;have q0:X.heap[w.heap.size]?=some (.cells #[.int .i64 i0,.string s0,.int .i64 k0,.bool u0,.bool n0,.int .i64 m0,.string t0] 45 (0,0)):=by rw[hX];exact bx_ (qAd _ _) _
      have q1:X.heap[w.heap.size+1]?=some (.cells #[.int .i64 i1,.string s1,.int .i64 k1,.bool u1,.bool n1,.int .i64 m1,.string t1] 45 (0,0)):=by rw[hX];exact heap_alloc2_new w _ _
      have bX:Below w.heap.size w X:=by rw[hX];exact((Below.refl _ w).alloc le_ _).alloc (by rw[World.size_alloc];omega) _
      rw[←hX];have Q0:=hh_ q0;have Q1:=hh_ q1;have BX:=hh_ bX;clear hX q0 q1 bX;refine qAe [isV (.agg #[.int .i64 i0,.string s0,.int .i64 k0,.bool u0,.bool n0,.int .i64 m0,.string t0]),isV (.agg #[.int .i64 ai,.string aS,.int .i64 ak,.bool au,.bool an,.int .i64 am,.string aT]),isV (.agg #[.int .i64 i1,.string s1,.int .i64 k1,.bool u1,.bool n1,.int .i64 m1,.string t1]),isV (.agg #[.int .i64 bi,.string bS,.int .i64 bk,.bool bu,.bool bn,.int .i64 bm,.string bT]),iT,iT,iF,iT,iT,iT] (by kernel_rfl) (by kernel_rfl) ?_ ?_
      ·
        refine rf (fun ev wo E=>?_) ?_
        · have e2:ev (.tmp 2)=.pointer (some ⟨w.heap.size,0,none⟩):=(E.base 2 rfl).trans rfl;have hx0:=cb_ 0 (bk_ Q0.out E.bel) rfl;have hx1:=cb_ 1 (bk_ Q0.out E.bel) rfl;have hx2:=cb_ 2 (bk_ Q0.out E.bel) rfl;have hx3:=cb_ 3 (bk_ Q0.out E.bel) rfl;have hx4:=cb_ 4 (bk_ Q0.out E.bel) rfl;have hx5:=cb_ 5 (bk_ Q0.out E.bel) rfl;have hx6:=cb_ 6 (bk_ Q0.out E.bel) rfl;go_simp;exact rv
        refine rf (fun ev wo E=>?_) ?_
        · have e16:ev (.tmp 16)=.agg #[.int .i64 i0,.string s0,.int .i64 k0,.bool u0,.bool n0,.int .i64 m0,.string t0]:=E.e 0;have ef:=E.func;go_simp;refine qAb ((HA.out wo).mono ?_);rintro e w' ⟨rfl,hb⟩;exact⟨_,rfl,hb,rfl⟩
        refine rf (fun ev wo E=>?_) ?_
        · have e3:ev (.tmp 3)=.pointer (some ⟨w.heap.size+1,0,none⟩):=(E.base 3 rfl).trans rfl;have hx0:=cb_ 0 (bk_ Q1.out E.bel) rfl;have hx1:=cb_ 1 (bk_ Q1.out E.bel) rfl;have hx2:=cb_ 2 (bk_ Q1.out E.bel) rfl;have hx3:=cb_ 3 (bk_ Q1.out E.bel) rfl;have hx4:=cb_ 4 (bk_ Q1.out E.bel) rfl;have hx5:=cb_ 5 (bk_ Q1.out E.bel) rfl;have hx6:=cb_ 6 (bk_ Q1.out E.bel) rfl;go_simp;exact rv
        refine rf (fun ev wo E=>?_) ?_
        · have e18:ev (.tmp 18)=.agg #[.int .i64 i1,.string s1,.int .i64 k1,.bool u1,.bool n1,.int .i64 m1,.string t1]:=E.e 0;have ef:=E.func;go_simp;refine qAb ((HB.out wo).mono ?_);rintro e w' ⟨rfl,hb⟩;exact⟨_,rfl,hb,rfl⟩
        refine rf (fun ev wo E=>?_) ?_
        · have e17:ev (.tmp 17)=.agg #[.int .i64 ai,.string aS,.int .i64 ak,.bool au,.bool an,.int .i64 am,.string aT]:=E.e 0;have e19:ev (.tmp 19)=.agg #[.int .i64 bi,.string bS,.int .i64 bk,.bool bu,.bool bn,.int .i64 bm,.string bT]:=E.e 1;obtain⟨w1,w2,w3,w4,w5,w6,w7⟩:=HE.out;go_simp;exact rv
        refine rc 0 ?_;refine rbq 0 ?_;refine rq 1 (fun ev wo E=>?_) ?_
        · have e22:ev (.tmp 22)=.bool false:=E.e 0;go_simp;exact rv
        refine rf (fun ev wo E=>?_) ?_
        · have e21:ev (.tmp 21)=.bool true:=E.e 0;have e23:ev (.tmp 23)=.bool true:=E.e 1;have ec:=E.const;go_simp;exact rv
        refine⟨qA7 0 (qA5.free rfl) (.inr rfl) rfl rfl rfl rfl (qAr _),?_⟩;trivial
      · intro wz bz
        (iterate 10 rintro _ rfl);have BZ:=hh_ (BX.out.trans (bz.mono BX.out.size));clear bz;simp only[qAq];go_simp
        go_wp2_with fail
        go_ret;exact⟨rfl,BZ.out⟩
  · have h3':(k0==3)=false:=by simpa using h3
    have hr:(true&& !(decide (k0=3)&&decide (k1=2)))=true:=by simp[h3]
    show Calls _ _ _ _ fun e w'=>e=.returned (.bool (true&& !(decide (k0=3)&&decide (k1=2))))∧_
    rw[hr];clear hr h3;go_enter Tryz.func101,Tryz.ntmps101;go_wp2_with fail
    obtain⟨X,hX⟩:∃X,X=(w.alloc (.cells #[.int .i64 i0,.string s0,.int .i64 k0,.bool u0,.bool n0,.int .i64 m0,.string t0] 45)).alloc (.cells #[.int .i64 i1,.string s1,.int .i64 k1,.bool u1,.bool n1,.int .i64 m1,.string t1] 45):=⟨_,rfl⟩;have q0:X.heap[w.heap.size]?=some (.cells #[.int .i64 i0,.string s0,.int .i64 k0,.bool u0,.bool n0,.int .i64 m0,.string t0] 45 (0,0)):=by rw[hX];exact bx_ (qAd _ _) _
    have q1:X.heap[w.heap.size+1]?=some (.cells #[.int .i64 i1,.string s1,.int .i64 k1,.bool u1,.bool n1,.int .i64 m1,.string t1] 45 (0,0)):=by rw[hX];exact heap_alloc2_new w _ _
    have bX:Below w.heap.size w X:=by rw[hX];exact((Below.refl _ w).alloc le_ _).alloc (by rw[World.size_alloc];omega) _
    rw[←hX];have Q0:=hh_ q0;have Q1:=hh_ q1;have BX:=hh_ bX;clear hX q0 q1 bX;refine qAe [isV (.agg #[.int .i64 i0,.string s0,.int .i64 k0,.bool u0,.bool n0,.int .i64 m0,.string t0]),isV (.agg #[.int .i64 ai,.string aS,.int .i64 ak,.bool au,.bool an,.int .i64 am,.string aT]),isV (.agg #[.int .i64 i1,.string s1,.int .i64 k1,.bool u1,.bool n1,.int .i64 m1,.string t1]),isV (.agg #[.int .i64 bi,.string bS,.int .i64 bk,.bool bu,.bool bn,.int .i64 bm,.string bT]),iT,iT,iF,iT,iT,iT] (by kernel_rfl) (by kernel_rfl) ?_ ?_
    ·
      refine rf (fun ev wo E=>?_) ?_
      · have e2:ev (.tmp 2)=.pointer (some ⟨w.heap.size,0,none⟩):=(E.base 2 rfl).trans rfl;have hx0:=cb_ 0 (bk_ Q0.out E.bel) rfl;have hx1:=cb_ 1 (bk_ Q0.out E.bel) rfl;have hx2:=cb_ 2 (bk_ Q0.out E.bel) rfl;have hx3:=cb_ 3 (bk_ Q0.out E.bel) rfl;have hx4:=cb_ 4 (bk_ Q0.out E.bel) rfl;have hx5:=cb_ 5 (bk_ Q0.out E.bel) rfl;have hx6:=cb_ 6 (bk_ Q0.out E.bel) rfl;go_simp;exact rv
      refine rf (fun ev wo E=>?_) ?_
      · have e16:ev (.tmp 16)=.agg #[.int .i64 i0,.string s0,.int .i64 k0,.bool u0,.bool n0,.int .i64 m0,.string t0]:=E.e 0;have ef:=E.func;go_simp;refine qAb ((HA.out wo).mono ?_);rintro e w' ⟨rfl,hb⟩;exact⟨_,rfl,hb,rfl⟩
      refine rf (fun ev wo E=>?_) ?_
      · have e3:ev (.tmp 3)=.pointer (some ⟨w.heap.size+1,0,none⟩):=(E.base 3 rfl).trans rfl;have hx0:=cb_ 0 (bk_ Q1.out E.bel) rfl;have hx1:=cb_ 1 (bk_ Q1.out E.bel) rfl;have hx2:=cb_ 2 (bk_ Q1.out E.bel) rfl;have hx3:=cb_ 3 (bk_ Q1.out E.bel) rfl;have hx4:=cb_ 4 (bk_ Q1.out E.bel) rfl;have hx5:=cb_ 5 (bk_ Q1.out E.bel) rfl;have hx6:=cb_ 6 (bk_ Q1.out E.bel) rfl;go_simp;exact rv
      refine rf (fun ev wo E=>?_) ?_
      · have e18:ev (.tmp 18)=.agg #[.int .i64 i1,.string s1,.int .i64 k1,.bool u1,.bool n1,.int .i64 m1,.string t1]:=E.e 0;have ef:=E.func;go_simp;refine qAb ((HB.out wo).mono ?_);rintro e w' ⟨rfl,hb⟩;exact⟨_,rfl,hb,rfl⟩
      refine rf (fun ev wo E=>?_) ?_
      · have e17:ev (.tmp 17)=.agg #[.int .i64 ai,.string aS,.int .i64 ak,.bool au,.bool an,.int .i64 am,.string aT]:=E.e 0;have e19:ev (.tmp 19)=.agg #[.int .i64 bi,.string bS,.int .i64 bk,.bool bu,.bool bn,.int .i64 bm,.string bT]:=E.e 1;obtain⟨w1,w2,w3,w4,w5,w6,w7⟩:=HE.out;go_simp;exact rv
      refine rc 0 ?_;refine rbq 0 ?_;refine rq 1 (fun ev wo E=>?_) ?_
      · have e22:ev (.tmp 22)=.bool false:=E.e 0;go_simp;exact rv
      refine rf (fun ev wo E=>?_) ?_
      · have e21:ev (.tmp 21)=.bool true:=E.e 0;have e23:ev (.tmp 23)=.bool true:=E.e 1;have ec:=E.const;go_simp;exact rv
      refine⟨qA7 0 (qA5.free rfl) (.inr rfl) rfl rfl rfl rfl (qAr _),?_⟩;trivial
    · intro wz bz
      (iterate 10 rintro _ rfl);have BZ:=hh_ (BX.out.trans (bz.mono BX.out.size));clear bz;simp only[qAq];go_simp
      go_wp2_with fail
      go_ret;exact⟨rfl,BZ.out⟩
 |false=>
  have he2:¬(ai=bi∧aS.toList=bS.toList∧ak=bk∧au=bu∧an=bn∧am=bm∧aT.toList=bT.toList):=fun h=>of_decide_eq_false heb (he.2 h)
  have HE:=hh_ he2;clear he he2 heb;show Calls _ _ _ _ fun e w'=>e=.returned (.bool false)∧_
  by_cases h3:k0=3
  · by_cases h2:k1=2
    · have h3':(k0==3)=true:=by simpa using h3
      have h2':(k1==2)=true:=by simpa using h2
      clear h3 h2;go_enter Tryz.func101,Tryz.ntmps101;go_wp2_with fail
      obtain⟨X,hX⟩:∃X,X=(w.alloc (.cells #[.int .i64 i0,.string s0,.int .i64 k0,.bool u0,.bool n0,.int .i64 m0,.string t0] 45)).alloc (.cells #[.int .i64 i1,.string s1,.int .i64 k1,.bool u1,.bool n1,.int .i64 m1,.string t1] 45):=⟨_,rfl⟩;have q0:X.heap[w.heap.size]?=some (.cells #[.int .i64 i0,.string s0,.int .i64 k0,.bool u0,.bool n0,.int .i64 m0,.string t0] 45 (0,0)):=by rw[hX];exact bx_ (qAd _ _) _
      have q1:X.heap[w.heap.size+1]?=some (.cells #[.int .i64 i1,.string s1,.int .i64 k1,.bool u1,.bool n1,.int .i64 m1,.string t1] 45 (0,0)):=by rw[hX];exact heap_alloc2_new w _ _
      have bX:Below w.heap.size w X:=by rw[hX];exact((Below.refl _ w).alloc le_ _).alloc (by rw[World.size_alloc];omega) _
      rw[←hX];have Q0:=hh_ q0;have Q1:=hh_ q1;have BX:=hh_ bX;clear hX q0 q1 bX;refine qAe [isV (.agg #[.int .i64 i0,.string s0,.int .i64 k0,.bool u0,.bool n0,.int .i64 m0,.string t0]),isV (.agg #[.int .i64 ai,.string aS,.int .i64 ak,.bool au,.bool an,.int .i64 am,.string aT]),isV (.agg #[.int .i64 i1,.string s1,.int .i64 k1,.bool u1,.bool n1,.int .i64 m1,.string t1]),isV (.agg #[.int .i64 bi,.string bS,.int .i64 bk,.bool bu,.bool bn,.int .i64 bm,.string bT]),iF,iF,iU,iU,iF,iF] (by kernel_rfl) (by kernel_rfl) ?_ ?_
      ·
        refine rf (fun ev wo E=>?_) ?_
        · have e2:ev (.tmp 2)=.pointer (some ⟨w.heap.size,0,none⟩):=(E.base 2 rfl).trans rfl;have hx0:=cb_ 0 (bk_ Q0.out E.bel) rfl;have hx1:=cb_ 1 (bk_ Q0.out E.bel) rfl;have hx2:=cb_ 2 (bk_ Q0.out E.bel) rfl;have hx3:=cb_ 3 (bk_ Q0.out E.bel) rfl;have hx4:=cb_ 4 (bk_ Q0.out E.bel) rfl;have hx5:=cb_ 5 (bk_ Q0.out E.bel) rfl;have hx6:=cb_ 6 (bk_ Q0.out E.bel) rfl;go_simp;exact rv
        refine rf (fun ev wo E=>?_) ?_
        · have e16:ev (.tmp 16)=.agg #[.int .i64 i0,.string s0,.int .i64 k0,.bool u0,.bool n0,.int .i64 m0,.string t0]:=E.e 0;have ef:=E.func;go_simp;refine qAb ((HA.out wo).mono ?_);rintro e w' ⟨rfl,hb⟩;exact⟨_,rfl,hb,rfl⟩
        refine rf (fun ev wo E=>?_) ?_
        · have e3:ev (.tmp 3)=.pointer (some ⟨w.heap.size+1,0,none⟩):=(E.base 3 rfl).trans rfl;have hx0:=cb_ 0 (bk_ Q1.out E.bel) rfl;have hx1:=cb_ 1 (bk_ Q1.out E.bel) rfl;have hx2:=cb_ 2 (bk_ Q1.out E.bel) rfl;have hx3:=cb_ 3 (bk_ Q1.out E.bel) rfl;have hx4:=cb_ 4 (bk_ Q1.out E.bel) rfl;have hx5:=cb_ 5 (bk_ Q1.out E.bel) rfl;have hx6:=cb_ 6 (bk_ Q1.out E.bel) rfl;go_simp;exact rv
        refine rf (fun ev wo E=>?_) ?_
        · have e18:ev (.tmp 18)=.agg #[.int .i64 i1,.string s1,.int .i64 k1,.bool u1,.bool n1,.int .i64 m1,.string t1]:=E.e 0;have ef:=E.func;go_simp;refine qAb ((HB.out wo).mono ?_);rintro e w' ⟨rfl,hb⟩;exact⟨_,rfl,hb,rfl⟩
        refine rf (fun ev wo E=>?_) ?_
        · have e17:ev (.tmp 17)=.agg #[.int .i64 ai,.string aS,.int .i64 ak,.bool au,.bool an,.int .i64 am,.string aT]:=E.e 0;have e19:ev (.tmp 19)=.agg #[.int .i64 bi,.string bS,.int .i64 bk,.bool bu,.bool bn,.int .i64 bm,.string bT]:=E.e 1;go_simp;repeat' split
          all_goals first
            |exact rv
            |exact absurd (by refine⟨?_,?_,?_,?_,?_,?_,?_⟩ <;> assumption) HE.out
        refine rc 0 ?_;refine ro 0 ?_;refine ro 1 ?_;refine rf (fun ev wo E=>?_) ?_
        · have e21:ev (.tmp 21)=.bool false:=E.e 0;have e23:ev (.tmp 23)=undef:=E.e 1;have ec:=E.const;go_simp;exact rv
        refine⟨qA7 0 (qA5.free rfl) (.inr rfl) rfl rfl rfl rfl (qAr _),?_⟩;trivial
      · intro wz bz
        (iterate 10 rintro _ rfl);have BZ:=hh_ (BX.out.trans (bz.mono BX.out.size));clear bz;simp only[qAq];go_simp
        go_wp2_with fail
        go_ret;exact⟨rfl,BZ.out⟩
    · have h3':(k0==3)=true:=by simpa using h3
      have h2':(k1==2)=false:=by simpa using h2
      clear h3 h2;go_enter Tryz.func101,Tryz.ntmps101;go_wp2_with fail
      obtain⟨X,hX⟩:∃X,X=(w.alloc (.cells #[.int .i64 i0,.string s0,.int .i64 k0,.bool u0,.bool n0,.int .i64 m0,.string t0] 45)).alloc (.cells #[.int .i64 i1,.string s1,.int .i64 k1,.bool u1,.bool n1,.int .i64 m1,.string t1] 45):=⟨_,rfl⟩;have q0:X.heap[w.heap.size]?=some (.cells #[.int .i64 i0,.string s0,.int .i64 k0,.bool u0,.bool n0,.int .i64 m0,.string t0] 45 (0,0)):=by rw[hX];exact bx_ (qAd _ _) _
      have q1:X.heap[w.heap.size+1]?=some (.cells #[.int .i64 i1,.string s1,.int .i64 k1,.bool u1,.bool n1,.int .i64 m1,.string t1] 45 (0,0)):=by rw[hX];exact heap_alloc2_new w _ _
      have bX:Below w.heap.size w X:=by rw[hX];exact((Below.refl _ w).alloc le_ _).alloc (by rw[World.size_alloc];omega) _
      rw[←hX];have Q0:=hh_ q0;have Q1:=hh_ q1;have BX:=hh_ bX;clear hX q0 q1 bX;refine qAe [isV (.agg #[.int .i64 i0,.string s0,.int .i64 k0,.bool u0,.bool n0,.int .i64 m0,.string t0]),isV (.agg #[.int .i64 ai,.string aS,.int .i64 ak,.bool au,.bool an,.int .i64 am,.string aT]),isV (.agg #[.int .i64 i1,.string s1,.int .i64 k1,.bool u1,.bool n1,.int .i64 m1,.string t1]),isV (.agg #[.int .i64 bi,.string bS,.int .i64 bk,.bool bu,.bool bn,.int .i64 bm,.string bT]),iF,iF,iU,iU,iF,iF] (by kernel_rfl) (by kernel_rfl) ?_ ?_
      ·
        refine rf (fun ev wo E=>?_) ?_
        · have e2:ev (.tmp 2)=.pointer (some ⟨w.heap.size,0,none⟩):=(E.base 2 rfl).trans rfl;have hx0:=cb_ 0 (bk_ Q0.out E.bel) rfl;have hx1:=cb_ 1 (bk_ Q0.out E.bel) rfl;have hx2:=cb_ 2 (bk_ Q0.out E.bel) rfl;have hx3:=cb_ 3 (bk_ Q0.out E.bel) rfl;have hx4:=cb_ 4 (bk_ Q0.out E.bel) rfl;have hx5:=cb_ 5 (bk_ Q0.out E.bel) rfl;have hx6:=cb_ 6 (bk_ Q0.out E.bel) rfl;go_simp;exact rv
        refine rf (fun ev wo E=>?_) ?_
        · have e16:ev (.tmp 16)=.agg #[.int .i64 i0,.string s0,.int .i64 k0,.bool u0,.bool n0,.int .i64 m0,.string t0]:=E.e 0;have ef:=E.func;go_simp;refine qAb ((HA.out wo).mono ?_);rintro e w' ⟨rfl,hb⟩;exact⟨_,rfl,hb,rfl⟩
        refine rf (fun ev wo E=>?_) ?_
        · have e3:ev (.tmp 3)=.pointer (some ⟨w.heap.size+1,0,none⟩):=(E.base 3 rfl).trans rfl;have hx0:=cb_ 0 (bk_ Q1.out E.bel) rfl;have hx1:=cb_ 1 (bk_ Q1.out E.bel) rfl;have hx2:=cb_ 2 (bk_ Q1.out E.bel) rfl;have hx3:=cb_ 3 (bk_ Q1.out E.bel) rfl;have hx4:=cb_ 4 (bk_ Q1.out E.bel) rfl;have hx5:=cb_ 5 (bk_ Q1.out E.bel) rfl;have hx6:=cb_ 6 (bk_ Q1.out E.bel) rfl;go_simp;exact rv
        refine rf (fun ev wo E=>?_) ?_
        · have e18:ev (.tmp 18)=.agg #[.int .i64 i1,.string s1,.int .i64 k1,.bool u1,.bool n1,.int .i64 m1,.string t1]:=E.e 0;have ef:=E.func;go_simp;refine qAb ((HB.out wo).mono ?_);rintro e w' ⟨rfl,hb⟩;exact⟨_,rfl,hb,rfl⟩
        refine rf (fun ev wo E=>?_) ?_
        · have e17:ev (.tmp 17)=.agg #[.int .i64 ai,.string aS,.int .i64 ak,.bool au,.bool an,.int .i64 am,.string aT]:=E.e 0;have e19:ev (.tmp 19)=.agg #[.int .i64 bi,.string bS,.int .i64 bk,.bool bu,.bool bn,.int .i64 bm,.string bT]:=E.e 1;go_simp;repeat' split
          all_goals first
            |exact rv
            |exact absurd (by refine⟨?_,?_,?_,?_,?_,?_,?_⟩ <;> assumption) HE.out
        refine rc 0 ?_;refine ro 0 ?_;refine ro 1 ?_;refine rf (fun ev wo E=>?_) ?_
        · have e21:ev (.tmp 21)=.bool false:=E.e 0;have e23:ev (.tmp 23)=undef:=E.e 1;have ec:=E.const;go_simp;exact rv
        refine⟨qA7 0 (qA5.free rfl) (.inr rfl) rfl rfl rfl rfl (qAr _),?_⟩;trivial
      · intro wz bz
        (iterate 10 rintro _ rfl);have BZ:=hh_ (BX.out.trans (bz.mono BX.out.size));clear bz;simp only[qAq];go_simp
        go_wp2_with fail
        go_ret;exact⟨rfl,BZ.out⟩
  · have h3':(k0==3)=false:=by simpa using h3
    clear h3;go_enter Tryz.func101,Tryz.ntmps101;go_wp2_with fail
    obtain⟨X,hX⟩:∃X,X=(w.alloc (.cells #[.int .i64 i0,.string s0,.int .i64 k0,.bool u0,.bool n0,.int .i64 m0,.string t0] 45)).alloc (.cells #[.int .i64 i1,.string s1,.int .i64 k1,.bool u1,.bool n1,.int .i64 m1,.string t1] 45):=⟨_,rfl⟩;have q0:X.heap[w.heap.size]?=some (.cells #[.int .i64 i0,.string s0,.int .i64 k0,.bool u0,.bool n0,.int .i64 m0,.string t0] 45 (0,0)):=by rw[hX];exact bx_ (qAd _ _) _
    have q1:X.heap[w.heap.size+1]?=some (.cells #[.int .i64 i1,.string s1,.int .i64 k1,.bool u1,.bool n1,.int .i64 m1,.string t1] 45 (0,0)):=by rw[hX];exact heap_alloc2_new w _ _
    have bX:Below w.heap.size w X:=by rw[hX];exact((Below.refl _ w).alloc le_ _).alloc (by rw[World.size_alloc];omega) _
    rw[←hX];have Q0:=hh_ q0;have Q1:=hh_ q1;have BX:=hh_ bX;clear hX q0 q1 bX;refine qAe [isV (.agg #[.int .i64 i0,.string s0,.int .i64 k0,.bool u0,.bool n0,.int .i64 m0,.string t0]),isV (.agg #[.int .i64 ai,.string aS,.int .i64 ak,.bool au,.bool an,.int .i64 am,.string aT]),isV (.agg #[.int .i64 i1,.string s1,.int .i64 k1,.bool u1,.bool n1,.int .i64 m1,.string t1]),isV (.agg #[.int .i64 bi,.string bS,.int .i64 bk,.bool bu,.bool bn,.int .i64 bm,.string bT]),iF,iF,iU,iU,iF,iF] (by kernel_rfl) (by kernel_rfl) ?_ ?_
    ·
      refine rf (fun ev wo E=>?_) ?_
      · have e2:ev (.tmp 2)=.pointer (some ⟨w.heap.size,0,none⟩):=(E.base 2 rfl).trans rfl;have hx0:=cb_ 0 (bk_ Q0.out E.bel) rfl;have hx1:=cb_ 1 (bk_ Q0.out E.bel) rfl;have hx2:=cb_ 2 (bk_ Q0.out E.bel) rfl;have hx3:=cb_ 3 (bk_ Q0.out E.bel) rfl;have hx4:=cb_ 4 (bk_ Q0.out E.bel) rfl;have hx5:=cb_ 5 (bk_ Q0.out E.bel) rfl;have hx6:=cb_ 6 (bk_ Q0.out E.bel) rfl;go_simp;exact rv
      refine rf (fun ev wo E=>?_) ?_
      · have e16:ev (.tmp 16)=.agg #[.int .i64 i0,.string s0,.int .i64 k0,.bool u0,.bool n0,.int .i64 m0,.string t0]:=E.e 0;have ef:=E.func;go_simp;refine qAb ((HA.out wo).mono ?_);rintro e w' ⟨rfl,hb⟩;exact⟨_,rfl,hb,rfl⟩
      refine rf (fun ev wo E=>?_) ?_
      · have e3:ev (.tmp 3)=.pointer (some ⟨w.heap.size+1,0,none⟩):=(E.base 3 rfl).trans rfl;have hx0:=cb_ 0 (bk_ Q1.out E.bel) rfl;have hx1:=cb_ 1 (bk_ Q1.out E.bel) rfl;have hx2:=cb_ 2 (bk_ Q1.out E.bel) rfl;have hx3:=cb_ 3 (bk_ Q1.out E.bel) rfl;have hx4:=cb_ 4 (bk_ Q1.out E.bel) rfl;have hx5:=cb_ 5 (bk_ Q1.out E.bel) rfl;have hx6:=cb_ 6 (bk_ Q1.out E.bel) rfl;go_simp;exact rv
      refine rf (fun ev wo E=>?_) ?_
      · have e18:ev (.tmp 18)=.agg #[.int .i64 i1,.string s1,.int .i64 k1,.bool u1,.bool n1,.int .i64 m1,.string t1]:=E.e 0;have ef:=E.func;go_simp;refine qAb ((HB.out wo).mono ?_);rintro e w' ⟨rfl,hb⟩;exact⟨_,rfl,hb,rfl⟩
      refine rf (fun ev wo E=>?_) ?_
      · have e17:ev (.tmp 17)=.agg #[.int .i64 ai,.string aS,.int .i64 ak,.bool au,.bool an,.int .i64 am,.string aT]:=E.e 0;have e19:ev (.tmp 19)=.agg #[.int .i64 bi,.string bS,.int .i64 bk,.bool bu,.bool bn,.int .i64 bm,.string bT]:=E.e 1;go_simp;repeat' split
        all_goals first
          |exact rv
          |exact absurd (by refine⟨?_,?_,?_,?_,?_,?_,?_⟩ <;> assumption) HE.out
      refine rc 0 ?_;refine ro 0 ?_;refine ro 1 ?_;refine rf (fun ev wo E=>?_) ?_
      · have e21:ev (.tmp 21)=.bool false:=E.e 0;have e23:ev (.tmp 23)=undef:=E.e 1;have ec:=E.const;go_simp;exact rv
      refine⟨qA7 0 (qA5.free rfl) (.inr rfl) rfl rfl rfl rfl (qAr _),?_⟩;trivial
    · intro wz bz
      (iterate 10 rintro _ rfl);have BZ:=hh_ (BX.out.trans (bz.mono BX.out.size));clear bz;simp only[qAq];go_simp
      go_wp2_with fail
      go_ret;exact⟨rfl,BZ.out⟩
end Go.Proofs.YtainiaighnjpfaaGreatDoor
