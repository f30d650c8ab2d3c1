/- Evolve: may a schema follow another one by one step: the package's answer. -/
import Derived.Test.YtikpmmipopmjaaaGreatDoorZQab
import Derived.Test.YtikpmmipopmjaaaGreatDoorZQt
set_option linter.unusedVariables false
set_option linter.unusedSimpArgs false
namespace Go.Ms
open Go.RowKit Go.Lib
structure qIl (tS:TypeId) (va vb:Array Value) (w W:World):Prop where
  b0:W.heap[w.heap.size]?=some (.cells va tS (0,0))
  b1:W.heap[w.heap.size+1]?=some (.cells vb tS (0,0))
  bel:Below w.heap.size w W
theorem qIl.start (tS:TypeId) (va vb:Array Value) (w:World):qIl tS va vb w ((w.alloc (.cells va tS)).alloc (.cells vb tS)):=by
 refine⟨qAe (qAf _ _) _,?_,((Below.refl _ w).alloc (Nat.le_refl _) _).alloc (by rw[World.size_alloc];omega) _⟩;have:=qAf (w.alloc (.cells va tS)) (.cells vb tS);rw[World.size_alloc] at this;exact this
theorem qIl.step {tS:TypeId} {va vb:Array Value} {w W W':World} (h:qIl tS va vb w W) (hb:Below W.heap.size W W'):qIl tS va vb w W':=
  ⟨qAb h.b0 hb,qAb h.b1 hb,h.bel.trans (hb.mono h.bel.size)⟩
theorem keys_in {cs:List Co} {ks:List Int} (h:scOk cs ks=true):qJu cs ks:=fun k hk=>by
 obtain⟨i,hi⟩:=List.getElem?_of_mem hk;have:=((qB6 cs ks).1 h).kin i k hi;omega
theorem qBz {cs:List Co} {ks:List Int} {b:Bool} (h:scOk cs ks=b):qAz cs ks=if b=true then 0 else 2:=by unfold qAz;rw[h]
def ScSz (cs:List Co):Prop:= ∀c∈cs,c.2.1.size≤100000∧c.2.2.2.2.2.size≤100000
end Go.Ms
namespace Go.Proofs.YtikpmmipopmjaaaGreatDoor
open Go.RowKit Go.Ms Go.Lib Go.Shelf Go.Rel
set_option maxRecDepth 100000 in
set_option maxHeartbeats 4000000 in
theorem qFs (A B:Option Addr) (n cap m capm:Nat) (cs:List Co) (ks:List Int) (A' B':Option Addr) (n' cap' m' capm':Nat) (ds:List Co) (ls:List Int) (w:World)
    (hn:n=cs.length) (hm:m=ks.length) (hn2:n≤100000) (hm2:m≤100000) (hA:Lay w w.heap.size A (colV cs)) (hB:Lay w w.heap.size B (intV ks)) (hz:ScSz cs)
    (kn:n'=ds.length) (km:m'=ls.length) (kn2:n'≤100000) (km2:m'≤100000) (kA:Lay w w.heap.size A' (colV ds)) (kB:Lay w w.heap.size B' (intV ls)) (kz:ScSz ds) (hE:Env w) :
    Calls Tryz.prog 17 #[.agg #[.slice A n cap,.slice B m capm],.agg #[.slice A' n' cap',.slice B' m' capm']] w fun e w'=>e=.returned (.int .i64 (qBh (cs,ks) (ds,ls)))∧Below w.heap.size w w':=by
 obtain⟨X,hX⟩:∃X,X=(w.alloc (.cells #[.slice A n cap,.slice B m capm] 25)).alloc (.cells #[.slice A' n' cap',.slice B' m' capm'] 25):=⟨_,rfl⟩
 have tX:qIl 25 #[.slice A n cap,.slice B m capm] #[.slice A' n' cap',.slice B' m' capm'] w X:=by rw[hX];exact qIl.start _ _ _ w
 have h1:=qEq X A B n cap m capm cs ks hz hn2 hm2 hn hm ((hA.below tX.bel).more tX.bel.size) ((hB.below tX.bel).more tX.bel.size) (hE.below tX.bel)
 have h2:=fun (W:World) (hb:Below w.heap.size w W)=>qEq W A' B' n' cap' m' capm' ds ls kz kn2 km2 kn km ((kA.below hb).more hb.size) ((kB.below hb).more hb.size) (hE.below hb)
 have H1:=Lib.hid h1;have H2:=Lib.hid h2;have T0:=Lib.hid tX
 have HN:=Lib.hid hn;have HM:=Lib.hid hm;have HA:=Lib.hid hA;have HB:=Lib.hid hB;have KN:=Lib.hid kn;have KM:=Lib.hid km;have KA:=Lib.hid kA;have KB:=Lib.hid kB
 clear h1 h2 tX hn hm hA hB kn km kA kB hE hz kz
 have hans:qBh (cs,ks) (ds,ls)=if scOk cs ks=true∧scOk ds ls=true then (if qAl (cs,ks) (ds,ls) (qA7 cs)=true then 0 else 120) else 2:=rfl
 have y0:=cell_of_block (i:=0) T0.out.b0 rfl;have y1:=cell_of_block (i:=1) T0.out.b0 rfl
 cases ha:scOk cs ks with
 |false=>
  rw[if_neg (by rw[ha];simp)] at hans;rw[qBz ha] at H1;simp only[Bool.false_eq_true,if_false] at H1;have HANS:=Lib.hid hans;clear hans
  go_enter Tryz.func17,Tryz.ntmps17
  go_wp2_with fail
  rw[←hX];clear hX;refine H1.out.mono ?_;rintro en w1 ⟨rfl,b1⟩;have B1:=Lib.hid (T0.out.step b1).bel;clear b1
  go_wp2_with fail
  go_ret
  exact⟨congrArg (fun i=>Ending.returned (.int .i64 i)) HANS.out.symm,B1.out⟩
 | true =>
  have K1:=Lib.hid (keys_in ha);rw[ha] at hans;rw[qBz ha] at H1;simp only[if_true] at H1;clear ha
  cases hb:scOk ds ls with
  |false=>
   rw[if_neg (by rw[hb];simp)] at hans;rw[qBz hb] at H2;simp only[Bool.false_eq_true,if_false] at H2;have HANS:=Lib.hid hans;clear hans hb
   go_enter Tryz.func17,Tryz.ntmps17
   go_wp2_with fail
   rw[←hX];clear hX;refine H1.out.mono ?_;rintro en w1 ⟨rfl,b1⟩;have T1:=Lib.hid (T0.out.step b1);clear b1;have z0:=cell_of_block (i:=0) T1.out.b1 rfl;have z1:=cell_of_block (i:=1) T1.out.b1 rfl
   go_wp2_with fail
   refine(H2.out _ T1.out.bel).mono ?_;rintro en w2 ⟨rfl,b2⟩;have B2:=Lib.hid (T1.out.step b2).bel;clear b2
   go_wp2_with fail
   go_ret
   exact⟨congrArg (fun i=>Ending.returned (.int .i64 i)) HANS.out.symm,B2.out⟩
  | true=>
   have K2:=Lib.hid (keys_in hb);rw[hb] at hans;rw[qBz hb] at H2;simp only[if_true] at H2;rw[if_pos ⟨rfl,rfl⟩] at hans;clear hb
   cases hf:qAl (cs,ks) (ds,ls) (qA7 cs) with
   |true=>
    have HF:=Lib.hid hf;rw[hf] at hans;simp only[if_true] at hans;have HANS:=Lib.hid hans;clear hans hf
    go_enter Tryz.func17,Tryz.ntmps17
    go_wp2_with fail
    rw[←hX];clear hX;refine H1.out.mono ?_;rintro en w1 ⟨rfl,b1⟩;have T1:=Lib.hid (T0.out.step b1);clear b1;have z0:=cell_of_block (i:=0) T1.out.b1 rfl;have z1:=cell_of_block (i:=1) T1.out.b1 rfl
    go_wp2_with fail
    refine(H2.out _ T1.out.bel).mono ?_;rintro en w2 ⟨rfl,b2⟩;have T2:=Lib.hid (T1.out.step b2);clear b2 y0 y1 z0 z1
    go_wp2_with fail
    refine qAh [isV (.agg #[.slice A n cap,.slice B m capm]),isV (.agg #[.slice A' n' cap',.slice B' m' capm']),isV (.agg #[.slice A n cap,.slice B m capm]),isV (.int .i64 (qA7 cs)),isV (.bool true),isV (.bool false),isV (.bool false)] (by kernel_rfl) (by kernel_rfl) ?_ ?_
    ·
      refine rf (fun ev wo E=>?_) ?_
      · have e2:ev (.tmp 2)=.pointer (some ⟨w.heap.size,0,none⟩):=(E.base 2 rfl).trans rfl;have hx0:=cell_of_block (i:=0) (qAb T2.out.b0 E.bel) rfl;have hx1:=cell_of_block (i:=1) (qAb T2.out.b0 E.bel) rfl;go_simp;exact rv
      refine rf (fun ev wo E=>?_) ?_
      · have e3:ev (.tmp 3)=.pointer (some ⟨w.heap.size+1,0,none⟩):=(E.base 3 rfl).trans rfl;have hx0:=cell_of_block (i:=0) (qAb T2.out.b1 E.bel) rfl;have hx1:=cell_of_block (i:=1) (qAb T2.out.b1 E.bel) rfl;go_simp;exact rv
      refine rf (fun ev wo E=>?_) ?_
      · have e2:ev (.tmp 2)=.pointer (some ⟨w.heap.size,0,none⟩):=(E.base 2 rfl).trans rfl;have hx0:=cell_of_block (i:=0) (qAb T2.out.b0 E.bel) rfl;have hx1:=cell_of_block (i:=1) (qAb T2.out.b0 E.bel) rfl;go_simp;exact rv
      refine rf (fun ev wo E=>?_) ?_
      · have e17:ev (.tmp 17)=.agg #[.slice A n cap,.slice B m capm]:=E.e 0;have ef:=E.func;go_simp;refine qAd ((qF9 A B n cap m capm cs ks wo HN.out hn2 (HA.out.below (T2.out.bel.trans (E.bel.mono T2.out.bel.size)) |>.more (Nat.le_trans T2.out.bel.size E.bel.size)) (HB.out.below (T2.out.bel.trans (E.bel.mono T2.out.bel.size)) |>.more (Nat.le_trans T2.out.bel.size E.bel.size))).mono ?_);rintro e w' ⟨rfl,hb⟩;exact⟨_,rfl,hb,rfl⟩
      refine rf (fun ev wo E=>?_) ?_
      · have e15:ev (.tmp 15)=.agg #[.slice A n cap,.slice B m capm]:=E.e 0;have e16:ev (.tmp 16)=.agg #[.slice A' n' cap',.slice B' m' capm']:=E.e 1;have e18:ev (.tmp 18)=.int .i64 (qA7 cs):=E.e 2;have ef:=E.func;go_simp;refine qAd ((qFl A B n cap m capm cs ks A' B' n' cap' m' capm' ds ls (qA7 cs) wo HN.out HM.out hn2 hm2 (HA.out.below (T2.out.bel.trans (E.bel.mono T2.out.bel.size)) |>.more (Nat.le_trans T2.out.bel.size E.bel.size)) (HB.out.below (T2.out.bel.trans (E.bel.mono T2.out.bel.size)) |>.more (Nat.le_trans T2.out.bel.size E.bel.size)) K1.out KN.out KM.out kn2 km2 (KA.out.below (T2.out.bel.trans (E.bel.mono T2.out.bel.size)) |>.more (Nat.le_trans T2.out.bel.size E.bel.size)) (KB.out.below (T2.out.bel.trans (E.bel.mono T2.out.bel.size)) |>.more (Nat.le_trans T2.out.bel.size E.bel.size)) K2.out).mono ?_)
        rw[HF.out];rintro e w' ⟨rfl,hb⟩;exact⟨_,rfl,hb,rfl⟩
      refine rf (fun ev wo E=>?_) ?_
      · have e19:ev (.tmp 19)=.bool true:=E.e 0;go_simp;exact rv
      refine⟨qBc 0 (qAw.free rfl) (.inr rfl) rfl rfl rfl rfl (qAr _),?_⟩;trivial
    · intro wz bz
      (iterate 7 rintro _ rfl);have B3:=Lib.hid (T2.out.bel.trans (bz.mono T2.out.bel.size));clear bz;simp only[qAq];go_simp
      go_wp2_with fail
      go_ret
      exact⟨congrArg (fun i=>Ending.returned (.int .i64 i)) HANS.out.symm,B3.out⟩
   |false=>
    have HF:=Lib.hid hf;rw[hf] at hans;simp only[Bool.false_eq_true,if_false] at hans;have HANS:=Lib.hid hans;clear hans hf
    go_enter Tryz.func17,Tryz.ntmps17
    go_wp2_with fail
    rw[←hX];clear hX;refine H1.out.mono ?_;rintro en w1 ⟨rfl,b1⟩;have T1:=Lib.hid (T0.out.step b1);clear b1;have z0:=cell_of_block (i:=0) T1.out.b1 rfl;have z1:=cell_of_block (i:=1) T1.out.b1 rfl
    go_wp2_with fail
    refine(H2.out _ T1.out.bel).mono ?_;rintro en w2 ⟨rfl,b2⟩;have T2:=Lib.hid (T1.out.step b2);clear b2 y0 y1 z0 z1
    go_wp2_with fail
    refine qAh [isV (.agg #[.slice A n cap,.slice B m capm]),isV (.agg #[.slice A' n' cap',.slice B' m' capm']),isV (.agg #[.slice A n cap,.slice B m capm]),isV (.int .i64 (qA7 cs)),isV (.bool false),isV (.bool true),isV (.bool true)] (by kernel_rfl) (by kernel_rfl) ?_ ?_
    ·
      refine rf (fun ev wo E=>?_) ?_
      · have e2:ev (.tmp 2)=.pointer (some ⟨w.heap.size,0,none⟩):=(E.base 2 rfl).trans rfl;have hx0:=cell_of_block (i:=0) (qAb T2.out.b0 E.bel) rfl;have hx1:=cell_of_block (i:=1) (qAb T2.out.b0 E.bel) rfl;go_simp;exact rv
      refine rf (fun ev wo E=>?_) ?_
      · have e3:ev (.tmp 3)=.pointer (some ⟨w.heap.size+1,0,none⟩):=(E.base 3 rfl).trans rfl;have hx0:=cell_of_block (i:=0) (qAb T2.out.b1 E.bel) rfl;have hx1:=cell_of_block (i:=1) (qAb T2.out.b1 E.bel) rfl;go_simp;exact rv
      refine rf (fun ev wo E=>?_) ?_
      · have e2:ev (.tmp 2)=.pointer (some ⟨w.heap.size,0,none⟩):=(E.base 2 rfl).trans rfl;have hx0:=cell_of_block (i:=0) (qAb T2.out.b0 E.bel) rfl;have hx1:=cell_of_block (i:=1) (qAb T2.out.b0 E.bel) rfl;go_simp;exact rv
      refine rf (fun ev wo E=>?_) ?_
      · have e17:ev (.tmp 17)=.agg #[.slice A n cap,.slice B m capm]:=E.e 0;have ef:=E.func;go_simp;refine qAd ((qF9 A B n cap m capm cs ks wo HN.out hn2 (HA.out.below (T2.out.bel.trans (E.bel.mono T2.out.bel.size)) |>.more (Nat.le_trans T2.out.bel.size E.bel.size)) (HB.out.below (T2.out.bel.trans (E.bel.mono T2.out.bel.size)) |>.more (Nat.le_trans T2.out.bel.size E.bel.size))).mono ?_);rintro e w' ⟨rfl,hb⟩;exact⟨_,rfl,hb,rfl⟩
      refine rf (fun ev wo E=>?_) ?_
      · have e15:ev (.tmp 15)=.agg #[.slice A n cap,.slice B m capm]:=E.e 0;have e16:ev (.tmp 16)=.agg #[.slice A' n' cap',.slice B' m' capm']:=E.e 1;have e18:ev (.tmp 18)=.int .i64 (qA7 cs):=E.e 2;have ef:=E.func;go_simp;refine qAd ((qFl A B n cap m capm cs ks A' B' n' cap' m' capm' ds ls (qA7 cs) wo HN.out HM.out hn2 hm2 (HA.out.below (T2.out.bel.trans (E.bel.mono T2.out.bel.size)) |>.more (Nat.le_trans T2.out.bel.size E.bel.size)) (HB.out.below (T2.out.bel.trans (E.bel.mono T2.out.bel.size)) |>.more (Nat.le_trans T2.out.bel.size E.bel.size)) K1.out KN.out KM.out kn2 km2 (KA.out.below (T2.out.bel.trans (E.bel.mono T2.out.bel.size)) |>.more (Nat.le_trans T2.out.bel.size E.bel.size)) (KB.out.below (T2.out.bel.trans (E.bel.mono T2.out.bel.size)) |>.more (Nat.le_trans T2.out.bel.size E.bel.size)) K2.out).mono ?_)
        rw[HF.out];rintro e w' ⟨rfl,hb⟩;exact⟨_,rfl,hb,rfl⟩
      refine rf (fun ev wo E=>?_) ?_
      · have e19:ev (.tmp 19)=.bool false:=E.e 0;go_simp;exact rv
      refine⟨qBc 0 (qAw.free rfl) (.inr rfl) rfl rfl rfl rfl (qAr _),?_⟩;trivial
    · intro wz bz
      (iterate 7 rintro _ rfl);have B3:=Lib.hid (T2.out.bel.trans (bz.mono T2.out.bel.size));clear bz;simp only[qAq];go_simp
      go_wp2_with fail
      go_ret
      exact⟨congrArg (fun i=>Ending.returned (.int .i64 i)) HANS.out.symm,B3.out⟩
end Go.Proofs.YtikpmmipopmjaaaGreatDoor
