/- The reference of evolve: may a schema follow another one by one step? The reference of evolve: may schemas follow each other? -/
import Derived.Test.YtikpmmipopmjaaaGreatDoorZQal
import Derived.Test.YtikpmmipopmjaaaGreatDoorZQac
import Derived.Test.YtikpmmipopmjaaaGreatDoorZQam
import Derived.Test.YtikpmmipopmjaaaGreatDoorZQaf
set_option linter.unusedVariables false
set_option linter.unusedSimpArgs false
namespace Go.Ms
open Go.RowKit Go.Lib
def ScR (cs:List Co):Prop:= ∀c∈cs,c.2.1.size≤100000∧c.2.2.2.2.2.size≤100000∧ -9223372036854775808≤c.2.2.2.2.1∧c.2.2.2.2.1≤9223372036854775807
theorem ScR.sz {cs:List Co} (h:ScR cs):ScSz cs:=fun c hc=>⟨(h c hc).1,(h c hc).2.1⟩
theorem qUw {cs:List Co} {ks:List Int} (h:scOk cs ks=true):0<cs.length:=by have:=((qB6 cs ks).1 h).one;omega
end Go.Ms
namespace Go.Proofs.YtikpmmipopmjaaaGreatDoor
open Go.RowKit Go.Ms Go.Lib Go.Shelf Go.Rel
set_option maxRecDepth 100000 in
set_option maxHeartbeats 4000000 in
theorem qO3 (A B:Option Addr) (n cap m capm:Nat) (cs:List Co) (ks:List Int) (A' B':Option Addr) (n' cap' m' capm':Nat) (ds:List Co) (ls:List Int) (w:World)
    (hn:n=cs.length) (hm:m=ks.length) (hn2:n≤100000) (hm2:m≤100000) (hA:Lay w w.heap.size A (colV cs)) (hB:Lay w w.heap.size B (intV ks)) (hz:ScR cs)
    (kn:n'=ds.length) (km:m'=ls.length) (kn2:n'≤100000) (km2:m'≤100000) (kA:Lay w w.heap.size A' (colV ds)) (kB:Lay w w.heap.size B' (intV ls)) (kz:ScR ds) :
    Calls Tryz.prog 18 #[.agg #[.slice A n cap,.slice B m capm],.agg #[.slice A' n' cap',.slice B' m' capm']] w fun e w'=>e=.returned (.int .i64 (qBh (cs,ks) (ds,ls)))∧Below w.heap.size w w':=by
 obtain⟨X,hX⟩:∃X,X=(w.alloc (.cells #[.slice A n cap,.slice B m capm] 25)).alloc (.cells #[.slice A' n' cap',.slice B' m' capm'] 25):=⟨_,rfl⟩
 have tX:qIl 25 #[.slice A n cap,.slice B m capm] #[.slice A' n' cap',.slice B' m' capm'] w X:=by rw[hX];exact qIl.start _ _ _ w
 have h1:=qGg X A B n cap m capm cs ks hz hn2 hm2 hn hm ((hA.below tX.bel).more tX.bel.size) ((hB.below tX.bel).more tX.bel.size)
 have h2:=fun (W:World) (hb:Below w.heap.size w W)=>qGg W A' B' n' cap' m' capm' ds ls kz kn2 km2 kn km ((kA.below hb).more hb.size) ((kB.below hb).more hb.size)
 have H1:=Lib.hid h1;have H2:=Lib.hid h2;have T0:=Lib.hid tX
 have HN:=Lib.hid hn;have HM:=Lib.hid hm;have HA:=Lib.hid hA;have HB:=Lib.hid hB;have KN:=Lib.hid kn;have KM:=Lib.hid km;have KA:=Lib.hid kA;have KB:=Lib.hid kB
 clear h1 h2 tX hn hm hA hB kn km kA kB hz kz
 have hans:qBh (cs,ks) (ds,ls)=if scOk cs ks=true∧scOk ds ls=true then (if qAl (cs,ks) (ds,ls) (qA7 cs)=true then 0 else 120) else 2:=rfl
 have y0:=cell_of_block (i:=0) T0.out.b0 rfl;have y1:=cell_of_block (i:=1) T0.out.b0 rfl
 cases ha:scOk cs ks with
 |false=>
  rw[if_neg (by rw[ha];simp)] at hans;rw[qBz ha] at H1;simp only[Bool.false_eq_true,if_false] at H1;have HANS:=Lib.hid hans;clear hans
  go_enter Tryz.func18,Tryz.ntmps18
  go_wp2_with fail
  rw[←hX];clear hX;refine H1.out.mono ?_;rintro en w1 ⟨rfl,b1⟩;have B1:=Lib.hid (T0.out.step b1).bel;clear b1
  go_wp2_with fail
  go_ret
  exact⟨congrArg (fun i=>Ending.returned (.int .i64 i)) HANS.out.symm,B1.out⟩
 | true =>
  have K1:=Lib.hid (keys_in ha);have K0:=Lib.hid (qUw ha)
  rw[ha] at hans;rw[qBz ha] at H1;simp only[if_true] at H1;clear ha
  cases hb:scOk ds ls with
  |false=>
   rw[if_neg (by rw[hb];simp)] at hans;rw[qBz hb] at H2;simp only[Bool.false_eq_true,if_false] at H2;have HANS:=Lib.hid hans;clear hans hb
   go_enter Tryz.func18,Tryz.ntmps18
   go_wp2_with fail
   rw[←hX];clear hX;refine H1.out.mono ?_;rintro en w1 ⟨rfl,b1⟩;have T1:=Lib.hid (T0.out.step b1);clear b1;have z0:=cell_of_block (i:=0) T1.out.b1 rfl;have z1:=cell_of_block (i:=1) T1.out.b1 rfl
   go_wp2_with fail
   refine(H2.out _ T1.out.bel).mono ?_;rintro en w2 ⟨rfl,b2⟩;have B2:=Lib.hid (T1.out.step b2).bel;clear b2
   go_wp2_with fail
   go_ret
   exact⟨congrArg (fun i=>Ending.returned (.int .i64 i)) HANS.out.symm,B2.out⟩
  | true=>
   have K2:=Lib.hid (keys_in hb);rw[hb] at hans;rw[qBz hb] at H2;simp only[if_true] at H2;rw[if_pos ⟨rfl,rfl⟩] at hans;clear hb
   cases hf:qAl (cs,ks) (ds,ls) (qA7 cs) with
   |true=>
    have HF:=Lib.hid hf;rw[hf] at hans;simp only[if_true] at hans;have HANS:=Lib.hid hans;clear hans hf
    go_enter Tryz.func18,Tryz.ntmps18
    go_wp2_with fail
    rw[←hX];clear hX;refine H1.out.mono ?_;rintro en w1 ⟨rfl,b1⟩;have T1:=Lib.hid (T0.out.step b1);clear b1;have z0:=cell_of_block (i:=0) T1.out.b1 rfl;have z1:=cell_of_block (i:=1) T1.out.b1 rfl
    go_wp2_with fail
    refine(H2.out _ T1.out.bel).mono ?_;rintro en w2 ⟨rfl,b2⟩;have T2:=Lib.hid (T1.out.step b2);clear b2 y0 y1 z0 z1
    go_wp2_with fail
    refine qAh [isV (.agg #[.slice A n cap,.slice B m capm]),isV (.agg #[.slice A' n' cap',.slice B' m' capm']),isV (.agg #[.slice A n cap,.slice B m capm]),isV (.int .i64 (qA7 cs)),isV (.bool true),isV (.bool false)] (by kernel_rfl) (by kernel_rfl) ?_ ?_
    ·
      refine rf (fun ev wo E=>?_) ?_
      · have e2:ev (.tmp 2)=.pointer (some ⟨w.heap.size,0,none⟩):=(E.base 2 rfl).trans rfl;have hx0:=cell_of_block (i:=0) (qAb T2.out.b0 E.bel) rfl;have hx1:=cell_of_block (i:=1) (qAb T2.out.b0 E.bel) rfl;go_simp;exact rv
      refine rf (fun ev wo E=>?_) ?_
      · have e3:ev (.tmp 3)=.pointer (some ⟨w.heap.size+1,0,none⟩):=(E.base 3 rfl).trans rfl;have hx0:=cell_of_block (i:=0) (qAb T2.out.b1 E.bel) rfl;have hx1:=cell_of_block (i:=1) (qAb T2.out.b1 E.bel) rfl;go_simp;exact rv
      refine rf (fun ev wo E=>?_) ?_
      · have e2:ev (.tmp 2)=.pointer (some ⟨w.heap.size,0,none⟩):=(E.base 2 rfl).trans rfl;have hx0:=cell_of_block (i:=0) (qAb T2.out.b0 E.bel) rfl;have hx1:=cell_of_block (i:=1) (qAb T2.out.b0 E.bel) rfl;go_simp;exact rv
      refine rf (fun ev wo E=>?_) ?_
      · have e15:ev (.tmp 15)=.agg #[.slice A n cap,.slice B m capm]:=E.e 0;have ef:=E.func;go_simp;refine qAd ((qFv A B n cap m capm cs wo HN.out hn2 (by rw[HN.out];exact K0.out) (HA.out.below (T2.out.bel.trans (E.bel.mono T2.out.bel.size)) |>.more (Nat.le_trans T2.out.bel.size E.bel.size))).mono ?_);rintro e w' ⟨rfl,hb⟩;exact⟨_,rfl,hb,rfl⟩
      refine rf (fun ev wo E=>?_) ?_
      · have e13:ev (.tmp 13)=.agg #[.slice A n cap,.slice B m capm]:=E.e 0;have e14:ev (.tmp 14)=.agg #[.slice A' n' cap',.slice B' m' capm']:=E.e 1;have e16:ev (.tmp 16)=.int .i64 (qA7 cs):=E.e 2;have ef:=E.func;go_simp;refine qAd ((qE1 A B n cap m capm cs ks A' B' n' cap' m' capm' ds ls (qA7 cs) wo HN.out HM.out hn2 hm2 (HA.out.below (T2.out.bel.trans (E.bel.mono T2.out.bel.size)) |>.more (Nat.le_trans T2.out.bel.size E.bel.size)) (HB.out.below (T2.out.bel.trans (E.bel.mono T2.out.bel.size)) |>.more (Nat.le_trans T2.out.bel.size E.bel.size)) K1.out KN.out KM.out kn2 km2 (KA.out.below (T2.out.bel.trans (E.bel.mono T2.out.bel.size)) |>.more (Nat.le_trans T2.out.bel.size E.bel.size)) (KB.out.below (T2.out.bel.trans (E.bel.mono T2.out.bel.size)) |>.more (Nat.le_trans T2.out.bel.size E.bel.size)) K2.out).mono ?_)
        rw[HF.out];rintro e w' ⟨rfl,hb⟩;exact⟨_,rfl,hb,rfl⟩
      refine rf (fun ev wo E=>?_) ?_
      · have e17:ev (.tmp 17)=.bool true:=E.e 0;go_simp;exact rv
      trivial
    · intro wz bz
      (iterate 6 rintro _ rfl);have B3:=Lib.hid (T2.out.bel.trans (bz.mono T2.out.bel.size));clear bz;simp only[qAq];go_simp
      go_wp2_with fail
      go_ret
      exact⟨congrArg (fun i=>Ending.returned (.int .i64 i)) HANS.out.symm,B3.out⟩
   |false=>
    have HF:=Lib.hid hf;rw[hf] at hans;simp only[Bool.false_eq_true,if_false] at hans;have HANS:=Lib.hid hans;clear hans hf
    go_enter Tryz.func18,Tryz.ntmps18
    go_wp2_with fail
    rw[←hX];clear hX;refine H1.out.mono ?_;rintro en w1 ⟨rfl,b1⟩;have T1:=Lib.hid (T0.out.step b1);clear b1;have z0:=cell_of_block (i:=0) T1.out.b1 rfl;have z1:=cell_of_block (i:=1) T1.out.b1 rfl
    go_wp2_with fail
    refine(H2.out _ T1.out.bel).mono ?_;rintro en w2 ⟨rfl,b2⟩;have T2:=Lib.hid (T1.out.step b2);clear b2 y0 y1 z0 z1
    go_wp2_with fail
    refine qAh [isV (.agg #[.slice A n cap,.slice B m capm]),isV (.agg #[.slice A' n' cap',.slice B' m' capm']),isV (.agg #[.slice A n cap,.slice B m capm]),isV (.int .i64 (qA7 cs)),isV (.bool false),isV (.bool true)] (by kernel_rfl) (by kernel_rfl) ?_ ?_
    ·
      refine rf (fun ev wo E=>?_) ?_
      · have e2:ev (.tmp 2)=.pointer (some ⟨w.heap.size,0,none⟩):=(E.base 2 rfl).trans rfl;have hx0:=cell_of_block (i:=0) (qAb T2.out.b0 E.bel) rfl;have hx1:=cell_of_block (i:=1) (qAb T2.out.b0 E.bel) rfl;go_simp;exact rv
      refine rf (fun ev wo E=>?_) ?_
      · have e3:ev (.tmp 3)=.pointer (some ⟨w.heap.size+1,0,none⟩):=(E.base 3 rfl).trans rfl;have hx0:=cell_of_block (i:=0) (qAb T2.out.b1 E.bel) rfl;have hx1:=cell_of_block (i:=1) (qAb T2.out.b1 E.bel) rfl;go_simp;exact rv
      refine rf (fun ev wo E=>?_) ?_
      · have e2:ev (.tmp 2)=.pointer (some ⟨w.heap.size,0,none⟩):=(E.base 2 rfl).trans rfl;have hx0:=cell_of_block (i:=0) (qAb T2.out.b0 E.bel) rfl;have hx1:=cell_of_block (i:=1) (qAb T2.out.b0 E.bel) rfl;go_simp;exact rv
      refine rf (fun ev wo E=>?_) ?_
      · have e15:ev (.tmp 15)=.agg #[.slice A n cap,.slice B m capm]:=E.e 0;have ef:=E.func;go_simp;refine qAd ((qFv A B n cap m capm cs wo HN.out hn2 (by rw[HN.out];exact K0.out) (HA.out.below (T2.out.bel.trans (E.bel.mono T2.out.bel.size)) |>.more (Nat.le_trans T2.out.bel.size E.bel.size))).mono ?_);rintro e w' ⟨rfl,hb⟩;exact⟨_,rfl,hb,rfl⟩
      refine rf (fun ev wo E=>?_) ?_
      · have e13:ev (.tmp 13)=.agg #[.slice A n cap,.slice B m capm]:=E.e 0;have e14:ev (.tmp 14)=.agg #[.slice A' n' cap',.slice B' m' capm']:=E.e 1;have e16:ev (.tmp 16)=.int .i64 (qA7 cs):=E.e 2;have ef:=E.func;go_simp;refine qAd ((qE1 A B n cap m capm cs ks A' B' n' cap' m' capm' ds ls (qA7 cs) wo HN.out HM.out hn2 hm2 (HA.out.below (T2.out.bel.trans (E.bel.mono T2.out.bel.size)) |>.more (Nat.le_trans T2.out.bel.size E.bel.size)) (HB.out.below (T2.out.bel.trans (E.bel.mono T2.out.bel.size)) |>.more (Nat.le_trans T2.out.bel.size E.bel.size)) K1.out KN.out KM.out kn2 km2 (KA.out.below (T2.out.bel.trans (E.bel.mono T2.out.bel.size)) |>.more (Nat.le_trans T2.out.bel.size E.bel.size)) (KB.out.below (T2.out.bel.trans (E.bel.mono T2.out.bel.size)) |>.more (Nat.le_trans T2.out.bel.size E.bel.size)) K2.out).mono ?_)
        rw[HF.out];rintro e w' ⟨rfl,hb⟩;exact⟨_,rfl,hb,rfl⟩
      refine rf (fun ev wo E=>?_) ?_
      · have e17:ev (.tmp 17)=.bool false:=E.e 0;go_simp;exact rv
      trivial
    · intro wz bz
      (iterate 6 rintro _ rfl);have B3:=Lib.hid (T2.out.bel.trans (bz.mono T2.out.bel.size));clear bz;simp only[qAq];go_simp
      go_wp2_with fail
      go_ret
      exact⟨congrArg (fun i=>Ending.returned (.int .i64 i)) HANS.out.symm,B3.out⟩
end Go.Proofs.YtikpmmipopmjaaaGreatDoor
set_option linter.unusedSimpArgs false
namespace Go.Ms
open Go.RowKit Go.Lib
theorem qZi {l:List Sc} {k:Nat} {s:Sc} (h:l[k]?=some s) (hb:scOk s.1 s.2=false):l.all (fun s=>scOk s.1 s.2)=false:=by
 rw[List.all_eq_false];exact⟨s,List.mem_of_getElem? h,by simp[hb]⟩
theorem qXq {l:List Sc} {k:Nat} {s:Sc} (h:l[k]?=some s) (ha:(l.take k).all (fun s=>scOk s.1 s.2)=true) (hb:scOk s.1 s.2=true):(l.take (k+1)).all (fun s=>scOk s.1 s.2)=true:=by
 rw[List.take_add_one,h,List.all_append,ha]
 simp[hb]
end Go.Ms
namespace Go.Proofs.YtikpmmipopmjaaaGreatDoor
open Go.RowKit Go.Ms Go.Lib Go.Shelf Go.Rel
set_option maxRecDepth 100000 in
set_option maxHeartbeats 4000000 in
theorem qLn (w :World) (L:Option Addr) (n cap:Nat) (rs:List SRef) (ss:List Sc) (hn':n≤100000) (hn:n=rs.length) (hL:qDb w w.heap.size L rs ss) (hz:∀s∈ss,ScR s.1) :
    Calls Tryz.prog 26 #[.slice L n cap] w fun e w'=>e=.returned (.int .i64 (qA6 ss))∧Below w.heap.size w w':=by
 have hns:n=ss.length:=hn.trans hL.len
 by_cases h64:64<n
 · have hc:=qL4 (l:=ss) (by omega)
   have h64':(64:Int)<n:=by omega
   have HC:=Lib.hid hc;clear hc hn hL hz hns
   go_enter Tryz.func26,Tryz.ntmps26
   go_wp2_with fail
   go_ret
   exact⟨congrArg (fun i=>Ending.returned (.int .i64 i)) HC.out.symm,Below.refl _ _⟩
 have h64':¬(64:Int)<n:=by omega
 have h64s:¬64<ss.length:=by omega
 have HN:=Lib.hid hn;have HL:=Lib.hid hL;have HNS:=Lib.hid hns;have H64:=Lib.hid h64s;have HZ:=Lib.hid hz
 clear hn hL hz hns h64s
 go_enter Tryz.func26,Tryz.ntmps26
 go_wp2_with fail
 go_loopw [3] (fun i wr=> ∃k:Nat,k≤n∧i=.int .i64 k∧(ss.take k).all (fun s=>scOk s.1 s.2)=true∧Below w.heap.size w wr) (fun i _=>n-(RowKit.intOf i).toNat)
 case atStart=>exact⟨0,by omega,rfl,by simp,Below.refl _ _⟩
 case round =>
  obtain⟨k,hk,rfl,hall,hb⟩:=hrel
  by_cases hlk:k<n
  · have hki:(k:Int)<n:=by omega
    obtain⟨rk,hrk⟩:∃r,rs[k]?=some r:=⟨_,List.getElem?_eq_getElem (by rw[←HN.out];omega)⟩;obtain⟨sk,hsk⟩:∃x,ss[k]?=some x:=⟨_,List.getElem?_eq_getElem (by rw[←HNS.out];omega)⟩;obtain⟨g,o,eL,hg⟩:=HL.out.at_ hrk;subst eL;have hg2:=hg.below hb;have g1:=hg2.c0;have g2:=hg2.c1;have pB:=(HL.out.each k rk sk hrk hsk).to hb;have hck:=qGg wr rk.a rk.b rk.n rk.c rk.m rk.d sk.1 sk.2 (HZ.out sk (List.mem_of_getElem? hsk)) pB.nn pB.mm pB.n pB.m pB.la pB.lb
    have HCK:=Lib.hid hck;have HSK:=Lib.hid hsk;have HALL:=Lib.hid hall;have HB:=Lib.hid hb
    clear hck hsk hall hb pB hg hg2 hrk
    cases hok:scOk sk.1 sk.2 with
    |false=>
     rw[qBz hok] at HCK;simp only[Bool.false_eq_true,if_false] at HCK;have HODD:=Lib.hid (qPc H64.out (qZi HSK.out hok));clear hok
     go_wp2_with fail
     refine HCK.out.mono ?_;rintro en w1 ⟨rfl,b1⟩;have B1:=Lib.hid (HB.out.trans (b1.mono HB.out.size));clear b1
     go_wp2_with fail
     go_ret
     exact⟨congrArg (fun i=>Ending.returned (.int .i64 i)) HODD.out.symm,B1.out⟩
    |true=>
     rw[qBz hok] at HCK;simp only[if_true] at HCK;have HMORE:=Lib.hid (qXq HSK.out HALL.out hok);clear hok
     go_wp2_with fail
     refine HCK.out.mono ?_;rintro en w1 ⟨rfl,b1⟩;have B1:=Lib.hid (HB.out.trans (b1.mono HB.out.size));clear b1
     go_wp2_with fail
     go_roundw
     case rel=>exact⟨k+1,by omega,by go_num,HMORE.out,B1.out⟩
     case measure=>simp[RowKit.intOf];omega
  · have hki : ¬(k:Int)<n:=by omega
    obtain rfl:k=n:=by omega
    rw[List.take_of_length_le (by have:=HNS.out;omega)] at hall
    have hok:∀(i:Nat) s,ss[i]?=some s→scOk s.1 s.2=true:=fun i s hs=>List.all_eq_true.1 hall s (List.mem_of_getElem? hs)
    have HALL:=Lib.hid hall;have HOK:=Lib.hid hok;have B0:=Lib.hid hb
    clear hall hok hb
    go_wp2_with fail
    go_loopw [4,5] (fun ab id wr=> ∃j:Nat,j≤k∧id=.int .i64 j∧ab=.int .i64 (evAb (ss.take j))∧qPg ss j∧Below w.heap.size w wr) (fun _ id _=>k-(RowKit.intOf id).toNat)
    case atStart=>exact⟨0,by omega,rfl,rfl,fun i a b h=>absurd h (by omega),B0.out⟩
    case round =>
     obtain⟨j,hj,rfl,rfl,hlinks,hb⟩:=hrel;have HLK:=Lib.hid hlinks;clear hlinks
     by_cases hlk:j<k
     · have hkj:(j:Int)<k:=by omega
       obtain⟨rk,hrk⟩:∃r,rs[j]?=some r:=⟨_,List.getElem?_eq_getElem (by rw[←HN.out];omega)⟩;obtain⟨sk,hsk⟩:∃x,ss[j]?=some x:=⟨_,List.getElem?_eq_getElem (by rw[←HNS.out];omega)⟩
       have htk:ss.take (j+1)=ss.take j++[sk]:=by rw[List.take_add_one,hsk];rfl
       have hab:evAb (ss.take (j+1))=max (evAb (ss.take j)) (qA7 sk.1):=by rw[htk,qK2]
       have pB:=(HL.out.each j rk sk hrk hsk).to hb;have kK:=keys_in (HOK.out j sk hsk);have k0:=qUw (HOK.out j sk hsk)
       have hgr:=fun (W:World) (hW:Below wr.heap.size wr W)=>qFv rk.a rk.b rk.n rk.c rk.m rk.d sk.1 W pB.n pB.nn (by rw[pB.n];exact k0) (pB.to hW).la
       obtain⟨g,o,eL,hg⟩:=HL.out.at_ hrk;subst eL
       have HAB:=Lib.hid hab;have PB:=Lib.hid pB;have KK:=Lib.hid kK;have BW2:=Lib.hid hb;have HGR:=Lib.hid hgr;have HSK:=Lib.hid hsk;have GB:=Lib.hid ((hg.below hb).more hb.size)
       clear htk hab pB kK k0 hgr hg hb
       rcases Nat.eq_zero_or_pos j with hk0|hk0
       · subst hk0;have ez:((0:Nat):Int)=0:=rfl;clear HLK
         go_wp2_with fail
         refine qAh [isV (.int .i64 (0:Nat)),isV (.bool false),isV (.bool false),isV (undef),isV (undef),isV (undef),isV (undef),isV (undef),isV (undef),isV (undef),isV (undef),isV (undef),isV (undef),isV (undef),isV (undef),isV (.bool false)] (by kernel_rfl) (by kernel_rfl) ?_ ?_
         ·
           refine rb ?_;refine rf (fun ev wo E=>?_) ?_
           · have e27:ev (.tmp 27)=.int .i64 (0:Nat):=E.e 0;have ec:=E.const;go_simp;exact rv
           refine rc 0 ?_;refine ro 0 ?_;refine ro 0 ?_;refine ro 1 ?_;refine ro 2 ?_;refine ro 1 ?_;refine ro 0 ?_;refine ro 0 ?_;refine ro 2 ?_;refine ro 1 ?_;refine ro 0 ?_;refine ro 3 ?_;refine ro 1 ?_;refine rf (fun ev wo E=>?_) ?_
           · have e29:ev (.tmp 29)=.bool false:=E.e 0;have e41:ev (.tmp 41)=undef:=E.e 1;have ec:=E.const;go_simp;exact rv
           trivial
         · intro wz bz
           (iterate 16 rintro _ rfl);have GZ:=GB.out.below bz;have z0:=GZ.c0;have z1:=GZ.c1;rw[Nat.zero_mul,Nat.add_zero] at z0 z1
           have HG:=Lib.hid (HGR.out wz bz);have B2:=Lib.hid (BW2.out.trans (bz.mono BW2.out.size))
           clear bz GZ;simp only[qAq];go_simp
           go_wp2_with fail
           refine HG.out.mono ?_;rintro en w2 ⟨rfl,b2⟩;have B3:=Lib.hid (B2.out.trans (b2.mono B2.out.size));clear b2 z0 z1
           go_wp2_with fail
           go_roundw
           case rel=>
            refine⟨0+1,by omega,by go_num,congrArg (fun i=>Value.int .i64 i) HAB.out.symm,fun i a b h=>absurd h (by omega),B3.out⟩
           case measure=>simp[RowKit.intOf];omega
       · have hkn:j-1<k:=by omega
         obtain⟨rp,hrp⟩:∃r,rs[j-1]?=some r:=⟨_,List.getElem?_eq_getElem (by rw[←HN.out];omega)⟩;obtain⟨sp,hsp⟩:∃x,ss[j-1]?=some x:=⟨_,List.getElem?_eq_getElem (by rw[←HNS.out];omega)⟩;obtain⟨g',o',eL',hg'⟩:=HL.out.at_ hrp
         cases eL'
         have hw:IntKind.i64.wrap ((j:Int)-1)=(j:Int)-1:=IntWalk.i64_in _ (by omega)
         have G:=Lib.hid ((hg'.below BW2.out).more BW2.out.size);have PA:=Lib.hid ((HL.out.each (j-1) rp sp hrp hsp).to BW2.out);have KP:=Lib.hid (keys_in (HOK.out (j-1) sp hsp));have HK0:=Lib.hid hk0;have HW:=Lib.hid hw;have HKN:=Lib.hid hlk;have HSP:=Lib.hid hsp
         clear hg' hrp hsp hw hrk hsk
         cases hf:qAl sp sk (evAb (ss.take j)) with
         |true=>
          have HF:=Lib.hid (show qAl (sp.1,sp.2) (sk.1,sk.2) (evAb (ss.take j))=true from hf);clear hf
          go_wp2_with fail
          refine qAh [isV (.int .i64 (j:Nat)),isV (.bool true),isV (.bool true),isV (.slice (some ⟨g,o,none⟩) k cap),isV (.int .i64 (j:Nat)),isV (.int .i64 ((j:Int)-1)),isV (.pointer (some ⟨g,o+(j-1)*2,none⟩)),isV (.agg #[.slice rp.a rp.n rp.c,.slice rp.b rp.m rp.d]),isV (.slice (some ⟨g,o,none⟩) k cap),isV (.int .i64 (j:Nat)),isV (.pointer (some ⟨g,o+j*2,none⟩)),isV (.agg #[.slice rk.a rk.n rk.c,.slice rk.b rk.m rk.d]),isV (.int .i64 (evAb (ss.take j))),isV (.bool true),isV (.bool false),isV (.bool false)] (by kernel_rfl) (by kernel_rfl) ?_ ?_
          ·
            refine rb ?_;refine rf (fun ev wo E=>?_) ?_
            · have e27:ev (.tmp 27)=.int .i64 (j:Nat):=E.e 0;have ec:=E.const;have h0:=HK0.out;go_simp;exact rv
            refine rc 0 ?_;refine rbq 0 ?_;refine rbq 0 ?_;refine rq 1 (fun ev wo E=>?_) ?_
            · have e31:ev (.tmp 31)=.int .i64 (j:Nat):=E.e 0;have ec:=E.const;have h0:=HW.out;go_simp;exact rv
            refine rq 2 (fun ev wo E=>?_) ?_
            · have e30:ev (.tmp 30)=.slice (some ⟨g,o,none⟩) k cap:=E.e 0;have e32:ev (.tmp 32)=.int .i64 ((j:Int)-1):=E.e 1;have h0:=HKN.out;have h1:=HK0.out
              have h2:(0:Int)≤(j:Int)-1:=by omega
              have h3:(j:Int)-1<k:=by omega
              have h4:(1:Int)≤j:=by omega
              go_simp;exact rv
            refine rq 1 (fun ev wo E=>?_) ?_
            · have e33:ev (.tmp 33)=.pointer (some ⟨g,o+(j-1)*2,none⟩):=E.e 0;have hx0:=(E.bel.cell G.out.lt).trans G.out.c0;have hx1:=(E.bel.cell G.out.lt).trans G.out.c1;go_simp;exact rv
            refine rbq 0 ?_;refine rbq 0 ?_;refine rq 2 (fun ev wo E=>?_) ?_
            · have e35:ev (.tmp 35)=.slice (some ⟨g,o,none⟩) k cap:=E.e 0;have e36:ev (.tmp 36)=.int .i64 (j:Nat):=E.e 1;have h0:=HKN.out
              have h3:(j:Int)<k:=by omega
              go_simp;exact rv
            refine rq 1 (fun ev wo E=>?_) ?_
            · have e37:ev (.tmp 37)=.pointer (some ⟨g,o+j*2,none⟩):=E.e 0;have hx0:=(E.bel.cell GB.out.lt).trans GB.out.c0;have hx1:=(E.bel.cell GB.out.lt).trans GB.out.c1;go_simp;exact rv
            refine rbq 0 ?_;refine rq 3 (fun ev wo E=>?_) ?_
            · have e34:ev (.tmp 34)=.agg #[.slice rp.a rp.n rp.c,.slice rp.b rp.m rp.d]:=E.e 0;have e38:ev (.tmp 38)=.agg #[.slice rk.a rk.n rk.c,.slice rk.b rk.m rk.d]:=E.e 1;have e39:ev (.tmp 39)=.int .i64 (evAb (ss.take j)):=E.e 2;have ef:=E.func;go_simp;have pa:=PA.out.below E.bel |>.more E.bel.size;have pb:=PB.out.below E.bel |>.more E.bel.size;refine qAd ((qE1 rp.a rp.b rp.n rp.c rp.m rp.d sp.1 sp.2 rk.a rk.b rk.n rk.c rk.m rk.d sk.1 sk.2 (evAb (ss.take j)) wo pa.n pa.m pa.nn pa.mm pa.la pa.lb KP.out pb.n pb.m pb.nn pb.mm pb.la pb.lb KK.out).mono ?_)
              rw[HF.out];rintro e w' ⟨rfl,hb⟩;exact⟨_,rfl,hb,rfl⟩
            refine rq 1 (fun ev wo E=>?_) ?_
            · have e40:ev (.tmp 40)=.bool true:=E.e 0;go_simp;exact rv
            refine rf (fun ev wo E=>?_) ?_
            · have e29:ev (.tmp 29)=.bool true:=E.e 0;have e41:ev (.tmp 41)=.bool false:=E.e 1;have ec:=E.const;go_simp;exact rv
            trivial
          · intro wz bz
            (iterate 16 rintro _ rfl);have GZ:=GB.out.below bz;have z0:=GZ.c0;have z1:=GZ.c1
            have HG:=Lib.hid (HGR.out wz bz);have B2:=Lib.hid (BW2.out.trans (bz.mono BW2.out.size))
            clear bz GZ;simp only[qAq];go_simp
            go_wp2_with fail
            refine HG.out.mono ?_;rintro en w2 ⟨rfl,b2⟩;have B3:=Lib.hid (B2.out.trans (b2.mono B2.out.size));clear b2 z0 z1
            go_wp2_with fail
            go_roundw
            case rel=>
             refine⟨j+1,by omega,by go_num,congrArg (fun i=>Value.int .i64 i) HAB.out.symm,fun i a b h1 h2 h3=>?_,B3.out⟩
             by_cases e:i+1=j
             · obtain rfl:i=j-1:=by omega
               rw[HSP.out] at h2
               cases h2
               rw[e] at h3 ⊢;rw[HSK.out] at h3
               cases h3
               exact HF.out
             · exact HLK.out i a b (by omega) h2 h3
            case measure=>simp[RowKit.intOf];omega
         |false=>
          have HF:=Lib.hid (show qAl (sp.1,sp.2) (sk.1,sk.2) (evAb (ss.take j))=false from hf);clear hf
          go_wp2_with fail
          refine qAh [isV (.int .i64 (j:Nat)),isV (.bool true),isV (.bool true),isV (.slice (some ⟨g,o,none⟩) k cap),isV (.int .i64 (j:Nat)),isV (.int .i64 ((j:Int)-1)),isV (.pointer (some ⟨g,o+(j-1)*2,none⟩)),isV (.agg #[.slice rp.a rp.n rp.c,.slice rp.b rp.m rp.d]),isV (.slice (some ⟨g,o,none⟩) k cap),isV (.int .i64 (j:Nat)),isV (.pointer (some ⟨g,o+j*2,none⟩)),isV (.agg #[.slice rk.a rk.n rk.c,.slice rk.b rk.m rk.d]),isV (.int .i64 (evAb (ss.take j))),isV (.bool false),isV (.bool true),isV (.bool true)] (by kernel_rfl) (by kernel_rfl) ?_ ?_
          ·
            refine rb ?_;refine rf (fun ev wo E=>?_) ?_
            · have e27:ev (.tmp 27)=.int .i64 (j:Nat):=E.e 0;have ec:=E.const;have h0:=HK0.out;go_simp;exact rv
            refine rc 0 ?_;refine rbq 0 ?_;refine rbq 0 ?_;refine rq 1 (fun ev wo E=>?_) ?_
            · have e31:ev (.tmp 31)=.int .i64 (j:Nat):=E.e 0;have ec:=E.const;have h0:=HW.out;go_simp;exact rv
            refine rq 2 (fun ev wo E=>?_) ?_
            · have e30:ev (.tmp 30)=.slice (some ⟨g,o,none⟩) k cap:=E.e 0;have e32:ev (.tmp 32)=.int .i64 ((j:Int)-1):=E.e 1;have h0:=HKN.out;have h1:=HK0.out
              have h2:(0:Int)≤(j:Int)-1:=by omega
              have h3:(j:Int)-1<k:=by omega
              have h4:(1:Int)≤j:=by omega
              go_simp;exact rv
            refine rq 1 (fun ev wo E=>?_) ?_
            · have e33:ev (.tmp 33)=.pointer (some ⟨g,o+(j-1)*2,none⟩):=E.e 0;have hx0:=(E.bel.cell G.out.lt).trans G.out.c0;have hx1:=(E.bel.cell G.out.lt).trans G.out.c1;go_simp;exact rv
            refine rbq 0 ?_;refine rbq 0 ?_;refine rq 2 (fun ev wo E=>?_) ?_
            · have e35:ev (.tmp 35)=.slice (some ⟨g,o,none⟩) k cap:=E.e 0;have e36:ev (.tmp 36)=.int .i64 (j:Nat):=E.e 1;have h0:=HKN.out
              have h3:(j:Int)<k:=by omega
              go_simp;exact rv
            refine rq 1 (fun ev wo E=>?_) ?_
            · have e37:ev (.tmp 37)=.pointer (some ⟨g,o+j*2,none⟩):=E.e 0;have hx0:=(E.bel.cell GB.out.lt).trans GB.out.c0;have hx1:=(E.bel.cell GB.out.lt).trans GB.out.c1;go_simp;exact rv
            refine rbq 0 ?_;refine rq 3 (fun ev wo E=>?_) ?_
            · have e34:ev (.tmp 34)=.agg #[.slice rp.a rp.n rp.c,.slice rp.b rp.m rp.d]:=E.e 0;have e38:ev (.tmp 38)=.agg #[.slice rk.a rk.n rk.c,.slice rk.b rk.m rk.d]:=E.e 1;have e39:ev (.tmp 39)=.int .i64 (evAb (ss.take j)):=E.e 2;have ef:=E.func;go_simp;have pa:=PA.out.below E.bel |>.more E.bel.size;have pb:=PB.out.below E.bel |>.more E.bel.size;refine qAd ((qE1 rp.a rp.b rp.n rp.c rp.m rp.d sp.1 sp.2 rk.a rk.b rk.n rk.c rk.m rk.d sk.1 sk.2 (evAb (ss.take j)) wo pa.n pa.m pa.nn pa.mm pa.la pa.lb KP.out pb.n pb.m pb.nn pb.mm pb.la pb.lb KK.out).mono ?_)
              rw[HF.out];rintro e w' ⟨rfl,hb⟩;exact⟨_,rfl,hb,rfl⟩
            refine rq 1 (fun ev wo E=>?_) ?_
            · have e40:ev (.tmp 40)=.bool false:=E.e 0;go_simp;exact rv
            refine rf (fun ev wo E=>?_) ?_
            · have e29:ev (.tmp 29)=.bool true:=E.e 0;have e41:ev (.tmp 41)=.bool true:=E.e 1;have ec:=E.const;go_simp;exact rv
            trivial
          · intro wz bz
            (iterate 16 rintro _ rfl);have hbad:=qOi H64.out HALL.out HSP.out (by rw[Nat.sub_add_cancel HK0.out];exact HSK.out) (by rw[Nat.sub_add_cancel HK0.out];exact HF.out)
            have HBAD:=Lib.hid hbad;have B2:=Lib.hid (BW2.out.trans (bz.mono BW2.out.size))
            clear bz hbad;simp only[qAq];go_simp
            go_wp2_with fail
            go_ret
            exact⟨congrArg (fun i=>Ending.returned (.int .i64 i)) HBAD.out.symm,B2.out⟩
     · have hki:¬(j:Int)<k:=by omega
       obtain rfl:j=k:=by omega
       have hyes:=qN6 H64.out HALL.out (by rw[←HNS.out];exact HLK.out)
       have HY:=Lib.hid hyes;have B2:=Lib.hid hb
       clear hyes hb
       go_wp2_with fail
       go_ret
       exact⟨congrArg (fun i=>Ending.returned (.int .i64 i)) HY.out.symm,B2.out⟩
end Go.Proofs.YtikpmmipopmjaaaGreatDoor
