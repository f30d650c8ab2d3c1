/- The reference of evolve: a row of one schema as one of another one. Rows: how two stand. Rows: what the reference checks, compares and picks. The reference of evolve: a row moved on by one step. -/
import Derived.Test.YtikpmmipopmjaaaGreatDoorZQw
import Derived.Test.YtikpmmipopmjaaaGreatDoorZQad
import Derived.Test.YtikpmmipopmjaaaGreatDoorZQak
import Derived.Test.YtikpmmipopmjaaaGreatDoorZQp
import Derived.Test.YtikpmmipopmjaaaGreatDoorZQn
import Derived.Test.YtikpmmipopmjaaaGreatDoorZQae
import Derived.Test.YtikpmmipopmjaaaGreatDoorZQag
import Derived.Test.YtikpmmipopmjaaaGreatDoorZQan
import Derived.Test.YtikpmmipopmjaaaGreatDoorZQaf
set_option linter.unusedVariables false
set_option linter.unusedSimpArgs false
namespace Go.Ms
open Go.RowKit Go.Lib
theorem Bx2.grown {o0 o1:Obj} {w W W':World} (h:Bx2 o0 o1 w W) {row:Option Nat} (hg:W.grownBy W' row) (hr:∀r,row=some r→w.heap.size+2≤r):Bx2 o0 o1 w W':=by
 have hne:∀k:Nat,k<w.heap.size+2→some k≠row:=fun k hk e=>by have:=hr k e.symm;omega
 have go:∀{k:Nat} {o:Obj},k<w.heap.size+2→W.heap[k]?=some o→W'.heap[k]?=some o:=fun hk ho=>(hg.block _ (Array.getElem?_eq_some_iff.1 ho).1 (hne _ hk)).trans ho
 exact⟨go (by omega) h.b0,go (by omega) h.b1,h.bel.grown hg h.bel.size (fun k e=>by have:=hr k e;omega)⟩
theorem Bx2.two {o0 o1:Obj} {w W:World} (h:Bx2 o0 o1 w W):w.heap.size+2≤W.heap.size:=by
 have:=(Array.getElem?_eq_some_iff.1 h.b1).1;omega
theorem qSq {a:List Co} {r:List Cl} {pre:List Co} {d:Co} {p:Nat} {x:Cl} (h:evAt a d.1=some p) (hx:r[p]?=some x):qA1 a (pre++[d]) r=qA1 a pre r++[x]:=by
 rw[qIn,h]
 simp[List.getD_eq_getElem?_getD,hx]
theorem qR1 {a:List Co} {r:List Cl} {pre:List Co} {d:Co} (h:evAt a d.1=none):qA1 a (pre++[d]) r=qA1 a pre r++[d.2.2.2]:=by
 rw[qIn,h]
end Go.Ms
namespace Go.Proofs.YtikpmmipopmjaaaGreatDoor
open Go.RowKit Go.Ms Go.Lib Go.Rel
set_option maxRecDepth 100000 in
set_option maxHeartbeats 4000000 in
theorem qMe (A B:Option Addr) (n cap m capm:Nat) (cs:List Co) (ks:List Int) (A' B':Option Addr) (n' cap' m' capm':Nat) (ds:List Co) (ls:List Int) (C:Option Addr) (q qcap:Nat) (r:List Cl) (w:World)
    (hn:n=cs.length) (hn2:n≤100000) (hA:Lay w w.heap.size A (colV cs)) (hu:qKy cs) (hi:∀c∈cs,1≤c.1∧c.1≤1048576)
    (kn:n'=ds.length) (kn2:n'≤100000) (kA:Lay w w.heap.size A' (colV ds)) (kB:Lay w w.heap.size B' (intV ls)) (ki:∀c∈ds,1≤c.1∧c.1≤1048576)
    (hq:q=r.length) (hC:Lay w w.heap.size C (rowV r)) (hqn:n=q) :
    Calls Tryz.prog 40 #[.agg #[.slice A n cap,.slice B m capm],.agg #[.slice A' n' cap',.slice B' m' capm'],.slice C q qcap] w fun e w'=> ∃v,e=.returned v∧OwnC w' w.heap.size 57 v (qA1 cs ds r)∧Below w.heap.size w w':=by
 obtain⟨ic,ci,cz0,cz1,cz2⟩:=info_parts qFj
 have HN:=Lib.hid hn;have HA:=Lib.hid hA;have KN:=Lib.hid kn;have KA:=Lib.hid kA;have HQ:=Lib.hid hq;have HC:=Lib.hid hC;have HQN:=Lib.hid hqn
 clear hn hA hu hi kn kA kB ki hq hC hqn;obtain⟨X,hX⟩:∃X,X=(w.alloc (.cells #[.slice A n cap,.slice B m capm] 25)).alloc (.cells #[.slice A' n' cap',.slice B' m' capm'] 25):=⟨_,rfl⟩
 have tX:Bx2 (.cells #[.slice A n cap,.slice B m capm] 25 (0,0)) (.cells #[.slice A' n' cap',.slice B' m' capm'] 25 (0,0)) w X:=by rw[hX];exact Bx2.start _ _ _ _ w
 have T0:=Lib.hid tX;clear tX
 go_enter Tryz.func40,Tryz.ntmps40
 go_wp2_with fail
 rw[←hX];clear hX
 go_loopw [7,8] (fun v i wr=> ∃k:Nat,i=.int .i64 k∧k≤n'∧wr.ownsRow (w.heap.size+2) 57 3 v k (rowV (qA1 cs (ds.take k) r))∧Bx2 (.cells #[.slice A n cap,.slice B m capm] 25 (0,0)) (.cells #[.slice A' n' cap',.slice B' m' capm'] 25 (0,0)) w wr) (fun _ i _=>n'-(RowKit.intOf i).toNat)
 case atStart=>exact⟨0,rfl,by omega,World.ownsRow_nil _ _ _ _,T0.out⟩
 case round=>
  obtain⟨k,rfl,hk,hown,hb⟩:=hrel;obtain⟨A3,c3,rfl,hc3,hcm3⟩:=qAg hown;have y0:=cell_of_block (i:=0) hb.b1 rfl;have y1:=cell_of_block (i:=1) hb.b1 rfl
  by_cases hlk:k<n'
  · have hki:(k:Int)<n':=by omega
    obtain⟨⟨i1,s1,⟨k1,u1⟩,n1,m1,t1⟩,hc⟩:∃c,ds[k]?=some c:=⟨_,List.getElem?_eq_getElem (by rw[←KN.out];omega)⟩
    have htk:ds.take (k+1)=ds.take k++[((i1,s1,(k1,u1),n1,m1,t1):Co)]:=by rw[List.take_add_one,hc];rfl
    obtain⟨g',o',e',hg'⟩:=KA.out.colAt hc;subst e'
    have hpl:=fun (W:World) (hb:Below w.heap.size w W)=>qL8 W A B n cap m capm cs i1 (by unfold maxLen;omega) HN.out ((HA.out.below hb).more hb.size)
    rw[qQt] at hpl
    have GD:=Lib.hid (hg'.below hb.bel);have HTK:=Lib.hid htk;have OW:=Lib.hid hown;have TB:=Lib.hid hb
    clear hg' htk hown hb hc
    cases he:evAt cs i1 with
    |none=>
     rw[he] at hpl
     have hmv:=fun pre=>qR1 (r:=r) (pre:=pre) (d:=((i1,s1,(k1,u1),n1,m1,t1):Co)) he
     have HPL:=Lib.hid hpl;have HMV:=Lib.hid hmv
     clear hpl hmv he
     go_wp2_with fail
     refine qAh [isV (.agg #[.slice A n cap,.slice B m capm]),isV (.pointer (some ⟨w.heap.size+1,0,none⟩)),isV (.slice (some ⟨g',o',none⟩) n' cap'),isV (.int .i64 (k:Nat)),isV (.pointer (some ⟨g',o'+k*7,none⟩)),isV (.pointer (some ⟨g',o'+k*7,none⟩)),isV (.int .i64 i1),isV (.tuple #[.int .i64 0,.bool false]),isV (.tuple #[.int .i64 0,.bool false]),isV (.int .i64 0),isV (.bool false),isV (.int .i64 0),isV (.bool false)] (by kernel_rfl) (by kernel_rfl) ?_ ?_
     ·
       refine rf (fun ev wo E=>?_) ?_
       · have e3:ev (.tmp 3)=.pointer (some ⟨w.heap.size,0,none⟩):=(E.base 3 rfl).trans rfl;have hx0:=cell_of_block (i:=0) (qAb TB.out.b0 E.bel) rfl;have hx1:=cell_of_block (i:=1) (qAb TB.out.b0 E.bel) rfl;go_simp;exact rv
       refine rf (fun ev wo E=>?_) ?_
       · have e4:ev (.tmp 4)=.pointer (some ⟨w.heap.size+1,0,none⟩):=(E.base 4 rfl).trans rfl;go_simp;exact rv
       refine rf (fun ev wo E=>?_) ?_
       · have e20:ev (.tmp 20)=.pointer (some ⟨w.heap.size+1,0,none⟩):=E.e 0;have hx0:=cell_of_block (i:=0) (qAb TB.out.b1 E.bel) rfl;go_simp;exact rv
       refine Rel.rb ?_;refine rf (fun ev wo E=>?_) ?_
       · have e21:ev (.tmp 21)=.slice (some ⟨g',o',none⟩) n' cap':=E.e 0;have e22:ev (.tmp 22)=.int .i64 (k:Nat):=E.e 1;have h1:=hlk;have h3:=hki;go_simp;exact rv
       refine rf (fun ev wo E=>?_) ?_
       · have e23:ev (.tmp 23)=.pointer (some ⟨g',o'+k*7,none⟩):=E.e 0;go_simp;exact rv
       refine rf (fun ev wo E=>?_) ?_
       · have e24:ev (.tmp 24)=.pointer (some ⟨g',o'+k*7,none⟩):=E.e 0;have hx0:=(E.bel.mono TB.out.bel.size).cell GD.out.lt |>.trans GD.out.c0;go_simp;exact rv
       refine rf (fun ev wo E=>?_) ?_
       · have e19:ev (.tmp 19)=.agg #[.slice A n cap,.slice B m capm]:=E.e 0;have e25:ev (.tmp 25)=.int .i64 i1:=E.e 1;have ef:=E.func;have hbw:=TB.out.bel.trans (E.bel.mono TB.out.bel.size);go_simp;refine qAd ((HPL.out wo hbw).mono ?_);rintro e w' ⟨rfl,hb⟩;exact⟨_,rfl,hb,rfl⟩
       refine rc 0 ?_;refine rf (fun ev wo E=>?_) ?_
       · have e18:ev (.tmp 18)=.tuple #[.int .i64 0,.bool false]:=E.e 0;go_simp;exact rv
       refine rf (fun ev wo E=>?_) ?_
       · have e18:ev (.tmp 18)=.tuple #[.int .i64 0,.bool false]:=E.e 0;go_simp;exact rv
       refine⟨qBc 0 (qAw.free rfl) (.inr rfl) rfl rfl rfl rfl (qAr _),?_⟩;refine⟨qBc 0 (qAw.free rfl) (.inr rfl) rfl rfl rfl rfl (qAr _),?_⟩;trivial
     · intro wz bz
       (iterate 13 rintro _ rfl)
       have TZ:=Lib.hid (TB.out.step bz);have OZ:=Lib.hid (own_below OW.out bz);have GZ:=Lib.hid (GD.out.below (bz.mono TB.out.bel.size))
       clear bz;have j0:=GZ.out.c4;have j1:=GZ.out.c5;have j2:=GZ.out.c6
       have hone:∀u∈clV (n1,m1,t1),u.oneCell'=true:=fun u hu=>qFt [(n1,m1,t1)] u (by simpa[rowV] using hu)
       have HONE:=Lib.hid hone;have z0:=cell_of_block (i:=0) TZ.out.b1 rfl;have z1:=cell_of_block (i:=1) TZ.out.b1 rfl;clear hone y0 y1;simp only[qAq];go_simp;have hb8:=(Below.refl wz.heap.size wz).alloc (Nat.le_refl _) (.cells #[.bool n1,.int .i64 m1,.string t1] 57)
       have O5:=Lib.hid (own_below OZ.out hb8);have T5:=Lib.hid (TZ.out.step hb8);have HNW:=Lib.hid (qBo wz (clV (n1,m1,t1)) 57)
       have hz6:w.heap.size+2≤(wz.alloc (.cells #[.bool n1,.int .i64 m1,.string t1] 57)).heap.size:=T5.out.two;clear hb8
       go_wp2_with (at_builtin;refine qAk rfl (.tmp 37) (.tmp 44) _ rfl (w.heap.size+2) 57 ic _ 3 32 qB7 ci cz0 cz1 cz2 rfl (by omega) _ _ _ rfl O5.out _ (some ⟨wz.heap.size,0,none⟩) 1 1 (clV (n1,m1,t1)) rfl rfl HNW.out HONE.out (by unfold maxLen;omega) (by omega) hz6 ?_;intro v7 w7 hown7 hg7;have HO7:=Lib.hid hown7;have T7:=Lib.hid (T5.out.grown hg7 (fun k hk=>(World.ownsRow.lt O5.out k hk).1));clear hown7 hg7)
       go_roundw
       case rel=>
        refine⟨k+1,by go_num,by omega,?_,T7.out⟩;rw[HTK.out,HMV.out,qGt,show rowV [(n1,m1,t1)]=clV (n1,m1,t1) by simp[rowV]];exact HO7.out
       case measure=>simp[RowKit.intOf];omega
    |some p=>
     rw[he] at hpl;obtain⟨cp,hcp,-⟩:=qGi he
     have hpn:p<n:=by rw[HN.out];exact(List.getElem?_eq_some_iff.1 hcp).1
     obtain⟨⟨x0,x1,x2⟩,hx⟩:∃x,r[p]?=some x:=⟨_,List.getElem?_eq_getElem (by rw[←HQ.out,←HQN.out];exact hpn)⟩
     have hmv:=fun pre=>qSq (pre:=pre) (d:=((i1,s1,(k1,u1),n1,m1,t1):Co)) he hx
     obtain⟨gr,og,er,hgr,r0,r1,r2⟩:=HC.out.cl hx;subst er;have GR:=Lib.hid (qF2.mk hgr r0 r1 r2)
     have hpq:(p:Int)<q:=by have:=HQN.out;omega
     have hpq2:p<q:=by have:=HQN.out;omega
     have HPL:=Lib.hid hpl;have HMV:=Lib.hid hmv
     clear hpl hmv he hcp hx hgr r0 r1 r2
     go_wp2_with fail
     refine qAh [isV (.agg #[.slice A n cap,.slice B m capm]),isV (.pointer (some ⟨w.heap.size+1,0,none⟩)),isV (.slice (some ⟨g',o',none⟩) n' cap'),isV (.int .i64 (k:Nat)),isV (.pointer (some ⟨g',o'+k*7,none⟩)),isV (.pointer (some ⟨g',o'+k*7,none⟩)),isV (.int .i64 i1),isV (.tuple #[.int .i64 (p:Nat),.bool true]),isV (.tuple #[.int .i64 (p:Nat),.bool true]),isV (.int .i64 (p:Nat)),isV (.bool true),isV (.int .i64 (p:Nat)),isV (.bool true)] (by kernel_rfl) (by kernel_rfl) ?_ ?_
     ·
       refine rf (fun ev wo E=>?_) ?_
       · have e3:ev (.tmp 3)=.pointer (some ⟨w.heap.size,0,none⟩):=(E.base 3 rfl).trans rfl;have hx0:=cell_of_block (i:=0) (qAb TB.out.b0 E.bel) rfl;have hx1:=cell_of_block (i:=1) (qAb TB.out.b0 E.bel) rfl;go_simp;exact rv
       refine rf (fun ev wo E=>?_) ?_
       · have e4:ev (.tmp 4)=.pointer (some ⟨w.heap.size+1,0,none⟩):=(E.base 4 rfl).trans rfl;go_simp;exact rv
       refine rf (fun ev wo E=>?_) ?_
       · have e20:ev (.tmp 20)=.pointer (some ⟨w.heap.size+1,0,none⟩):=E.e 0;have hx0:=cell_of_block (i:=0) (qAb TB.out.b1 E.bel) rfl;go_simp;exact rv
       refine Rel.rb ?_;refine rf (fun ev wo E=>?_) ?_
       · have e21:ev (.tmp 21)=.slice (some ⟨g',o',none⟩) n' cap':=E.e 0;have e22:ev (.tmp 22)=.int .i64 (k:Nat):=E.e 1;have h1:=hlk;have h3:=hki;go_simp;exact rv
       refine rf (fun ev wo E=>?_) ?_
       · have e23:ev (.tmp 23)=.pointer (some ⟨g',o'+k*7,none⟩):=E.e 0;go_simp;exact rv
       refine rf (fun ev wo E=>?_) ?_
       · have e24:ev (.tmp 24)=.pointer (some ⟨g',o'+k*7,none⟩):=E.e 0;have hx0:=(E.bel.mono TB.out.bel.size).cell GD.out.lt |>.trans GD.out.c0;go_simp;exact rv
       refine rf (fun ev wo E=>?_) ?_
       · have e19:ev (.tmp 19)=.agg #[.slice A n cap,.slice B m capm]:=E.e 0;have e25:ev (.tmp 25)=.int .i64 i1:=E.e 1;have ef:=E.func;have hbw:=TB.out.bel.trans (E.bel.mono TB.out.bel.size);go_simp;refine qAd ((HPL.out wo hbw).mono ?_);rintro e w' ⟨rfl,hb⟩;exact⟨_,rfl,hb,rfl⟩
       refine rc 0 ?_;refine rf (fun ev wo E=>?_) ?_
       · have e18:ev (.tmp 18)=.tuple #[.int .i64 (p:Nat),.bool true]:=E.e 0;go_simp;exact rv
       refine rf (fun ev wo E=>?_) ?_
       · have e18:ev (.tmp 18)=.tuple #[.int .i64 (p:Nat),.bool true]:=E.e 0;go_simp;exact rv
       refine⟨qBc 0 (qAw.free rfl) (.inr rfl) rfl rfl rfl rfl (qAr _),?_⟩;refine⟨qBc 0 (qAw.free rfl) (.inr rfl) rfl rfl rfl rfl (qAr _),?_⟩;trivial
     · intro wz bz
       (iterate 13 rintro _ rfl)
       have TZ:=Lib.hid (TB.out.step bz);have OZ:=Lib.hid (own_below OW.out bz);have GZ:=Lib.hid (GD.out.below (bz.mono TB.out.bel.size))
       clear bz;have hgz:=GR.out.below TZ.out.bel;have j0:=hgz.c0;have j1:=hgz.c1;have j2:=hgz.c2
       have hone:∀u∈clV (x0,x1,x2),u.oneCell'=true:=fun u hu=>qFt [(x0,x1,x2)] u (by simpa[rowV] using hu)
       have HONE:=Lib.hid hone;clear hone hgz y0 y1;simp only[qAq];go_simp;have hb8:=(Below.refl wz.heap.size wz).alloc (Nat.le_refl _) (.cells #[.bool x0,.int .i64 x1,.string x2] 57)
       have O5:=Lib.hid (own_below OZ.out hb8);have T5:=Lib.hid (TZ.out.step hb8);have HNW:=Lib.hid (qBo wz (clV (x0,x1,x2)) 57)
       have hz6:w.heap.size+2≤(wz.alloc (.cells #[.bool x0,.int .i64 x1,.string x2] 57)).heap.size:=T5.out.two;clear hb8
       go_wp2_with (at_builtin;refine qAk rfl (.tmp 30) (.tmp 35) _ rfl (w.heap.size+2) 57 ic _ 3 32 qB7 ci cz0 cz1 cz2 rfl (by omega) _ _ _ rfl O5.out _ (some ⟨wz.heap.size,0,none⟩) 1 1 (clV (x0,x1,x2)) rfl rfl HNW.out HONE.out (by unfold maxLen;omega) (by omega) hz6 ?_;intro v7 w7 hown7 hg7;have HO7:=Lib.hid hown7;have T7:=Lib.hid (T5.out.grown hg7 (fun k hk=>(World.ownsRow.lt O5.out k hk).1));clear hown7 hg7)
       go_roundw
       case rel=>
        refine⟨k+1,by go_num,by omega,?_,T7.out⟩;rw[HTK.out,HMV.out,qGt,show rowV [(x0,x1,x2)]=clV (x0,x1,x2) by simp[rowV]];exact HO7.out
       case measure=>simp[RowKit.intOf];omega
  · have hki:¬(k:Int)<n':=by omega
    obtain rfl:k=n':=by omega
    have hall:ds.take k=ds:=List.take_of_length_le (by have:=KN.out;omega);rw[hall] at hown
    have hl:(qA1 cs ds r).length=k:=by rw[qGf];exact KN.out.symm
    have hfin:OwnC wr w.heap.size 57 (.slice A3 k c3) (qA1 cs ds r):=by unfold OwnC;rw[hl];exact qBp hown (by omega)
    have HF:=Lib.hid hfin;have TB:=Lib.hid hb
    clear hall hl hfin hown hb
    go_wp2_with fail
    go_ret
    exact⟨_,rfl,HF.out,TB.out.bel⟩
end Go.Proofs.YtikpmmipopmjaaaGreatDoor
namespace Go.Ms
end Go.Ms
namespace Go.Proofs.YtikpmmipopmjaaaGreatDoor
open Go.RowKit Go.Ms Go.Lib
end Go.Proofs.YtikpmmipopmjaaaGreatDoor
namespace Go.Ms
def CsOk (cs:List Cl):Prop:= ∀c∈cs,c.2.2.size≤1200∧ -9223372036854775808≤c.2.1∧c.2.1≤9223372036854775807
end Go.Ms
namespace Go.Proofs.YtikpmmipopmjaaaGreatDoor
open Go.RowKit Go.Ms Go.Lib
set_option maxRecDepth 100000 in
set_option maxHeartbeats 1000000 in
theorem qH4 (w:World) (A B:Option Addr) (n cap m capm:Nat) (ts:List Ty) (xs:List Value) (cs:List Cl) (hok:CsOk cs) (hn':n≤maxLen) (hm':m≤maxLen) (hn:n=ts.length) (hm:m=cs.length) (hC:Cols w w.heap.size A ts xs) (hL:Lay w w.heap.size B (rowV cs)) :
    Calls Tryz.prog 39 #[.slice A n cap,.slice B m capm] w fun e w'=>e=.returned (.int .i64 (qBx ts cs))∧Below w.heap.size w w':=by
 unfold maxLen at hn' hm'
 by_cases hnm:n=m
 · have hr:qBx ts cs=qCk ts cs:=by unfold qBx;rw[if_pos (by omega)]
   rw[hr];subst hnm
   have HC:=Lib.hid hC;have HL:=Lib.hid hL;have HN:=Lib.hid hn;have HM:=Lib.hid hm;have HO:=Lib.hid hok
   clear hC hL hn hm hok hr
   go_enter Tryz.func39,Tryz.ntmps39
   go_wp2_with fail
   go_loopw [5] (fun id wr=> ∃k:Nat,k≤n∧id=.int .i64 k∧Below w.heap.size w wr∧qCk ts cs=qCk (ts.drop k) (cs.drop k)) (fun id _=>n-(RowKit.intOf id).toNat)
   case atStart=>exact⟨0,by omega,rfl,Below.refl _ _,rfl⟩
   case round=>
    obtain⟨k,hk,rfl,hb,hr⟩:=hrel;have HR:=Lib.hid hr;clear hr
    by_cases hlk:k<n
    · have hki:(k:Int)<n:=by omega
      obtain⟨t,ht⟩:∃c,ts[k]?=some c:=⟨_,List.getElem?_eq_getElem (by rw[←HN.out];omega)⟩;obtain⟨c,hc⟩:∃c,cs[k]?=some c:=⟨_,List.getElem?_eq_getElem (by rw[←HM.out];omega)⟩;obtain⟨g,o,rfl,hg,h1,h2⟩:=HC.out.ty ht;obtain⟨g',o',rfl,hg',h4,h5,h6⟩:=HL.out.cl hc;have hdr:=qIz ht hc;obtain⟨z1,z2,z3⟩:=HO.out c (List.mem_of_getElem? hc);obtain⟨u,nn,S⟩:=c;obtain⟨tk,tn⟩:=t;simp only at h1 h2 h4 h5 h6 z1 z2 z3
      have hD:(wr.drew.cell? ⟨g,o+k*7+2,none⟩=some (.int .i64 tk)∧wr.drew.cell? ⟨g,o+k*7+2+1,none⟩=some (.bool tn)∧wr.drew.cell? ⟨g',o'+k*3,none⟩=some (.bool u)∧wr.drew.cell? ⟨g',o'+k*3+1,none⟩=some (.int .i64 nn)∧wr.drew.cell? ⟨g',o'+k*3+2,none⟩=some (.string S))∧Below w.heap.size w wr.drew:=
        ⟨⟨(hb.cell hg).trans h1,(hb.cell hg).trans h2,(hb.cell hg').trans h4,(hb.cell hg').trans h5,(hb.cell hg').trans h6⟩,qAc hb 1⟩
      have hcall:∀w',Calls Tryz.prog 73 #[.agg #[.int .i64 tk,.bool tn],.agg #[.bool u,.int .i64 nn,.string S]] w' fun e w''=>e=.returned (.int .i64 (qCc (tk,tn) (u,nn,S)))∧Below w'.heap.size w' w'':=fun w'=>qE8 tk tn u nn S w' (by omega) z2 z3
      have fin:∀wf,((wf.cell? ⟨g,o+k*7+2,none⟩=some (.int .i64 tk)∧wf.cell? ⟨g,o+k*7+2+1,none⟩=some (.bool tn)∧wf.cell? ⟨g',o'+k*3,none⟩=some (.bool u)∧wf.cell? ⟨g',o'+k*3+1,none⟩=some (.int .i64 nn)∧wf.cell? ⟨g',o'+k*3+2,none⟩=some (.string S))∧Below w.heap.size w wf)→Below w.heap.size w wf:=fun _ h=>h.2
      have HD:=Lib.hid hD;have HP:=Lib.hid hcall;have HX:=Lib.hid hdr;have FIN:=Lib.hid fin
      clear hD hcall hdr hc ht h1 h2 h4 h5 h6 hb fin z2 z3
      generalize qCc (tk,tn) (u,nn,S)=C at *
      by_cases hz0:C=0
      · subst hz0
        go_wp2_with fail
        go_region_held3 (fun w'=>(w'.cell? ⟨g,o+k*7+2,none⟩=some (.int .i64 tk)∧w'.cell? ⟨g,o+k*7+2+1,none⟩=some (.bool tn)∧w'.cell? ⟨g',o'+k*3,none⟩=some (.bool u)∧w'.cell? ⟨g',o'+k*3+1,none⟩=some (.int .i64 nn)∧w'.cell? ⟨g',o'+k*3+2,none⟩=some (.string S))∧Below w.heap.size w w')
        (first
          |exact HD.out
          |exact qQ4 HD.out bb
          |exact qQ4 (by assumption) bb
          |(go_keep;done))
        (((with_reducible refine(HP.out _).mono ?_);rintro en w5 ⟨rfl,bb⟩))
        all_goals
         have HB5:=Lib.hid (FIN.out _ (by assumption))
         go_wp2_with fail
         go_roundw
         case rel=>exact⟨k+1,by omega,by go_num,HB5.out,by rw[HR.out,HX.out];simp⟩
         case measure=>simp[RowKit.intOf];omega
      · have hz1:(C != 0)=true:=by simpa using hz0
        have HZ1:=Lib.hid hz0;clear hz0
        go_wp2_with fail
        go_region_held3 (fun w'=>(w'.cell? ⟨g,o+k*7+2,none⟩=some (.int .i64 tk)∧w'.cell? ⟨g,o+k*7+2+1,none⟩=some (.bool tn)∧w'.cell? ⟨g',o'+k*3,none⟩=some (.bool u)∧w'.cell? ⟨g',o'+k*3+1,none⟩=some (.int .i64 nn)∧w'.cell? ⟨g',o'+k*3+2,none⟩=some (.string S))∧Below w.heap.size w w')
        (first
          |exact HD.out
          |exact qQ4 HD.out bb
          |exact qQ4 (by assumption) bb
          |(go_keep;done))
        (((with_reducible refine(HP.out _).mono ?_);rintro en w5 ⟨rfl,bb⟩))
        all_goals
         have HB5:=Lib.hid (FIN.out _ (by assumption))
         go_wp2_with fail
         go_ret
         exact⟨by rw[HR.out,HX.out,if_neg HZ1.out];rfl,HB5.out⟩
    · have hki:¬(k:Int)<n:=by omega
      have hkn:k=n:=by omega
      have h0:qCk ts cs=0:=by
       rw[HR.out,hkn,HM.out,List.drop_length]
       cases List.drop cs.length ts <;> rfl
      have H0:=Lib.hid h0;have HB:=Lib.hid hb;clear h0 hb hkn
      go_wp2_with fail
      go_ret
      exact⟨by rw[H0.out];rfl,HB.out⟩
 · have hr:qBx ts cs=100:=by unfold qBx;rw[if_neg (by omega)]
   rw[hr]
   have hne:((m:Int) != n)=true:=by simp;omega
   have hne2:(m != n)=true:=by simp;omega
   clear hr hm hn hnm hC hL hok
   go_enter Tryz.func39,Tryz.ntmps39
   go_wp2_with fail
   go_ret
   exact⟨rfl,Below.refl _ _⟩
end Go.Proofs.YtikpmmipopmjaaaGreatDoor
set_option linter.unusedSimpArgs false
namespace Go.Proofs.YtikpmmipopmjaaaGreatDoor
open Go.RowKit Go.Ms Go.Lib Go.Shelf Go.Rel
set_option maxRecDepth 100000 in
set_option maxHeartbeats 4000000 in
theorem qUz (ra rb:SRef) (s t:Sc) (C:Option Addr) (q qcap:Nat) (r:List Cl) (w:World) (ha:qBf w w.heap.size ra s) (hb:qBf w w.heap.size rb t) (hz:ScR s.1) (kz:ScR t.1) (hr:qJg w C q r) (hok:CsOk r) :
    Calls Tryz.prog 16 #[.agg #[.slice ra.a ra.n ra.c,.slice ra.b ra.m ra.d],.agg #[.slice rb.a rb.n rb.c,.slice rb.b rb.m rb.d],.slice C q qcap] w (qE6 w (qEb s t r).1 (qEb s t r).2):=by
 obtain⟨X,hX⟩:∃X,X=(w.alloc (.cells #[.slice ra.a ra.n ra.c,.slice ra.b ra.m ra.d] 25)).alloc (.cells #[.slice rb.a rb.n rb.c,.slice rb.b rb.m rb.d] 25):=⟨_,rfl⟩
 have tX:qIl 25 #[.slice ra.a ra.n ra.c,.slice ra.b ra.m ra.d] #[.slice rb.a rb.n rb.c,.slice rb.b rb.m rb.d] w X:=by rw[hX];exact qIl.start _ _ _ w
 have a1:=ha.to tX.bel;have b1:=hb.to tX.bel;have h1:=qO3 ra.a ra.b ra.n ra.c ra.m ra.d s.1 s.2 rb.a rb.b rb.n rb.c rb.m rb.d t.1 t.2 X a1.n a1.m a1.nn a1.mm a1.la a1.lb hz b1.n b1.m b1.nn b1.mm b1.la b1.lb kz
 have h2:=fun (W:World) (hb:Below w.heap.size w W)=>qH4 W ra.a C ra.n ra.c q qcap (qC0 s.1) (colV s.1) r hok (by have:=ha.nn;unfold maxLen;omega) (by have:=hr.qq;unfold maxLen;omega) (by rw[qC9];exact ha.n) hr.ql (ha.to hb).la.cols (hr.to hb).lay
 have H1:=Lib.hid h1;have H2:=Lib.hid h2;have T0:=Lib.hid tX;have HA:=Lib.hid ha;have HB:=Lib.hid hb;have HR:=Lib.hid hr
 clear h1 h2 tX ha hb hr hz kz hok a1 b1
 by_cases hs:qBh s t=0
 · obtain⟨ks1,ks2,-⟩:=qLz hs;obtain⟨iu,ii⟩:=qIy ks1;obtain⟨-,ji⟩:=qIy ks2;have hs':qBh (s.1,s.2) (t.1,t.2)=0:=hs;rw[hs'] at H1;clear hs' ks1 ks2
   by_cases hc:qBx (qC0 s.1) r=0
   · have hlen:=(qE0 hc).1;rw[qC9] at hlen
     have hm:=fun (W:World) (hb:Below w.heap.size w W)=>qMe ra.a ra.b ra.n ra.c ra.m ra.d s.1 s.2 rb.a rb.b rb.n rb.c rb.m rb.d t.1 t.2 C q qcap r W HA.out.n HA.out.nn (HA.out.to hb).la iu ii HB.out.n HB.out.nn (HB.out.to hb).la (HB.out.to hb).lb ji HR.out.ql (HR.out.to hb).lay (by rw[HA.out.n,HR.out.ql];exact hlen)
     have he:=qMm hs hc;rw[he];rw[hc] at H2;have HM:=Lib.hid hm;clear hm he hs hc iu ii ji hlen
     go_enter Tryz.func16,Tryz.ntmps16
     go_wp2_with fail
     rw[←hX];clear hX;refine H1.out.mono ?_;rintro en w1 ⟨rfl,b1⟩;have T1:=Lib.hid (T0.out.step b1);have y0:=cell_of_block (i:=0) T1.out.b0 rfl;clear b1
     go_wp2_with fail
     refine(H2.out _ T1.out.bel).mono ?_;rintro en w2 ⟨rfl,b2⟩;have T2:=Lib.hid (T1.out.step b2);have y1:=cell_of_block (i:=0) T2.out.b0 rfl;have y2:=cell_of_block (i:=1) T2.out.b0 rfl;have y3:=cell_of_block (i:=0) T2.out.b1 rfl;have y4:=cell_of_block (i:=1) T2.out.b1 rfl;clear b2 y0
     go_wp2_with fail
     refine(HM.out _ T2.out.bel).mono ?_;rintro en w3 ⟨v,rfl,ho,b3⟩
     have HO:=Lib.hid (qBp ho T2.out.bel.size);have B3:=Lib.hid (T2.out.bel.trans (b3.mono T2.out.bel.size))
     clear b3 ho y1 y2 y3 y4
     go_wp2_with fail
     go_ret2
     exact⟨_,rfl,HO.out,B3.out⟩
   · have he:=qMk hs hc;rw[he];clear he hs iu ii ji
     generalize qBx (qC0 s.1) r=Z at H2 hc ⊢
     have hcz:(Z != 0)=true:=by simpa using hc
     go_enter Tryz.func16,Tryz.ntmps16
     go_wp2_with fail
     rw[←hX];clear hX;refine H1.out.mono ?_;rintro en w1 ⟨rfl,b1⟩;have T1:=Lib.hid (T0.out.step b1);have y0:=cell_of_block (i:=0) T1.out.b0 rfl;clear b1
     go_wp2_with fail
     refine(H2.out _ T1.out.bel).mono ?_;rintro en w2 ⟨rfl,b2⟩;have B2:=Lib.hid (T1.out.step b2).bel;clear b2 y0
     go_wp2_with fail
     go_ret2
     exact⟨_,rfl,World.ownsRow_nil _ _ _ _,B2.out⟩
 · have he:=qOq (r:=r) hs;rw[he];have hs':¬qBh (s.1,s.2) (t.1,t.2)=0:=hs;clear he hs
   show Calls _ _ _ w (qE6 w [] (qBh (s.1,s.2) (t.1,t.2)))
   generalize qBh (s.1,s.2) (t.1,t.2)=Z at H1 hs' ⊢
   have hcz:(Z != 0)=true:=by simpa using hs'
   go_enter Tryz.func16,Tryz.ntmps16
   go_wp2_with fail
   rw[←hX];clear hX;refine H1.out.mono ?_;rintro en w1 ⟨rfl,b1⟩;have B1:=Lib.hid (T0.out.step b1).bel;clear b1
   go_wp2_with fail
   go_ret2
   exact⟨_,rfl,World.ownsRow_nil _ _ _ _,B1.out⟩
end Go.Proofs.YtikpmmipopmjaaaGreatDoor
