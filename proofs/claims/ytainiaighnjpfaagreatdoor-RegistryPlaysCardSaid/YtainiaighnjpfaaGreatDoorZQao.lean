/- The reference of evolve: a row of one schema as one of another one. Rows: how two stand. Rows: what the reference checks, compares and picks. The reference of evolve: a row moved on by one step. The reference: a row in memory of its own. The reference of evolve: a row carried along a chain. -/
import Derived.Test.YtainiaighnjpfaaGreatDoorZQan
set_option maxHeartbeats 4000000
set_option maxRecDepth 100000
set_option linter.unusedVariables false
set_option linter.unusedSimpArgs false
namespace Go.Ms
open Go.RowKit Go.Lib
theorem Bx2.grown {o0 o1:Obj} {w W W':World} (h:Bx2 o0 o1 w W) {row:Option Nat} (hg:W.grownBy W' row) (hr:∀r,row=some r→w.heap.size+2≤r):Bx2 o0 o1 w W':=by
 have hne:∀k:Nat,k<w.heap.size+2→some k≠row:=fun k hk e=>by have:=hr k e.symm;omega
 have go:∀{k:Nat} {o:Obj},k<w.heap.size+2→W.heap[k]?=some o→W'.heap[k]?=some o:=fun hk ho=>(hg.block _ (Array.getElem?_eq_some_iff.1 ho).1 (hne _ hk)).trans ho
 exact⟨go (by omega) h.b0,go (by omega) h.b1,h.bel.grown hg h.bel.size (fun k e=>by have:=hr k e;omega)⟩
theorem Bx2.two {o0 o1:Obj} {w W:World} (h:Bx2 o0 o1 w W):w.heap.size+2≤W.heap.size:=by
 have:=(Array.getElem?_eq_some_iff.1 h.b1).1;omega
theorem qQ7 {a:List Co} {r:List Cl} {pre:List Co} {d:Co} {p:Nat} {x:Cl} (h:evAt a d.1=some p) (hx:r[p]?=some x):qA2 a (pre++[d]) r=qA2 a pre r++[x]:=by
 rw[qHq,h];simp[List.getD_eq_getElem?_getD,hx]
theorem qRv {a:List Co} {r:List Cl} {pre:List Co} {d:Co} (h:evAt a d.1=none):qA2 a (pre++[d]) r=qA2 a pre r++[d.2.2.2]:=by
 rw[qHq,h]
end Go.Ms
namespace Go.Proofs.YtainiaighnjpfaaGreatDoor
open Go.RowKit Go.Ms Go.Lib Go.Rel
theorem qQ2 (A B:Option Addr) (n cap m capm:Nat) (cs:List Co) (ks:List Int) (A' B':Option Addr) (n' cap' m' capm':Nat) (ds:List Co) (ls:List Int) (C:Option Addr) (q qcap:Nat) (r:List Cl) (w:World)
    (hn:n=cs.length) (hn2:n≤100000) (hA:Lay w w.heap.size A (colV cs)) (hu:qOs cs) (hi:∀c∈cs,1≤c.1∧c.1≤1048576)
    (kn:n'=ds.length) (kn2:n'≤100000) (kA:Lay w w.heap.size A' (colV ds)) (kB:Lay w w.heap.size B' (intV ls)) (ki:∀c∈ds,1≤c.1∧c.1≤1048576)
    (hq:q=r.length) (hC:Lay w w.heap.size C (rowV r)) (hqn:n=q) :
    Calls Tryz.prog 98 #[.agg #[.slice A n cap,.slice B m capm],.agg #[.slice A' n' cap',.slice B' m' capm'],.slice C q qcap] w fun e w'=> ∃v,e=.returned v∧OwnC w' w.heap.size 43 v (qA2 cs ds r)∧Below w.heap.size w w':=by
 obtain⟨ic,ci,cz0,cz1,cz2⟩:=info_parts qG2;have HN:=hh_ hn;have HA:=hh_ hA;have KN:=hh_ kn;have KA:=hh_ kA;have HQ:=hh_ hq;have HC:=hh_ hC;have HQN:=hh_ hqn;clear hn hA hu hi kn kA kB ki hq hC hqn;obtain⟨X,hX⟩:∃X,X=(w.alloc (.cells #[.slice A n cap,.slice B m capm] 33)).alloc (.cells #[.slice A' n' cap',.slice B' m' capm'] 33):=⟨_,rfl⟩;have tX:Bx2 (.cells #[.slice A n cap,.slice B m capm] 33 (0,0)) (.cells #[.slice A' n' cap',.slice B' m' capm'] 33 (0,0)) w X:=by rw[hX];exact Bx2.start _ _ _ _ w
 have T0:=hh_ tX;clear tX;go_enter Tryz.func98,Tryz.ntmps98;go_wp2_with fail
 rw[←hX];clear hX;go_loopw [7,8] (fun v i wr=> ∃k:Nat,i=.int .i64 k∧k≤n'∧wr.ownsRow (w.heap.size+2) 43 3 v k (rowV (qA2 cs (ds.take k) r))∧Bx2 (.cells #[.slice A n cap,.slice B m capm] 33 (0,0)) (.cells #[.slice A' n' cap',.slice B' m' capm'] 33 (0,0)) w wr) (fun _ i _=>n'-(RowKit.intOf i).toNat)
 case atStart=>exact⟨0,rfl,by omega,World.ownsRow_nil _ _ _ _,T0.out⟩
 case round=>
  obtain⟨k,rfl,hk,hown,hb⟩:=hrel;obtain⟨A3,c3,rfl,hc3,hcm3⟩:=qAf hown;have y0:=cb_ 0 hb.b1 rfl;have y1:=cb_ 1 hb.b1 rfl;by_cases hlk:k<n'
  · have hki:(k:Int)<n':=by omega
    obtain⟨⟨i1,s1,⟨k1,u1⟩,n1,m1,t1⟩,hc⟩:∃c,ds[k]?=some c:=⟨_,List.getElem?_eq_getElem (by rw[←KN.out];omega)⟩;have htk:ds.take (k+1)=ds.take k++[((i1,s1,(k1,u1),n1,m1,t1):Co)]:=by rw[List.take_add_one,hc];rfl
    obtain⟨g',o',e',hg'⟩:=KA.out.colAt hc;subst e';have hpl:=fun (W:World) (hb:Below w.heap.size w W)=>qKy W A B n cap m capm cs i1 ml_ HN.out ((HA.out.below hb).more hb.size)
    rw[qP8] at hpl;have GD:=hh_ (hg'.below hb.bel);have HTK:=hh_ htk;have OW:=hh_ hown;have TB:=hh_ hb;clear hg' htk hown hb hc
    cases he:evAt cs i1 with
    |none=>
     rw[he] at hpl;have hmv:=fun pre=>qRv (r:=r) (pre:=pre) (d:=((i1,s1,(k1,u1),n1,m1,t1):Co)) he
     have HPL:=hh_ hpl;have HMV:=hh_ hmv;clear hpl hmv he;go_wp2_with fail
     refine qAe [isV (.agg #[.slice A n cap,.slice B m capm]),isV (.pointer (some ⟨w.heap.size+1,0,none⟩)),isV (.slice (some ⟨g',o',none⟩) n' cap'),isV (.int .i64 (k:Nat)),isV (.pointer (some ⟨g',o'+k*7,none⟩)),isV (.pointer (some ⟨g',o'+k*7,none⟩)),isV (.int .i64 i1),isV (.tuple #[.int .i64 0,.bool false]),isV (.tuple #[.int .i64 0,.bool false]),isV (.int .i64 0),iF,isV (.int .i64 0),iF] (by kernel_rfl) (by kernel_rfl) ?_ ?_
     ·
       refine rf (fun ev wo E=>?_) ?_
       · have e3:ev (.tmp 3)=.pointer (some ⟨w.heap.size,0,none⟩):=(E.base 3 rfl).trans rfl;have hx0:=cb_ 0 (bk_ TB.out.b0 E.bel) rfl;have hx1:=cb_ 1 (bk_ TB.out.b0 E.bel) rfl;go_simp;exact rv
       refine rf (fun ev wo E=>?_) ?_
       · have e4:ev (.tmp 4)=.pointer (some ⟨w.heap.size+1,0,none⟩):=(E.base 4 rfl).trans rfl;go_simp;exact rv
       refine rf (fun ev wo E=>?_) ?_
       · have e20:ev (.tmp 20)=.pointer (some ⟨w.heap.size+1,0,none⟩):=E.e 0;have hx0:=cb_ 0 (bk_ TB.out.b1 E.bel) rfl;go_simp;exact rv
       refine Rel.rb ?_;refine rf (fun ev wo E=>?_) ?_
       · have e21:ev (.tmp 21)=.slice (some ⟨g',o',none⟩) n' cap':=E.e 0;have e22:ev (.tmp 22)=.int .i64 (k:Nat):=E.e 1;have h1:=hlk;have h3:=hki;go_simp;exact rv
       refine rf (fun ev wo E=>?_) ?_
       · have e23:ev (.tmp 23)=.pointer (some ⟨g',o'+k*7,none⟩):=E.e 0;go_simp;exact rv
       refine rf (fun ev wo E=>?_) ?_
       · have e24:ev (.tmp 24)=.pointer (some ⟨g',o'+k*7,none⟩):=E.e 0;have hx0:=(E.bel.mono TB.out.bel.size).cell GD.out.lt |>.trans GD.out.c0;go_simp;exact rv
       refine rf (fun ev wo E=>?_) ?_
       · have e19:ev (.tmp 19)=.agg #[.slice A n cap,.slice B m capm]:=E.e 0;have e25:ev (.tmp 25)=.int .i64 i1:=E.e 1;have ef:=E.func;have hbw:=TB.out.bel.trans (E.bel.mono TB.out.bel.size);go_simp;refine qAb ((HPL.out wo hbw).mono ?_);rintro e w' ⟨rfl,hb⟩;exact⟨_,rfl,hb,rfl⟩
       refine rc 0 ?_;refine rf (fun ev wo E=>?_) ?_
       · have e18:ev (.tmp 18)=.tuple #[.int .i64 0,.bool false]:=E.e 0;go_simp;exact rv
       refine rf (fun ev wo E=>?_) ?_
       · have e18:ev (.tmp 18)=.tuple #[.int .i64 0,.bool false]:=E.e 0;go_simp;exact rv
       refine⟨qA7 0 (qA5.free rfl) (.inr rfl) rfl rfl rfl rfl (qAr _),?_⟩;refine⟨qA7 0 (qA5.free rfl) (.inr rfl) rfl rfl rfl rfl (qAr _),?_⟩;trivial
     · intro wz bz
       (iterate 13 rintro _ rfl)
       have TZ:=hh_ (TB.out.step bz);have OZ:=hh_ (own_below OW.out bz);have GZ:=hh_ (GD.out.below (bz.mono TB.out.bel.size));clear bz;have j0:=GZ.out.c4;have j1:=GZ.out.c5;have j2:=GZ.out.c6;have hone:∀u∈clV (n1,m1,t1),u.oneCell'=true:=fun u hu=>qFw [(n1,m1,t1)] u (by simpa[rowV] using hu)
       have HONE:=hh_ hone;have z0:=cb_ 0 TZ.out.b1 rfl;have z1:=cb_ 1 TZ.out.b1 rfl;clear hone y0 y1;simp only[qAq];go_simp;have hb8:=(Below.refl wz.heap.size wz).alloc le_ (.cells #[.bool n1,.int .i64 m1,.string t1] 43);have O5:=hh_ (own_below OZ.out hb8);have T5:=hh_ (TZ.out.step hb8);have HNW:=hh_ (qBs wz (clV (n1,m1,t1)) 43);have hz6:w.heap.size+2≤(wz.alloc (.cells #[.bool n1,.int .i64 m1,.string t1] 43)).heap.size:=T5.out.two;clear hb8;go_wp2_with (at_builtin;refine qAi rfl (.tmp 37) (.tmp 44) _ rfl (w.heap.size+2) 43 ic _ 3 32 qB7 ci cz0 cz1 cz2 rfl (by omega) _ _ _ rfl O5.out _ (some ⟨wz.heap.size,0,none⟩) 1 1 (clV (n1,m1,t1)) rfl rfl HNW.out HONE.out ml_ (by omega) hz6 ?_;intro v7 w7 hown7 hg7;have HO7:=hh_ hown7;have T7:=hh_ (T5.out.grown hg7 (fun k hk=>(World.ownsRow.lt O5.out k hk).1));clear hown7 hg7)
       go_roundw
       case rel=>
        refine⟨k+1,by go_num,by omega,?_,T7.out⟩;rw[HTK.out,HMV.out,qIq,show rowV [(n1,m1,t1)]=clV (n1,m1,t1) by simp[rowV]];exact HO7.out
       case measure=>simp[RowKit.intOf];omega
    |some p=>
     rw[he] at hpl;obtain⟨cp,hcp,-⟩:=qHm he;have hpn:p<n:=by rw[HN.out];exact(List.getElem?_eq_some_iff.1 hcp).1
     obtain⟨⟨x0,x1,x2⟩,hx⟩:∃x,r[p]?=some x:=⟨_,List.getElem?_eq_getElem (by rw[←HQ.out,←HQN.out];exact hpn)⟩;have hmv:=fun pre=>qQ7 (pre:=pre) (d:=((i1,s1,(k1,u1),n1,m1,t1):Co)) he hx
     obtain⟨gr,og,er,hgr,r0,r1,r2⟩:=HC.out.cl hx;subst er;have GR:=hh_ (qFg.mk hgr r0 r1 r2);have hpq:(p:Int)<q:=by have:=HQN.out;omega
     have hpq2:p<q:=by have:=HQN.out;omega
     have HPL:=hh_ hpl;have HMV:=hh_ hmv;clear hpl hmv he hcp hx hgr r0 r1 r2;go_wp2_with fail
     refine qAe [isV (.agg #[.slice A n cap,.slice B m capm]),isV (.pointer (some ⟨w.heap.size+1,0,none⟩)),isV (.slice (some ⟨g',o',none⟩) n' cap'),isV (.int .i64 (k:Nat)),isV (.pointer (some ⟨g',o'+k*7,none⟩)),isV (.pointer (some ⟨g',o'+k*7,none⟩)),isV (.int .i64 i1),isV (.tuple #[.int .i64 (p:Nat),.bool true]),isV (.tuple #[.int .i64 (p:Nat),.bool true]),isV (.int .i64 (p:Nat)),iT,isV (.int .i64 (p:Nat)),iT] (by kernel_rfl) (by kernel_rfl) ?_ ?_
     ·
       refine rf (fun ev wo E=>?_) ?_
       · have e3:ev (.tmp 3)=.pointer (some ⟨w.heap.size,0,none⟩):=(E.base 3 rfl).trans rfl;have hx0:=cb_ 0 (bk_ TB.out.b0 E.bel) rfl;have hx1:=cb_ 1 (bk_ TB.out.b0 E.bel) rfl;go_simp;exact rv
       refine rf (fun ev wo E=>?_) ?_
       · have e4:ev (.tmp 4)=.pointer (some ⟨w.heap.size+1,0,none⟩):=(E.base 4 rfl).trans rfl;go_simp;exact rv
       refine rf (fun ev wo E=>?_) ?_
       · have e20:ev (.tmp 20)=.pointer (some ⟨w.heap.size+1,0,none⟩):=E.e 0;have hx0:=cb_ 0 (bk_ TB.out.b1 E.bel) rfl;go_simp;exact rv
       refine Rel.rb ?_;refine rf (fun ev wo E=>?_) ?_
       · have e21:ev (.tmp 21)=.slice (some ⟨g',o',none⟩) n' cap':=E.e 0;have e22:ev (.tmp 22)=.int .i64 (k:Nat):=E.e 1;have h1:=hlk;have h3:=hki;go_simp;exact rv
       refine rf (fun ev wo E=>?_) ?_
       · have e23:ev (.tmp 23)=.pointer (some ⟨g',o'+k*7,none⟩):=E.e 0;go_simp;exact rv
       refine rf (fun ev wo E=>?_) ?_
       · have e24:ev (.tmp 24)=.pointer (some ⟨g',o'+k*7,none⟩):=E.e 0;have hx0:=(E.bel.mono TB.out.bel.size).cell GD.out.lt |>.trans GD.out.c0;go_simp;exact rv
       refine rf (fun ev wo E=>?_) ?_
       · have e19:ev (.tmp 19)=.agg #[.slice A n cap,.slice B m capm]:=E.e 0;have e25:ev (.tmp 25)=.int .i64 i1:=E.e 1;have ef:=E.func;have hbw:=TB.out.bel.trans (E.bel.mono TB.out.bel.size);go_simp;refine qAb ((HPL.out wo hbw).mono ?_);rintro e w' ⟨rfl,hb⟩;exact⟨_,rfl,hb,rfl⟩
       refine rc 0 ?_;refine rf (fun ev wo E=>?_) ?_
       · have e18:ev (.tmp 18)=.tuple #[.int .i64 (p:Nat),.bool true]:=E.e 0;go_simp;exact rv
       refine rf (fun ev wo E=>?_) ?_
       · have e18:ev (.tmp 18)=.tuple #[.int .i64 (p:Nat),.bool true]:=E.e 0;go_simp;exact rv
       refine⟨qA7 0 (qA5.free rfl) (.inr rfl) rfl rfl rfl rfl (qAr _),?_⟩;refine⟨qA7 0 (qA5.free rfl) (.inr rfl) rfl rfl rfl rfl (qAr _),?_⟩;trivial
     · intro wz bz
       (iterate 13 rintro _ rfl)
       have TZ:=hh_ (TB.out.step bz);have OZ:=hh_ (own_below OW.out bz);have GZ:=hh_ (GD.out.below (bz.mono TB.out.bel.size));clear bz;have hgz:=GR.out.below TZ.out.bel;have j0:=hgz.c0;have j1:=hgz.c1;have j2:=hgz.c2;have hone:∀u∈clV (x0,x1,x2),u.oneCell'=true:=fun u hu=>qFw [(x0,x1,x2)] u (by simpa[rowV] using hu)
       have HONE:=hh_ hone;clear hone hgz y0 y1;simp only[qAq];go_simp;have hb8:=(Below.refl wz.heap.size wz).alloc le_ (.cells #[.bool x0,.int .i64 x1,.string x2] 43);have O5:=hh_ (own_below OZ.out hb8);have T5:=hh_ (TZ.out.step hb8);have HNW:=hh_ (qBs wz (clV (x0,x1,x2)) 43);have hz6:w.heap.size+2≤(wz.alloc (.cells #[.bool x0,.int .i64 x1,.string x2] 43)).heap.size:=T5.out.two;clear hb8;go_wp2_with (at_builtin;refine qAi rfl (.tmp 30) (.tmp 35) _ rfl (w.heap.size+2) 43 ic _ 3 32 qB7 ci cz0 cz1 cz2 rfl (by omega) _ _ _ rfl O5.out _ (some ⟨wz.heap.size,0,none⟩) 1 1 (clV (x0,x1,x2)) rfl rfl HNW.out HONE.out ml_ (by omega) hz6 ?_;intro v7 w7 hown7 hg7;have HO7:=hh_ hown7;have T7:=hh_ (T5.out.grown hg7 (fun k hk=>(World.ownsRow.lt O5.out k hk).1));clear hown7 hg7)
       go_roundw
       case rel=>
        refine⟨k+1,by go_num,by omega,?_,T7.out⟩;rw[HTK.out,HMV.out,qIq,show rowV [(x0,x1,x2)]=clV (x0,x1,x2) by simp[rowV]];exact HO7.out
       case measure=>simp[RowKit.intOf];omega
  · have hki:¬(k:Int)<n':=by omega
    obtain rfl:k=n':=by omega
    have hall:ds.take k=ds:=List.take_of_length_le (by have:=KN.out;omega);rw[hall] at hown;have hl:(qA2 cs ds r).length=k:=by rw[qI3];exact KN.out.symm
    have hfin:OwnC wr w.heap.size 43 (.slice A3 k c3) (qA2 cs ds r):=by unfold OwnC;rw[hl];exact qAv hown (by omega)
    have HF:=hh_ hfin;have TB:=hh_ hb;clear hall hl hfin hown hb;go_wp2_with fail
    go_ret;exact⟨_,rfl,HF.out,TB.out.bel⟩
end Go.Proofs.YtainiaighnjpfaaGreatDoor
namespace Go.Ms
end Go.Ms
namespace Go.Proofs.YtainiaighnjpfaaGreatDoor
open Go.RowKit Go.Ms Go.Lib
end Go.Proofs.YtainiaighnjpfaaGreatDoor
namespace Go.Ms
def CsOk (cs:List Cl):Prop:= ∀c∈cs,c.2.2.size≤1200∧ -9223372036854775808≤c.2.1∧c.2.1≤9223372036854775807
end Go.Ms
namespace Go.Proofs.YtainiaighnjpfaaGreatDoor
open Go.RowKit Go.Ms Go.Lib
theorem qLu (w:World) (A B:Option Addr) (n cap m capm:Nat) (ts:List Ty) (xs:List Value) (cs:List Cl) (hok:CsOk cs) (hn':n≤maxLen) (hm':m≤maxLen) (hn:n=ts.length) (hm:m=cs.length) (hC:Cols w w.heap.size A ts xs) (hL:Lay w w.heap.size B (rowV cs)) :
    Calls Tryz.prog 97 #[.slice A n cap,.slice B m capm] w fun e w'=>e=.returned (.int .i64 (qCj ts cs))∧Below w.heap.size w w':=by
 unfold maxLen at hn' hm';by_cases hnm:n=m
 · have hr:qCj ts cs=qCv ts cs:=by unfold qCj;rw[if_pos (by omega)]
   rw[hr];subst hnm;have HC:=hh_ hC;have HL:=hh_ hL;have HN:=hh_ hn;have HM:=hh_ hm;have HO:=hh_ hok;clear hC hL hn hm hok hr;go_enter Tryz.func97,Tryz.ntmps97;go_wp2_with fail
   go_loopw [5] (fun id wr=> ∃k:Nat,k≤n∧id=.int .i64 k∧Below w.heap.size w wr∧qCv ts cs=qCv (ts.drop k) (cs.drop k)) (fun id _=>n-(RowKit.intOf id).toNat)
   case atStart=>exact⟨0,by omega,rfl,Below.refl _ _,rfl⟩
   case round=>
    obtain⟨k,hk,rfl,hb,hr⟩:=hrel;have HR:=hh_ hr;clear hr;by_cases hlk:k<n
    · have hki:(k:Int)<n:=by omega
      obtain⟨t,ht⟩:∃c,ts[k]?=some c:=⟨_,List.getElem?_eq_getElem (by rw[←HN.out];omega)⟩;obtain⟨c,hc⟩:∃c,cs[k]?=some c:=⟨_,List.getElem?_eq_getElem (by rw[←HM.out];omega)⟩;obtain⟨g,o,rfl,hg,h1,h2⟩:=HC.out.ty ht;obtain⟨g',o',rfl,hg',h4,h5,h6⟩:=HL.out.cl hc;have hdr:=qH9 ht hc;obtain⟨z1,z2,z3⟩:=HO.out c (List.mem_of_getElem? hc);obtain⟨u,nn,S⟩:=c;obtain⟨tk,tn⟩:=t;simp only at h1 h2 h4 h5 h6 z1 z2 z3
      have hD:(wr.drew.cell? ⟨g,o+k*7+2,none⟩=some (.int .i64 tk)∧wr.drew.cell? ⟨g,o+k*7+2+1,none⟩=some (.bool tn)∧wr.drew.cell? ⟨g',o'+k*3,none⟩=some (.bool u)∧wr.drew.cell? ⟨g',o'+k*3+1,none⟩=some (.int .i64 nn)∧wr.drew.cell? ⟨g',o'+k*3+2,none⟩=some (.string S))∧Below w.heap.size w wr.drew:=
        ⟨⟨(hb.cell hg).trans h1,(hb.cell hg).trans h2,(hb.cell hg').trans h4,(hb.cell hg').trans h5,(hb.cell hg').trans h6⟩,qAa hb 1⟩
      have hcall:∀w',Calls Tryz.prog 94 #[.agg #[.int .i64 tk,.bool tn],.agg #[.bool u,.int .i64 nn,.string S]] w' fun e w''=>e=.returned (.int .i64 (qDw (tk,tn) (u,nn,S)))∧Below w'.heap.size w' w'':=fun w'=>qEa tk tn u nn S w' (by omega) z2 z3
      have fin:∀wf,((wf.cell? ⟨g,o+k*7+2,none⟩=some (.int .i64 tk)∧wf.cell? ⟨g,o+k*7+2+1,none⟩=some (.bool tn)∧wf.cell? ⟨g',o'+k*3,none⟩=some (.bool u)∧wf.cell? ⟨g',o'+k*3+1,none⟩=some (.int .i64 nn)∧wf.cell? ⟨g',o'+k*3+2,none⟩=some (.string S))∧Below w.heap.size w wf)→Below w.heap.size w wf:=fun _ h=>h.2
      have HD:=hh_ hD;have HP:=hh_ hcall;have HX:=hh_ hdr;have FIN:=hh_ fin;clear hD hcall hdr hc ht h1 h2 h4 h5 h6 hb fin z2 z3;generalize qDw (tk,tn) (u,nn,S)=C at *; by_cases hz0:C=0
      · subst hz0;go_wp2_with fail
        go_region_held3 (fun w'=>(w'.cell? ⟨g,o+k*7+2,none⟩=some (.int .i64 tk)∧w'.cell? ⟨g,o+k*7+2+1,none⟩=some (.bool tn)∧w'.cell? ⟨g',o'+k*3,none⟩=some (.bool u)∧w'.cell? ⟨g',o'+k*3+1,none⟩=some (.int .i64 nn)∧w'.cell? ⟨g',o'+k*3+2,none⟩=some (.string S))∧Below w.heap.size w w')
        (first
          |exact HD.out
          |exact qPf HD.out bb
          |exact qPf (by assumption) bb
          |(go_keep;done))
        (((with_reducible refine(HP.out _).mono ?_);rintro en w5 ⟨rfl,bb⟩))
        all_goals
         have HB5:=hh_ (FIN.out _ (by assumption));go_wp2_with fail
         go_roundw
         case rel=>exact⟨k+1,by omega,by go_num,HB5.out,by rw[HR.out,HX.out];simp⟩
         case measure=>simp[RowKit.intOf];omega
      · have hz1:(C != 0)=true:=by simpa using hz0
        have HZ1:=hh_ hz0;clear hz0;go_wp2_with fail
        go_region_held3 (fun w'=>(w'.cell? ⟨g,o+k*7+2,none⟩=some (.int .i64 tk)∧w'.cell? ⟨g,o+k*7+2+1,none⟩=some (.bool tn)∧w'.cell? ⟨g',o'+k*3,none⟩=some (.bool u)∧w'.cell? ⟨g',o'+k*3+1,none⟩=some (.int .i64 nn)∧w'.cell? ⟨g',o'+k*3+2,none⟩=some (.string S))∧Below w.heap.size w w')
        (first
          |exact HD.out
          |exact qPf HD.out bb
          |exact qPf (by assumption) bb
          |(go_keep;done))
        (((with_reducible refine(HP.out _).mono ?_);rintro en w5 ⟨rfl,bb⟩))
        all_goals
         have HB5:=hh_ (FIN.out _ (by assumption));go_wp2_with fail
         go_ret;exact⟨by rw[HR.out,HX.out,if_neg HZ1.out];rfl,HB5.out⟩
    · have hki:¬(k:Int)<n:=by omega
      have hkn:k=n:=by omega
      have h0:qCv ts cs=0:=by
       rw[HR.out,hkn,HM.out,List.drop_length];cases List.drop cs.length ts <;> rfl
      have H0:=hh_ h0;have HB:=hh_ hb;clear h0 hb hkn;go_wp2_with fail
      go_ret;exact⟨by rw[H0.out];rfl,HB.out⟩
 · have hr:qCj ts cs=100:=by unfold qCj;rw[if_neg (by omega)]
   rw[hr];have hne:((m:Int) != n)=true:=by simp;omega
   have hne2:(m != n)=true:=by simp;omega
   clear hr hm hn hnm hC hL hok;go_enter Tryz.func97,Tryz.ntmps97;go_wp2_with fail
   go_ret;exact⟨rfl,Below.refl _ _⟩
open Go.Shelf Go.Rel
theorem qGo (w:World) (A:Option Addr) (n cap:Nat) (l:List Cl) (hn':n≤100000) (hn:l.length=n) (hA:Ext w w.heap.size A (rowV l)) :
    Calls Tryz.prog 30 #[.slice A n cap] w fun e w'=> ∃v,e=.returned v∧OwnC w' w.heap.size 43 v l∧Below w.heap.size w w':=by
 obtain⟨i0,hi,hz0,hz1,hz2⟩:=info_parts qG2;have HA:=hh_ hA;have HN:=hh_ hn;clear hA hn;go_enter Tryz.func30,Tryz.ntmps30;go_wp2_with (at_builtin;refine qDx rfl (.tmp 4) (.tmp 5) _ rfl w.heap.size 43 i0 _ 3 32 qB7 hi hz0 hz1 hz2 rfl (by omega) rfl w.heap.size A n cap (rowV l) rfl (by rw[qIs,HN.out]) HA.out (qFw _) ml_ (by omega) le_ ?_;intro v1 w1 hown1 hb1)
 have HO:=hh_ hown1;have HB:=hh_ hb1;clear hown1 hb1;go_wp2_with fail
 go_ret;refine⟨_,rfl,?_,HB.out⟩;unfold OwnC;rw[HN.out];exact HO.out
theorem qNr (w:World) (A:Option Addr) (n cap:Nat) (l:List Cl) (hn':n≤100000) (hn:n=l.length) (hA:Lay w w.heap.size A (rowV l)) :
    Calls Tryz.prog 30 #[.slice A n cap] w fun e w'=> ∃v,e=.returned v∧OwnC w' w.heap.size 43 v l∧Below w.heap.size w w':=qGo w A n cap l hn' hn.symm hA.ext
theorem qQ6 (w:World) (L:Option Addr) (n cap:Nat) (rs:List SRef) (ss:List Sc) (f t:Int) (C:Option Addr) (q qcap:Nat) (r:List Cl) (hn':n≤100000) (hn:n=rs.length) (hL:qA0 w w.heap.size L rs ss) (hz:∀s∈ss,ScR s.1)
    (hf: -9223372036854775808≤f∧f≤9223372036854775807) (ht: -9223372036854775808≤t∧t≤9223372036854775807) (hr:qIm w C q r) (hok:CsOk r) :
    Calls Tryz.prog 63 #[.slice L n cap,.int .i64 f,.int .i64 t,.slice C q qcap] w (qJq w (qBz ss f t r).1 (qBz ss f t r).2):=by
 have hns:n=ss.length:=hn.trans hL.len;have hch:=qHy w L n cap rs ss hn' hn hL hz;by_cases h0:qAs ss=0
 case neg=>
  rw[qPs h0];generalize qAs ss=Z at hch h0 ⊢;have h0':(Z != 0)=true:=by simpa using h0
  have HC:=hh_ hch;clear hch hn hL hz hr hok hns;go_enter Tryz.func63,Tryz.ntmps63;go_wp2_with fail
  refine HC.out.mono ?_;rintro en w1 ⟨rfl,b1⟩;have B1:=hh_ b1;clear b1;go_wp2_with fail
  go_ret2;exact⟨_,rfl,World.ownsRow_nil _ _ _ _,B1.out⟩
 rw[h0] at hch;by_cases ho:f<1∨t<f∨(ss.length:Int)<t
 · rw[qN0 h0 ho];have HC:=hh_ hch;have HO:=hh_ ho;have HNS:=hh_ hns;clear hch hn hL hz hr hok hns ho h0;by_cases c1:f<1
   · go_enter Tryz.func63,Tryz.ntmps63;go_wp2_with fail
     refine HC.out.mono ?_;rintro en w1 ⟨rfl,b1⟩;have B1:=hh_ b1;clear b1;go_wp2_with fail
     go_ret2;exact⟨_,rfl,World.ownsRow_nil _ _ _ _,B1.out⟩
   · by_cases c2:t<f
     · go_enter Tryz.func63,Tryz.ntmps63;go_wp2_with fail
       refine HC.out.mono ?_;rintro en w1 ⟨rfl,b1⟩;have B1:=hh_ b1;clear b1;go_wp2_with fail
       go_ret2;exact⟨_,rfl,World.ownsRow_nil _ _ _ _,B1.out⟩
     · have c3:(n:Int)<t:=by have:=HO.out;have:=HNS.out;omega
       go_enter Tryz.func63,Tryz.ntmps63;go_wp2_with fail
       refine HC.out.mono ?_;rintro en w1 ⟨rfl,b1⟩;have B1:=hh_ b1;clear b1;go_wp2_with fail
       go_ret2;exact⟨_,rfl,World.ownsRow_nil _ _ _ _,B1.out⟩
 obtain⟨F,rfl⟩:∃F:Nat,f=F:=⟨f.toNat,by omega⟩;obtain⟨T,rfl⟩:∃T:Nat,t=T:=⟨t.toNat,by omega⟩;have h1:1≤F:=by omega
 have h2:F≤T:=by omega
 have h3:T≤ss.length:=by omega
 have i1:¬(F:Int)<1:=by omega
 have i2:¬(T:Int)<F:=by omega
 have i3:¬(n:Int)<T:=by omega
 have i4:(1:Int)≤F:=by omega
 have i5:(F:Int)-1<n:=by omega
 have i6:F-1<n:=by omega
 have hw:=iw_ ((F:Int)-1) (by omega);have hsp:=getD_at (l:=ss) (i:=F-1) (by omega);obtain⟨rp,hrp⟩:∃r,rs[F-1]?=some r:=⟨_,List.getElem?_eq_getElem (by rw[←hn];omega)⟩;obtain⟨g,o,eL,hg⟩:=hL.at_ hrp;subst eL;have h5:=fun (W:World) (hb:Below w.heap.size w W)=>qLu W rp.a C rp.n rp.c q qcap (qF6 (ss.getD (F-1) zSc).1) (colV (ss.getD (F-1) zSc).1)  r hok (by have:=(hL.each _ _ _ hrp hsp).nn;unfold maxLen;omega) (by have:=hr.qq;unfold maxLen;omega) (by rw[qGq];exact(hL.each _ _ _ hrp hsp).n) hr.ql ((hL.each _ _ _ hrp hsp).to hb).la.cols (hr.to hb).lay
 by_cases hc:qCj (qF6 (ss.getD (F-1) zSc).1) r=0
 case neg=>
  rw[qMr h0 h1 h2 h3 hc];generalize qCj (qF6 (ss.getD (F-1) zSc).1) r=Z at h5 hc ⊢;have hcz:(Z != 0)=true:=by simpa using hc
  have HC:=hh_ hch;have H5:=hh_ h5;have G:=hh_ hg;clear hch hn hL hz hr hok hns h0 ho hc h5 hsp hrp hg h1 h2 h3;go_enter Tryz.func63,Tryz.ntmps63;go_wp2_with fail
  refine HC.out.mono ?_;rintro en w1 ⟨rfl,b1⟩;have B1:=hh_ b1;have g1:=(G.out.below b1).c0;clear b1;go_wp2_with fail
  refine(H5.out _ B1.out).mono ?_;rintro en w2 ⟨rfl,b2⟩;have B2:=hh_ (B1.out.trans (b2.mono B1.out.size));clear b2 g1;go_wp2_with fail
  go_ret2;exact⟨_,rfl,World.ownsRow_nil _ _ _ _,B2.out⟩
 have hlen:=(qH5 hc).1;rw[qGq] at hlen;have hcok:=qPn h0;have hcl:=fun (W:World) (hb:Below w.heap.size w W)=>qNr W C q qcap r hr.qq hr.ql (hr.to hb).lay
 rw[qNu h0 h1 h2 h3 hc];rw[hc] at h5;have HC:=hh_ hch;have H5:=hh_ h5;have G:=hh_ hg;have HCL:=hh_ hcl;have HOK:=hh_ hcok;have HLEN:=hh_ hlen;have HN:=hh_ hn;have HNS:=hh_ hns;have HL:=hh_ hL;have HR:=hh_ hr;have P1:=hh_ h1;have P2:=hh_ h2;have P3:=hh_ h3;clear hch hn hL hz hr hok hns h0 ho hc h5 hsp hg hcl hcok hlen h1 h2 h3;go_enter Tryz.func63,Tryz.ntmps63;go_wp2_with fail
 refine HC.out.mono ?_;rintro en w1 ⟨rfl,b1⟩;have B1:=hh_ b1;have g1:=(G.out.below b1).c0;clear b1;go_wp2_with fail
 refine(H5.out _ B1.out).mono ?_;rintro en w2 ⟨rfl,b2⟩;have B2:=hh_ (B1.out.trans (b2.mono B1.out.size));clear b2 g1;go_wp2_with fail
 refine(HCL.out _ B2.out).mono ?_;rintro en w3 ⟨v0,rfl,ho3,b3⟩;have B3:=hh_ (B2.out.trans (b3.mono B2.out.size));have O3:=hh_ (qAv ho3 B2.out.size);clear b3 ho3;go_wp2_with fail
 go_loopw [12,13] (fun v i wr=> ∃j:Nat,i=.int .i64 j∧F≤j∧j≤T∧OwnC wr w.heap.size 43 v (qC7 ss F (j-F) r)∧Below w.heap.size w wr) (fun _ i _=>T-(RowKit.intOf i).toNat)
 case atStart=>exact⟨F,rfl,Nat.le_refl _,P2.out,by rw[Nat.sub_self];exact O3.out,B3.out⟩
 case round=>
  obtain⟨j,rfl,hj1,hj2,hown,hb⟩:=hrel;obtain⟨A3,c3,rfl,hc3,hcm3⟩:=qAf hown;by_cases hlt:j<T
  · have hlti:(j:Int)<T:=by omega
    have hsn:=qEv (l:=ss) (f:=F) (k:=j-F) P1.out (by have:=P3.out;omega) r;have hcr:=qIl (l:=ss) P1.out HLEN.out (j-F) (by have:=P3.out;omega);rw[show F+(j-F)=j by omega] at hsn hcr;have hP3:=P3.out;have hNS:=HNS.out;have hP1:=P1.out;have hsa:=getD_at (l:=ss) (i:=j-1) (by omega);have hsb:=getD_at (l:=ss) (i:=j) (by omega);obtain⟨ra,hra⟩:∃r,rs[j-1]?=some r:=⟨_,List.getElem?_eq_getElem (by rw[←HN.out];omega)⟩;obtain⟨rb,hrb⟩:∃r,rs[j]?=some r:=⟨_,List.getElem?_eq_getElem (by rw[←HN.out];omega)⟩;have pa:=(HL.out.each _ _ _ hra hsa).to hb;have pb:=(HL.out.each _ _ _ hrb hsb).to hb;obtain⟨ua,ia⟩:=qPo (HOK.out _ (List.mem_of_getElem? hsa));obtain⟨-,ib⟩:=qPo (HOK.out _ (List.mem_of_getElem? hsb));obtain⟨g',o',e1,ga⟩:=HL.out.at_ hra;cases e1;obtain⟨g',o',e2,gb⟩:=HL.out.at_ hrb;cases e2;have lR:=Lay.of_own hown le_;generalize hSA:ss.getD (j-1) zSc=sa at hsa hsn hcr pa ua ia;generalize hSB:ss.getD j zSc=sb at hsb hsn pb ib;generalize hRR:qC7 ss F (j-F) r=R at hown hsn hcr lR hc3;have hm:=fun (W:World) (hb2:Below wr.heap.size wr W)=>qQ2 ra.a ra.b ra.n ra.c ra.m ra.d sa.1 sa.2 rb.a rb.b rb.n rb.c rb.m rb.d sb.1 sb.2 A3 R.length c3 R W pa.n pa.nn (pa.to hb2).la ua ia pb.n pb.nn (pb.to hb2).la (pb.to hb2).lb ib rfl ((lR.below hb2).more hb2.size) (by rw[pa.n,hcr])
    have hwj:=iw_ ((j:Int)-1) (by omega);have GA:=hh_ ((ga.below hb).more hb.size);have GB:=hh_ ((gb.below hb).more hb.size);have HM:=hh_ hm;have HSN:=hh_ hsn;have HWJ:=hh_ hwj;have HB:=hh_ hb;have J1:=hh_ (show 1≤j by omega);have J2:=hh_ (show j<n by omega);clear ga gb hm hsn hwj hb hown lR pa pb ua ia ib hsa hsb hra hrb hcr hSA hSB hRR hP3 hNS hP1 i4 i5 i6 hw;go_wp2_with fail
    refine qB4 (l:=[_,_,_,_,_,_,_,_,_,_,_]) (o:=_) [isV (.slice (some ⟨g,o,none⟩) n cap),isV (.int .i64 (j:Nat)),isV (.int .i64 ((j:Int)-1)),isV (.pointer (some ⟨g,o+(j-1)*2,none⟩)),isV (.agg #[.slice ra.a ra.n ra.c,.slice ra.b ra.m ra.d]),isV (.slice (some ⟨g,o,none⟩) n cap),isV (.int .i64 (j:Nat)),isV (.pointer (some ⟨g,o+j*2,none⟩)),isV (.agg #[.slice rb.a rb.n rb.c,.slice rb.b rb.m rb.d]),isV (.slice A3 R.length c3),qUa w.heap.size 43 (qA2 sa.1 sb.1 R)] (by kernel_rfl) (by kernel_rfl) (by kernel_rfl) (by kernel_rfl) rfl ?_ ?_
    ·
      refine Rel.rb ?_;refine Rel.rb ?_;refine rf (fun ev wo E=>?_) ?_
      · have e52:ev (.tmp 52)=.int .i64 (j:Nat):=E.e 0;have ec:=E.const;have h0:=HWJ.out;go_simp;exact rv
      refine rf (fun ev wo E=>?_) ?_
      · have e51:ev (.tmp 51)=.slice (some ⟨g,o,none⟩) n cap:=E.e 0;have e53:ev (.tmp 53)=.int .i64 ((j:Int)-1):=E.e 1;have h0:=J1.out;have h1:=J2.out;have h2:(0:Int)≤(j:Int)-1:=by omega
        have h3:(j:Int)-1<n:=by omega
        have h4:(1:Int)≤j:=by omega
        go_simp;exact rv
      refine rf (fun ev wo E=>?_) ?_
      · have e54:ev (.tmp 54)=.pointer (some ⟨g,o+(j-1)*2,none⟩):=E.e 0;have hx0:=(E.bel.cell GA.out.lt).trans GA.out.c0;have hx1:=(E.bel.cell GA.out.lt).trans GA.out.c1;go_simp;exact rv
      refine Rel.rb ?_;refine Rel.rb ?_;refine rf (fun ev wo E=>?_) ?_
      · have e56:ev (.tmp 56)=.slice (some ⟨g,o,none⟩) n cap:=E.e 0;have e57:ev (.tmp 57)=.int .i64 (j:Nat):=E.e 1;have h1:=J2.out;have h3:(j:Int)<n:=by omega
        go_simp;exact rv
      refine rf (fun ev wo E=>?_) ?_
      · have e58:ev (.tmp 58)=.pointer (some ⟨g,o+j*2,none⟩):=E.e 0;have hx0:=(E.bel.cell GB.out.lt).trans GB.out.c0;have hx1:=(E.bel.cell GB.out.lt).trans GB.out.c1;go_simp;exact rv
      refine Rel.rb ?_;refine⟨qBo (qA5.free rfl) (qG8 _ _ _) (fun ev wo E=>?_),?_⟩
      · have e55:ev (.tmp 55)=.agg #[.slice ra.a ra.n ra.c,.slice ra.b ra.m ra.d]:=E.e 0;have e59:ev (.tmp 59)=.agg #[.slice rb.a rb.n rb.c,.slice rb.b rb.m rb.d]:=E.e 1;have e60:ev (.tmp 60)=.slice A3 R.length c3:=E.e 2;have ef:=E.func;go_simp;refine qAb ((HM.out wo E.bel).mono ?_);rintro e w' ⟨v,rfl,ho,hb⟩;exact⟨_,rfl,hb,qAv ho (Nat.le_trans HB.out.size E.bel.size)⟩
      trivial
    · intro wz bz
      (iterate 10 rintro _ rfl)
      intro v61 h61;have B4:=hh_ (HB.out.trans (bz.mono HB.out.size));have H61:=hh_ h61;clear bz h61;simp only[qAq];unfold Oper.wp;go_simp;go_wp2_with fail
      go_roundw
      case rel=>
       refine⟨j+1,by go_num,by omega,by omega,?_,B4.out⟩;rw[show j+1-F=j-F+1 by omega,HSN.out];exact H61.out
      case measure=>simp[RowKit.intOf];omega
  · have hlti:¬(j:Int)<T:=by omega
    obtain rfl:j=T:=by omega
    have HO:=hh_ hown;have HB:=hh_ hb;clear hown hb;go_wp2_with fail
    go_ret2;exact⟨_,rfl,HO.out,HB.out⟩
end Go.Proofs.YtainiaighnjpfaaGreatDoor
