/- The reference of evolve: may a schema follow another one? -/
import Derived.Test.YtainiaighnjpfaaGreatDoorZQak
set_option linter.unusedVariables false
set_option linter.unusedSimpArgs false
namespace Go.Ms
open Go.RowKit Go.Lib
def qK7 (l:List Int):Value→World→Prop:=fun v w=> ∃A c,v=.slice A l.length c∧Lay w w.heap.size A (intV l)
theorem qHg (l:List Int):Go.Rel.Stable (qK7 l):=fun v w w' ⟨A,c,h1,h2⟩ hb=>⟨A,c,h1,(h2.below hb).more hb.size⟩
theorem qKp {w:World} {B:Nat} {T:TypeId} {v:Value} {l:List Int} (h:OwnI w B T v l):qK7 l v w:=by
 obtain⟨A,c,rfl,-,-⟩:=qAf h;exact⟨A,c,rfl,Lay.of_own h le_⟩
theorem qJr {cs ds:List Co} {ks ls:List Int} {above:Int} {k:Nat} {d:Co} (h:ds[k]?=some d) (hd:qD0 cs above d=false):qBa (cs,ks) (ds,ls) above=false:=by
 unfold qBa;simp only[Bool.and_eq_false_iff,List.all_eq_false];exact .inl ⟨d,List.mem_of_getElem? h,by simp[hd]⟩
end Go.Ms
namespace Go.Proofs.YtainiaighnjpfaaGreatDoor
open Go.RowKit Go.Ms Go.Lib Go.Rel
set_option maxRecDepth 100000 in
set_option maxHeartbeats 4000000 in
theorem qH8 (A B:Option Addr) (n cap m capm:Nat) (cs:List Co) (ks:List Int) (A' B':Option Addr) (n' cap' m' capm':Nat) (ds:List Co) (ls:List Int) (above:Int) (w:World)
    (hn:n=cs.length) (hm:m=ks.length) (hn2:n≤100000) (hm2:m≤100000) (hA:Lay w w.heap.size A (colV cs)) (hB:Lay w w.heap.size B (intV ks)) (hk:qJn cs ks)
    (kn:n'=ds.length) (km:m'=ls.length) (kn2:n'≤100000) (km2:m'≤100000) (kA:Lay w w.heap.size A' (colV ds)) (kB:Lay w w.heap.size B' (intV ls)) (kk:qJn ds ls) :
    Calls Tryz.prog 95 #[.agg #[.slice A n cap,.slice B m capm],.agg #[.slice A' n' cap',.slice B' m' capm'],.int .i64 above] w fun e w'=>e=.returned (.bool (qBa (cs,ks) (ds,ls) above))∧Below w.heap.size w w':=by
 have HN:=hh_ hn;have HM:=hh_ hm;have HA:=hh_ hA;have HB:=hh_ hB;have HK:=hh_ hk;have KN:=hh_ kn;have KM:=hh_ km;have KA:=hh_ kA;have KB:=hh_ kB;have KK:=hh_ kk;clear hn hm hA hB hk kn km kA kB kk;obtain⟨X,hX⟩:∃X,X=(w.alloc (.cells #[.slice A n cap,.slice B m capm] 33)).alloc (.cells #[.slice A' n' cap',.slice B' m' capm'] 33):=⟨_,rfl⟩;have tX:Bx2 (.cells #[.slice A n cap,.slice B m capm] 33 (0,0)) (.cells #[.slice A' n' cap',.slice B' m' capm'] 33 (0,0)) w X:=by rw[hX];exact Bx2.start _ _ _ _ w
 have T0:=hh_ tX;clear tX;go_enter Tryz.func95,Tryz.ntmps95;go_wp2_with fail
 rw[←hX];clear hX;go_loopw [7] (fun i wr=> ∃k:Nat,i=.int .i64 k∧k≤n'∧(ds.take k).all (qD0 cs above)=true∧Bx2 (.cells #[.slice A n cap,.slice B m capm] 33 (0,0)) (.cells #[.slice A' n' cap',.slice B' m' capm'] 33 (0,0)) w wr) (fun i _=>n'-(RowKit.intOf i).toNat)
 case atStart=>exact⟨0,rfl,by omega,by simp,T0.out⟩
 case round=>
  obtain⟨k,rfl,hk,hall,hb⟩:=hrel;have y0:=cb_ 0 hb.b1 rfl;have y1:=cb_ 1 hb.b1 rfl;by_cases hlk:k<n'
  · have hki:(k:Int)<n':=by omega
    obtain⟨⟨i1,s1,⟨k1,u1⟩,n1,m1,t1⟩,hc⟩:∃c,ds[k]?=some c:=⟨_,List.getElem?_eq_getElem (by rw[←KN.out];omega)⟩;have htk:ds.take (k+1)=ds.take k++[((i1,s1,(k1,u1),n1,m1,t1):Co)]:=by rw[List.take_add_one,hc];rfl
    obtain⟨g',o',e',hg'⟩:=KA.out.colAt hc;subst e';have hg2:=hg'.below hb.bel;have j0:=hg2.c0;have j1:=hg2.c1;have j2:=hg2.c2;have j3:=hg2.c3;have j4:=hg2.c4;have j5:=hg2.c5;have j6:=hg2.c6;obtain⟨Y,hY⟩:∃Y,Y=wr.alloc (.cells #[.int .i64 i1,.string s1,.int .i64 k1,.bool u1,.bool n1,.int .i64 m1,.string t1] 45):=⟨_,rfl⟩;have hbY:Below wr.heap.size wr Y:=by rw[hY];exact br_.alloc le_ _
    have hq:Y.heap[wr.heap.size]?=some (.cells #[.int .i64 i1,.string s1,.int .i64 k1,.bool u1,.bool n1,.int .i64 m1,.string t1] 45 (0,0)):=by rw[hY];exact qAd _ _
    have TY:=hh_ (hb.step hbY);have QY:=hh_ hq;have HC:=hh_ hc;have HALL:=hh_ hall;have HTK:=hh_ htk;generalize hcb:wr.heap.size=cb at hq QY;clear hb hc hall htk hg' hg2 hbY hq;go_upto_region 5 with fail
    rw[←hY];try rw[hcb]
    clear hY j0 j1 j2 j3 j4 j5 j6 y0 y1;have x0:=cb_ 0 TY.out.b0 rfl;have x1:=cb_ 1 TY.out.b0 rfl;have x2:=cb_ 0 QY.out rfl;go_wp2_with fail
    refine(qKy Y A B n cap m capm cs i1 ml_ HN.out ((HA.out.below TY.out.bel).more TY.out.bel.size)).mono ?_;rintro en w2 ⟨rfl,b2⟩;rw[qP8];have T2:=hh_ (TY.out.step b2);have Q2:=hh_ (bk_ QY.out b2);clear b2 x0 x1 x2 TY QY
    cases he:evAt cs i1 with
    |none=>
     have hcol:=qUu (ab:=above) (d:=((i1,s1,(k1,u1),n1,m1,t1):Co)) he;by_cases hab:above<i1
     · have hab':¬i1≤above:=by omega
       have hda:decide (i1≤above)=false:=by simpa using hab
       have HCOL:=hh_ (hcol.trans (decide_eq_true hab));clear hcol;go_wp2_with fail
       refine qAe [iF,iT,iT,isV (.pointer (some ⟨cb,0,none⟩)),isV (.int .i64 i1),isV (.int .i64 above),iF,iF,iF,iF,iF,iU,iU,iU,iU,iU,iU,iU,iU,iF,iF] (by kernel_rfl) (by kernel_rfl) ?_ ?_
       ·
         refine rb ?_;refine rf (fun ev wo E=>?_) ?_
         · have e30:ev (.tmp 30)=.bool false:=E.e 0;go_simp;exact rv
         refine rc 0 ?_;refine rq 0 (fun ev wo E=>?_) ?_
         · have e8:ev (.tmp 8)=.pointer (some ⟨cb,0,none⟩):=(E.base 8 rfl).trans rfl;go_simp;exact rv
         refine rq 1 (fun ev wo E=>?_) ?_
         · have e33:ev (.tmp 33)=.pointer (some ⟨cb,0,none⟩):=E.e 0;have hx0:=cb_ 0 (bk_ Q2.out E.bel) rfl;go_simp;exact rv
         refine rbq 0 ?_;refine rq 2 (fun ev wo E=>?_) ?_
         · have e34:ev (.tmp 34)=.int .i64 i1:=E.e 0;have e35:ev (.tmp 35)=.int .i64 above:=E.e 1;go_simp;exact rv
         refine rf (fun ev wo E=>?_) ?_
         · have e32:ev (.tmp 32)=.bool true:=E.e 0;have e36:ev (.tmp 36)=.bool false:=E.e 1;have ec:=E.const;go_simp;exact rv
         refine rc 0 ?_;refine rbq 0 ?_;refine rcq 0 1 ?_;refine ro 0 ?_;refine ro 1 ?_;refine ro 0 ?_;refine ro 2 ?_;refine ro 1 ?_;refine ro 0 ?_;refine ro 2 ?_;refine ro 1 ?_;refine rq 2 (fun ev wo E=>?_) ?_
         · have e40:ev (.tmp 40)=.bool false:=E.e 0;have e48:ev (.tmp 48)=undef:=E.e 1;have ec:=E.const;go_simp;exact rv
         refine rf (fun ev wo E=>?_) ?_
         · have e38:ev (.tmp 38)=.bool false:=E.e 0;have e49:ev (.tmp 49)=.bool false:=E.e 1;have ec:=E.const;go_simp;exact rv
         trivial
       · intro wz bz
         (iterate 21 rintro _ rfl);have T3:=hh_ (T2.out.step bz);clear bz;simp only[qAq];go_simp
         go_wp2_with fail
         go_roundw
         case rel=>exact⟨k+1,by go_num,by omega,by rw[HTK.out];exact qNy HALL.out HCOL.out,T3.out⟩
         case measure=>simp[RowKit.intOf];omega
     · have hab':i1≤above:=by omega
       have hda:decide (i1≤above)=true:=by simpa using hab'
       have HCOL:=hh_ (hcol.trans (decide_eq_false hab));clear hcol;go_wp2_with fail
       refine qAe [iF,iT,iT,isV (.pointer (some ⟨cb,0,none⟩)),isV (.int .i64 i1),isV (.int .i64 above),iT,iT,iT,iU,iU,iU,iU,iU,iU,iU,iU,iU,iU,iU,iT] (by kernel_rfl) (by kernel_rfl) ?_ ?_
       ·
         refine rb ?_;refine rf (fun ev wo E=>?_) ?_
         · have e30:ev (.tmp 30)=.bool false:=E.e 0;go_simp;exact rv
         refine rc 0 ?_;refine rq 0 (fun ev wo E=>?_) ?_
         · have e8:ev (.tmp 8)=.pointer (some ⟨cb,0,none⟩):=(E.base 8 rfl).trans rfl;go_simp;exact rv
         refine rq 1 (fun ev wo E=>?_) ?_
         · have e33:ev (.tmp 33)=.pointer (some ⟨cb,0,none⟩):=E.e 0;have hx0:=cb_ 0 (bk_ Q2.out E.bel) rfl;go_simp;exact rv
         refine rbq 0 ?_;refine rq 2 (fun ev wo E=>?_) ?_
         · have e34:ev (.tmp 34)=.int .i64 i1:=E.e 0;have e35:ev (.tmp 35)=.int .i64 above:=E.e 1;go_simp;exact rv
         refine rf (fun ev wo E=>?_) ?_
         · have e32:ev (.tmp 32)=.bool true:=E.e 0;have e36:ev (.tmp 36)=.bool true:=E.e 1;have ec:=E.const;go_simp;exact rv
         refine rc 0 ?_;refine ro 0 ?_;refine ro 1 ?_;refine ro2 0 ?_;refine ro2 1 ?_;refine ro2 0 ?_;refine ro2 2 ?_;refine ro2 1 ?_;refine ro2 0 ?_;refine ro2 2 ?_;refine ro2 1 ?_;refine ro 2 ?_;refine rf (fun ev wo E=>?_) ?_
         · have e38:ev (.tmp 38)=.bool true:=E.e 0;have e49:ev (.tmp 49)=undef:=E.e 1;have ec:=E.const;go_simp;exact rv
         trivial
       · intro wz bz
         (iterate 21 rintro _ rfl);have T3:=hh_ (T2.out.step bz);clear bz;simp only[qAq];go_simp
         go_wp2_with fail
         go_ret;exact⟨congrArg (fun b=>Ending.returned (.bool b)) (qJr HC.out HCOL.out).symm,T3.out.bel⟩
    | some p=>
     have hcol:=qS1 (ab:=above) (d:=((i1,s1,(k1,u1),n1,m1,t1):Co)) he;obtain⟨⟨i2,s2,⟨k2,u2⟩,n2,m2,t2⟩,hp,-⟩:=qHm he;have hpl:p<n:=by rw[HN.out];exact(List.getElem?_eq_some_iff.1 hp).1
     obtain⟨g,o,e,hg⟩:=HA.out.colAt hp;subst e;have hgd:cs.getD p zCo=((i2,s2,(k2,u2),n2,m2,t2):Co):=by rw[List.getD_eq_getElem?_getD,hp];rfl
     rw[hgd] at hcol;have hsm:=fun W=>qUo ((i2,s2,(k2,u2),n2,m2,t2):Co) ((i1,s1,(k1,u1),n1,m1,t1):Co) W
     obtain⟨b,hbb⟩:∃b,qFa ((i2,s2,(k2,u2),n2,m2,t2):Co) ((i1,s1,(k1,u1),n1,m1,t1):Co)=b:=⟨_,rfl⟩;rw[hbb] at hsm hcol;simp only[coA] at hsm;have GP:=hh_ hg;have HSM:=hh_ hsm;have HCOL:=hh_ hcol;have ip:(p:Int)<n:=by omega
     clear hg hsm hcol hgd hp hbb
     cases b with
     |true=>
      go_wp2_with fail
      refine qAe [iT,iF,iF,iU,iU,iU,iU,iF,iF,iT,iT,isV (.pointer (some ⟨w.heap.size,0,none⟩)),isV (.slice (some ⟨g,o,none⟩) n cap),isV (.int .i64 (p:Nat)),isV (.pointer (some ⟨g,o+p*7,none⟩)),isV (.agg #[.int .i64 i2,.string s2,.int .i64 k2,.bool u2,.bool n2,.int .i64 m2,.string t2]),isV (.agg #[.int .i64 i1,.string s1,.int .i64 k1,.bool u1,.bool n1,.int .i64 m1,.string t1]),iT,iF,iF,iF] (by kernel_rfl) (by kernel_rfl) ?_ ?_
      ·
        refine rb ?_;refine rf (fun ev wo E=>?_) ?_
        · have e30:ev (.tmp 30)=.bool true:=E.e 0;go_simp;exact rv
        refine rc 0 ?_;refine ro 0 ?_;refine ro 1 ?_;refine ro 0 ?_;refine ro 2 ?_;refine rf (fun ev wo E=>?_) ?_
        · have e32:ev (.tmp 32)=.bool false:=E.e 0;have e36:ev (.tmp 36)=undef:=E.e 1;have ec:=E.const;go_simp;exact rv
        refine rc 0 ?_;refine rbq 0 ?_;refine rcq 0 1 ?_;refine rq 0 (fun ev wo E=>?_) ?_
        · have e3:ev (.tmp 3)=.pointer (some ⟨w.heap.size,0,none⟩):=(E.base 3 rfl).trans rfl;go_simp;exact rv
        refine rq 1 (fun ev wo E=>?_) ?_
        · have e41:ev (.tmp 41)=.pointer (some ⟨w.heap.size,0,none⟩):=E.e 0;have hx0:=cb_ 0 (bk_ T2.out.b0 E.bel) rfl;go_simp;exact rv
        refine rbq 0 ?_;refine rq 2 (fun ev wo E=>?_) ?_
        · have e42:ev (.tmp 42)=.slice (some ⟨g,o,none⟩) n cap:=E.e 0;have e43:ev (.tmp 43)=.int .i64 (p:Nat):=E.e 1;have hp0:=hpl;have hp1:=ip;go_simp;exact rv
        refine rq 1 (fun ev wo E=>?_) ?_
        · have e44:ev (.tmp 44)=.pointer (some ⟨g,o+p*7,none⟩):=E.e 0;have hb:=T2.out.bel.trans (E.bel.mono T2.out.bel.size);obtain⟨_,hx0,hx1,hx2,hx3,hx4,hx5,hx6⟩:=GP.out.below hb;go_simp;exact rv
        refine rq 0 (fun ev wo E=>?_) ?_
        · have e8:ev (.tmp 8)=.pointer (some ⟨cb,0,none⟩):=(E.base 8 rfl).trans rfl;have hx0:=cb_ 0 (bk_ Q2.out E.bel) rfl;have hx1:=cb_ 1 (bk_ Q2.out E.bel) rfl;have hx2:=cb_ 2 (bk_ Q2.out E.bel) rfl;have hx3:=cb_ 3 (bk_ Q2.out E.bel) rfl;have hx4:=cb_ 4 (bk_ Q2.out E.bel) rfl;have hx5:=cb_ 5 (bk_ Q2.out E.bel) rfl;have hx6:=cb_ 6 (bk_ Q2.out E.bel) rfl;go_simp;exact rv
        refine rq 2 (fun ev wo E=>?_) ?_
        · have e45:ev (.tmp 45)=.agg #[.int .i64 i2,.string s2,.int .i64 k2,.bool u2,.bool n2,.int .i64 m2,.string t2]:=E.e 0;have e46:ev (.tmp 46)=.agg #[.int .i64 i1,.string s1,.int .i64 k1,.bool u1,.bool n1,.int .i64 m1,.string t1]:=E.e 1;have ef:=E.func;go_simp;refine qAb ((HSM.out wo).mono ?_);rintro e w' ⟨rfl,hb⟩;exact⟨_,rfl,hb,rfl⟩
        refine rq 1 (fun ev wo E=>?_) ?_
        · have e47:ev (.tmp 47)=.bool true:=E.e 0;go_simp;exact rv
        refine rq 2 (fun ev wo E=>?_) ?_
        · have e40:ev (.tmp 40)=.bool true:=E.e 0;have e48:ev (.tmp 48)=.bool false:=E.e 1;have ec:=E.const;go_simp;exact rv
        refine rf (fun ev wo E=>?_) ?_
        · have e38:ev (.tmp 38)=.bool false:=E.e 0;have e49:ev (.tmp 49)=.bool false:=E.e 1;have ec:=E.const;go_simp;exact rv
        trivial
      · intro wz bz
        (iterate 21 rintro _ rfl);have T3:=hh_ (T2.out.step bz);clear bz;simp only[qAq];go_simp
        go_wp2_with fail
        go_roundw
        case rel=>exact⟨k+1,by go_num,by omega,by rw[HTK.out];exact qNy HALL.out HCOL.out,T3.out⟩
        case measure=>simp[RowKit.intOf];omega
     |false=>
      go_wp2_with fail
      refine qAe [iT,iF,iF,iU,iU,iU,iU,iF,iF,iT,iT,isV (.pointer (some ⟨w.heap.size,0,none⟩)),isV (.slice (some ⟨g,o,none⟩) n cap),isV (.int .i64 (p:Nat)),isV (.pointer (some ⟨g,o+p*7,none⟩)),isV (.agg #[.int .i64 i2,.string s2,.int .i64 k2,.bool u2,.bool n2,.int .i64 m2,.string t2]),isV (.agg #[.int .i64 i1,.string s1,.int .i64 k1,.bool u1,.bool n1,.int .i64 m1,.string t1]),iF,iT,iT,iT] (by kernel_rfl) (by kernel_rfl) ?_ ?_
      ·
        refine rb ?_;refine rf (fun ev wo E=>?_) ?_
        · have e30:ev (.tmp 30)=.bool true:=E.e 0;go_simp;exact rv
        refine rc 0 ?_;refine ro 0 ?_;refine ro 1 ?_;refine ro 0 ?_;refine ro 2 ?_;refine rf (fun ev wo E=>?_) ?_
        · have e32:ev (.tmp 32)=.bool false:=E.e 0;have e36:ev (.tmp 36)=undef:=E.e 1;have ec:=E.const;go_simp;exact rv
        refine rc 0 ?_;refine rbq 0 ?_;refine rcq 0 1 ?_;refine rq 0 (fun ev wo E=>?_) ?_
        · have e3:ev (.tmp 3)=.pointer (some ⟨w.heap.size,0,none⟩):=(E.base 3 rfl).trans rfl;go_simp;exact rv
        refine rq 1 (fun ev wo E=>?_) ?_
        · have e41:ev (.tmp 41)=.pointer (some ⟨w.heap.size,0,none⟩):=E.e 0;have hx0:=cb_ 0 (bk_ T2.out.b0 E.bel) rfl;go_simp;exact rv
        refine rbq 0 ?_;refine rq 2 (fun ev wo E=>?_) ?_
        · have e42:ev (.tmp 42)=.slice (some ⟨g,o,none⟩) n cap:=E.e 0;have e43:ev (.tmp 43)=.int .i64 (p:Nat):=E.e 1;have hp0:=hpl;have hp1:=ip;go_simp;exact rv
        refine rq 1 (fun ev wo E=>?_) ?_
        · have e44:ev (.tmp 44)=.pointer (some ⟨g,o+p*7,none⟩):=E.e 0;have hb:=T2.out.bel.trans (E.bel.mono T2.out.bel.size);obtain⟨_,hx0,hx1,hx2,hx3,hx4,hx5,hx6⟩:=GP.out.below hb;go_simp;exact rv
        refine rq 0 (fun ev wo E=>?_) ?_
        · have e8:ev (.tmp 8)=.pointer (some ⟨cb,0,none⟩):=(E.base 8 rfl).trans rfl;have hx0:=cb_ 0 (bk_ Q2.out E.bel) rfl;have hx1:=cb_ 1 (bk_ Q2.out E.bel) rfl;have hx2:=cb_ 2 (bk_ Q2.out E.bel) rfl;have hx3:=cb_ 3 (bk_ Q2.out E.bel) rfl;have hx4:=cb_ 4 (bk_ Q2.out E.bel) rfl;have hx5:=cb_ 5 (bk_ Q2.out E.bel) rfl;have hx6:=cb_ 6 (bk_ Q2.out E.bel) rfl;go_simp;exact rv
        refine rq 2 (fun ev wo E=>?_) ?_
        · have e45:ev (.tmp 45)=.agg #[.int .i64 i2,.string s2,.int .i64 k2,.bool u2,.bool n2,.int .i64 m2,.string t2]:=E.e 0;have e46:ev (.tmp 46)=.agg #[.int .i64 i1,.string s1,.int .i64 k1,.bool u1,.bool n1,.int .i64 m1,.string t1]:=E.e 1;have ef:=E.func;go_simp;refine qAb ((HSM.out wo).mono ?_);rintro e w' ⟨rfl,hb⟩;exact⟨_,rfl,hb,rfl⟩
        refine rq 1 (fun ev wo E=>?_) ?_
        · have e47:ev (.tmp 47)=.bool false:=E.e 0;go_simp;exact rv
        refine rq 2 (fun ev wo E=>?_) ?_
        · have e40:ev (.tmp 40)=.bool true:=E.e 0;have e48:ev (.tmp 48)=.bool true:=E.e 1;have ec:=E.const;go_simp;exact rv
        refine rf (fun ev wo E=>?_) ?_
        · have e38:ev (.tmp 38)=.bool false:=E.e 0;have e49:ev (.tmp 49)=.bool true:=E.e 1;have ec:=E.const;go_simp;exact rv
        trivial
      · intro wz bz
        (iterate 21 rintro _ rfl);have T3:=hh_ (T2.out.step bz);clear bz;simp only[qAq];go_simp
        go_wp2_with fail
        go_ret;exact⟨congrArg (fun b=>Ending.returned (.bool b)) (qJr HC.out HCOL.out).symm,T3.out.bel⟩
  · have hki:¬(k:Int)<n':=by omega
    obtain rfl:k=n':=by omega
    have hfull:ds.take k=ds:=List.take_of_length_le (by have:=KN.out;omega);rw[hfull] at hall;have h1:=fun (W:World) (hb:Below w.heap.size w W)=>qKe A B n cap m capm cs ks W HN.out HM.out hn2 hm2 ((HA.out.below hb).more hb.size) ((HB.out.below hb).more hb.size) HK.out
    have h2:=fun (W:World) (hb:Below w.heap.size w W)=>qKe A' B' k cap' m' capm' ds ls W KN.out KM.out kn2 km2 ((KA.out.below hb).more hb.size) ((KB.out.below hb).more hb.size) KK.out
    have hl1:(qA6 (cs,ks)).length=m:=by unfold qA6;rw[List.length_map];exact HM.out.symm
    have hl2:(qA6 (ds,ls)).length=m':=by unfold qA6;rw[List.length_map];exact KM.out.symm
    have hfin:qBa (cs,ks) (ds,ls) above=decide (qA6 (cs,ks)=qA6 (ds,ls)):=by unfold qBa;rw[hall];simp
    generalize qA6 (cs,ks)=E1 at h1 hl1 hfin;generalize qA6 (ds,ls)=E2 at h2 hl2 hfin;have H1:=hh_ h1;have H2:=hh_ h2;have L1:=hh_ hl1;have L2:=hh_ hl2;have HFIN:=hh_ hfin;have TB:=hh_ hb;clear h1 h2 hl1 hl2 hfin hall hfull hb;go_wp2_with fail
    refine qAe [isV (.agg #[.slice A n cap,.slice B m capm]),qK7 E1,isV (.agg #[.slice A' k cap',.slice B' m' capm']),qK7 E2,isV (.bool (decide (E1=E2))),isV (.bool (decide (E1=E2)))] (by kernel_rfl) (by kernel_rfl) ?_ ?_
    ·
      refine rf (fun ev wo E=>?_) ?_
      · have e3:ev (.tmp 3)=.pointer (some ⟨w.heap.size,0,none⟩):=(E.base 3 rfl).trans rfl;have hx0:=cb_ 0 (bk_ TB.out.b0 E.bel) rfl;have hx1:=cb_ 1 (bk_ TB.out.b0 E.bel) rfl;go_simp;exact rv
      refine⟨qBo (qA5.free rfl) (qHg _) (fun ev wo E=>?_),?_⟩
      · have e51:ev (.tmp 51)=.agg #[.slice A n cap,.slice B m capm]:=E.e 0;have ef:=E.func;have hbw:=TB.out.bel.trans (E.bel.mono TB.out.bel.size);go_simp;refine qAb ((H1.out wo hbw).mono ?_);rintro e w' ⟨v,rfl,ho,hb⟩;exact⟨_,rfl,hb,qKp ho⟩
      refine rf (fun ev wo E=>?_) ?_
      · have e4:ev (.tmp 4)=.pointer (some ⟨w.heap.size+1,0,none⟩):=(E.base 4 rfl).trans rfl;have hx0:=cb_ 0 (bk_ TB.out.b1 E.bel) rfl;have hx1:=cb_ 1 (bk_ TB.out.b1 E.bel) rfl;go_simp;exact rv
      refine⟨qBo (qA5.free rfl) (qHg _) (fun ev wo E=>?_),?_⟩
      · have e53:ev (.tmp 53)=.agg #[.slice A' k cap',.slice B' m' capm']:=E.e 0;have ef:=E.func;have hbw:=TB.out.bel.trans (E.bel.mono TB.out.bel.size);go_simp;refine qAb ((H2.out wo hbw).mono ?_);rintro e w' ⟨v,rfl,ho,hb⟩;exact⟨_,rfl,hb,qKp ho⟩
      refine rf (fun ev wo E=>?_) ?_
      · have e52:(qK7 E1) (ev (.tmp 52)) wo:=E.d 0 rfl rfl rfl;have e54:(qK7 E2) (ev (.tmp 54)) wo:=E.d 1 rfl rfl rfl;have ef:=E.func;obtain⟨Aa,ca,ea,la⟩:=e52;obtain⟨Ab,cb,eb,lb⟩:=e54;go_simp;refine qAb ((qJ5 wo Aa Ab E1.length ca E2.length cb E1 E2 (by have:=L1.out;unfold maxLen;omega) (by have:=L2.out;unfold maxLen;omega) rfl rfl la lb).mono ?_);rintro e w' ⟨rfl,hb⟩;exact⟨_,rfl,hb,rfl⟩
      refine⟨qA7 0 (qA5.free rfl) (.inr rfl) rfl rfl rfl rfl (qAr _),?_⟩;trivial
    · intro wz bz;rintro _ rfl;intro v52 h52;rintro _ rfl;intro v54 h54;rintro _ rfl _ rfl;have T3:=hh_ (TB.out.step bz);clear bz;simp only[qAq];go_simp;go_wp2_with fail
      go_ret;exact⟨congrArg (fun b=>Ending.returned (.bool b)) HFIN.out.symm,T3.out.bel⟩
end Go.Proofs.YtainiaighnjpfaaGreatDoor
