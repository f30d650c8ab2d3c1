/- The reference of evolve: may a schema follow another one? -/
import Derived.Test.YtikpmmipopmjaaaGreatDoorZQak
import Derived.Test.YtikpmmipopmjaaaGreatDoorZQy
import Derived.Test.YtikpmmipopmjaaaGreatDoorZQp
set_option linter.unusedVariables false
set_option linter.unusedSimpArgs false
namespace Go.Ms
open Go.RowKit Go.Lib
def qLm (l:List Int):Value→World→Prop:=fun v w=> ∃A c,v=.slice A l.length c∧Lay w w.heap.size A (intV l)
theorem qH2 (l:List Int):Go.Rel.Stable (qLm l):=fun v w w' ⟨A,c,h1,h2⟩ hb=>⟨A,c,h1,(h2.below hb).more hb.size⟩
theorem qMn {w:World} {B:Nat} {T:TypeId} {v:Value} {l:List Int} (h:OwnI w B T v l):qLm l v w:=by
 obtain⟨A,c,rfl,-,-⟩:=qAg h;exact⟨A,c,rfl,Lay.of_own h (Nat.le_refl _)⟩
theorem qJ3 {cs ds:List Co} {ks ls:List Int} {above:Int} {k:Nat} {d:Co} (h:ds[k]?=some d) (hd:qDs cs above d=false):qAl (cs,ks) (ds,ls) above=false:=by
 unfold qAl;simp only[Bool.and_eq_false_iff,List.all_eq_false];exact .inl ⟨d,List.mem_of_getElem? h,by simp[hd]⟩
end Go.Ms
namespace Go.Proofs.YtikpmmipopmjaaaGreatDoor
open Go.RowKit Go.Ms Go.Lib Go.Rel
set_option maxRecDepth 100000 in
set_option maxHeartbeats 4000000 in
theorem qE1 (A B:Option Addr) (n cap m capm:Nat) (cs:List Co) (ks:List Int) (A' B':Option Addr) (n' cap' m' capm':Nat) (ds:List Co) (ls:List Int) (above:Int) (w:World)
    (hn:n=cs.length) (hm:m=ks.length) (hn2:n≤100000) (hm2:m≤100000) (hA:Lay w w.heap.size A (colV cs)) (hB:Lay w w.heap.size B (intV ks)) (hk:qJu cs ks)
    (kn:n'=ds.length) (km:m'=ls.length) (kn2:n'≤100000) (km2:m'≤100000) (kA:Lay w w.heap.size A' (colV ds)) (kB:Lay w w.heap.size B' (intV ls)) (kk:qJu ds ls) :
    Calls Tryz.prog 44 #[.agg #[.slice A n cap,.slice B m capm],.agg #[.slice A' n' cap',.slice B' m' capm'],.int .i64 above] w fun e w'=>e=.returned (.bool (qAl (cs,ks) (ds,ls) above))∧Below w.heap.size w w':=by
 have HN:=Lib.hid hn;have HM:=Lib.hid hm;have HA:=Lib.hid hA;have HB:=Lib.hid hB;have HK:=Lib.hid hk;have KN:=Lib.hid kn;have KM:=Lib.hid km;have KA:=Lib.hid kA;have KB:=Lib.hid kB;have KK:=Lib.hid kk
 clear hn hm hA hB hk kn km kA kB kk;obtain⟨X,hX⟩:∃X,X=(w.alloc (.cells #[.slice A n cap,.slice B m capm] 25)).alloc (.cells #[.slice A' n' cap',.slice B' m' capm'] 25):=⟨_,rfl⟩
 have tX:Bx2 (.cells #[.slice A n cap,.slice B m capm] 25 (0,0)) (.cells #[.slice A' n' cap',.slice B' m' capm'] 25 (0,0)) w X:=by rw[hX];exact Bx2.start _ _ _ _ w
 have T0:=Lib.hid tX;clear tX
 go_enter Tryz.func44,Tryz.ntmps44
 go_wp2_with fail
 rw[←hX];clear hX
 go_loopw [7] (fun i wr=> ∃k:Nat,i=.int .i64 k∧k≤n'∧(ds.take k).all (qDs cs above)=true∧Bx2 (.cells #[.slice A n cap,.slice B m capm] 25 (0,0)) (.cells #[.slice A' n' cap',.slice B' m' capm'] 25 (0,0)) w wr) (fun i _=>n'-(RowKit.intOf i).toNat)
 case atStart=>exact⟨0,rfl,by omega,by simp,T0.out⟩
 case round=>
  obtain⟨k,rfl,hk,hall,hb⟩:=hrel;have y0:=cell_of_block (i:=0) hb.b1 rfl;have y1:=cell_of_block (i:=1) hb.b1 rfl
  by_cases hlk:k<n'
  · have hki:(k:Int)<n':=by omega
    obtain⟨⟨i1,s1,⟨k1,u1⟩,n1,m1,t1⟩,hc⟩:∃c,ds[k]?=some c:=⟨_,List.getElem?_eq_getElem (by rw[←KN.out];omega)⟩
    have htk:ds.take (k+1)=ds.take k++[((i1,s1,(k1,u1),n1,m1,t1):Co)]:=by rw[List.take_add_one,hc];rfl
    obtain⟨g',o',e',hg'⟩:=KA.out.colAt hc;subst e';have hg2:=hg'.below hb.bel;have j0:=hg2.c0;have j1:=hg2.c1;have j2:=hg2.c2;have j3:=hg2.c3;have j4:=hg2.c4;have j5:=hg2.c5;have j6:=hg2.c6;obtain⟨Y,hY⟩:∃Y,Y=wr.alloc (.cells #[.int .i64 i1,.string s1,.int .i64 k1,.bool u1,.bool n1,.int .i64 m1,.string t1] 59):=⟨_,rfl⟩
    have hbY:Below wr.heap.size wr Y:=by rw[hY];exact(Below.refl _ _).alloc (Nat.le_refl _) _
    have hq:Y.heap[wr.heap.size]?=some (.cells #[.int .i64 i1,.string s1,.int .i64 k1,.bool u1,.bool n1,.int .i64 m1,.string t1] 59 (0,0)):=by rw[hY];exact qAf _ _
    have TY:=Lib.hid (hb.step hbY);have QY:=Lib.hid hq;have HC:=Lib.hid hc;have HALL:=Lib.hid hall;have HTK:=Lib.hid htk
    generalize hcb:wr.heap.size=cb at hq QY
    clear hb hc hall htk hg' hg2 hbY hq
    go_upto_region 5 with fail
    rw[←hY]
    try rw[hcb]
    clear hY j0 j1 j2 j3 j4 j5 j6 y0 y1;have x0:=cell_of_block (i:=0) TY.out.b0 rfl;have x1:=cell_of_block (i:=1) TY.out.b0 rfl;have x2:=cell_of_block (i:=0) QY.out rfl
    go_wp2_with fail
    refine(qL8 Y A B n cap m capm cs i1 (by unfold maxLen;omega) HN.out ((HA.out.below TY.out.bel).more TY.out.bel.size)).mono ?_;rintro en w2 ⟨rfl,b2⟩;rw[qQt]
    have T2:=Lib.hid (TY.out.step b2);have Q2:=Lib.hid (qAb QY.out b2)
    clear b2 x0 x1 x2 TY QY
    cases he:evAt cs i1 with
    |none=>
     have hcol:=qTm (ab:=above) (d:=((i1,s1,(k1,u1),n1,m1,t1):Co)) he
     by_cases hab:above<i1
     · have hab':¬i1≤above:=by omega
       have hda:decide (i1≤above)=false:=by simpa using hab
       have HCOL:=Lib.hid (hcol.trans (decide_eq_true hab));clear hcol
       go_wp2_with fail
       refine qAh [isV (.bool false),isV (.bool true),isV (.bool true),isV (.pointer (some ⟨cb,0,none⟩)),isV (.int .i64 i1),isV (.int .i64 above),isV (.bool false),isV (.bool false),isV (.bool false),isV (.bool false),isV (.bool false),isV (undef),isV (undef),isV (undef),isV (undef),isV (undef),isV (undef),isV (undef),isV (undef),isV (.bool false),isV (.bool false)] (by kernel_rfl) (by kernel_rfl) ?_ ?_
       ·
         refine rb ?_;refine rf (fun ev wo E=>?_) ?_
         · have e30:ev (.tmp 30)=.bool false:=E.e 0;go_simp;exact rv
         refine rc 0 ?_;refine rq 0 (fun ev wo E=>?_) ?_
         · have e8:ev (.tmp 8)=.pointer (some ⟨cb,0,none⟩):=(E.base 8 rfl).trans rfl;go_simp;exact rv
         refine rq 1 (fun ev wo E=>?_) ?_
         · have e33:ev (.tmp 33)=.pointer (some ⟨cb,0,none⟩):=E.e 0;have hx0:=cell_of_block (i:=0) (qAb Q2.out E.bel) rfl;go_simp;exact rv
         refine rbq 0 ?_;refine rq 2 (fun ev wo E=>?_) ?_
         · have e34:ev (.tmp 34)=.int .i64 i1:=E.e 0;have e35:ev (.tmp 35)=.int .i64 above:=E.e 1;go_simp;exact rv
         refine rf (fun ev wo E=>?_) ?_
         · have e32:ev (.tmp 32)=.bool true:=E.e 0;have e36:ev (.tmp 36)=.bool false:=E.e 1;have ec:=E.const;go_simp;exact rv
         refine rc 0 ?_;refine rbq 0 ?_;refine rcq 0 1 ?_;refine ro 0 ?_;refine ro 1 ?_;refine ro 0 ?_;refine ro 2 ?_;refine ro 1 ?_;refine ro 0 ?_;refine ro 2 ?_;refine ro 1 ?_;refine rq 2 (fun ev wo E=>?_) ?_
         · have e40:ev (.tmp 40)=.bool false:=E.e 0;have e48:ev (.tmp 48)=undef:=E.e 1;have ec:=E.const;go_simp;exact rv
         refine rf (fun ev wo E=>?_) ?_
         · have e38:ev (.tmp 38)=.bool false:=E.e 0;have e49:ev (.tmp 49)=.bool false:=E.e 1;have ec:=E.const;go_simp;exact rv
         trivial
       · intro wz bz
         (iterate 21 rintro _ rfl);have T3:=Lib.hid (T2.out.step bz);clear bz;simp only[qAq];go_simp
         go_wp2_with fail
         go_roundw
         case rel=>exact⟨k+1,by go_num,by omega,by rw[HTK.out];exact qNp HALL.out HCOL.out,T3.out⟩
         case measure=>simp[RowKit.intOf];omega
     · have hab':i1≤above:=by omega
       have hda:decide (i1≤above)=true:=by simpa using hab'
       have HCOL:=Lib.hid (hcol.trans (decide_eq_false hab));clear hcol
       go_wp2_with fail
       refine qAh [isV (.bool false),isV (.bool true),isV (.bool true),isV (.pointer (some ⟨cb,0,none⟩)),isV (.int .i64 i1),isV (.int .i64 above),isV (.bool true),isV (.bool true),isV (.bool true),isV (undef),isV (undef),isV (undef),isV (undef),isV (undef),isV (undef),isV (undef),isV (undef),isV (undef),isV (undef),isV (undef),isV (.bool true)] (by kernel_rfl) (by kernel_rfl) ?_ ?_
       ·
         refine rb ?_;refine rf (fun ev wo E=>?_) ?_
         · have e30:ev (.tmp 30)=.bool false:=E.e 0;go_simp;exact rv
         refine rc 0 ?_;refine rq 0 (fun ev wo E=>?_) ?_
         · have e8:ev (.tmp 8)=.pointer (some ⟨cb,0,none⟩):=(E.base 8 rfl).trans rfl;go_simp;exact rv
         refine rq 1 (fun ev wo E=>?_) ?_
         · have e33:ev (.tmp 33)=.pointer (some ⟨cb,0,none⟩):=E.e 0;have hx0:=cell_of_block (i:=0) (qAb Q2.out E.bel) rfl;go_simp;exact rv
         refine rbq 0 ?_;refine rq 2 (fun ev wo E=>?_) ?_
         · have e34:ev (.tmp 34)=.int .i64 i1:=E.e 0;have e35:ev (.tmp 35)=.int .i64 above:=E.e 1;go_simp;exact rv
         refine rf (fun ev wo E=>?_) ?_
         · have e32:ev (.tmp 32)=.bool true:=E.e 0;have e36:ev (.tmp 36)=.bool true:=E.e 1;have ec:=E.const;go_simp;exact rv
         refine rc 0 ?_;refine ro 0 ?_;refine ro 1 ?_;refine ro2 0 ?_;refine ro2 1 ?_;refine ro2 0 ?_;refine ro2 2 ?_;refine ro2 1 ?_;refine ro2 0 ?_;refine ro2 2 ?_;refine ro2 1 ?_;refine ro 2 ?_;refine rf (fun ev wo E=>?_) ?_
         · have e38:ev (.tmp 38)=.bool true:=E.e 0;have e49:ev (.tmp 49)=undef:=E.e 1;have ec:=E.const;go_simp;exact rv
         trivial
       · intro wz bz
         (iterate 21 rintro _ rfl);have T3:=Lib.hid (T2.out.step bz);clear bz;simp only[qAq];go_simp
         go_wp2_with fail
         go_ret
         exact⟨congrArg (fun b=>Ending.returned (.bool b)) (qJ3 HC.out HCOL.out).symm,T3.out.bel⟩
    | some p=>
     have hcol:=qTw (ab:=above) (d:=((i1,s1,(k1,u1),n1,m1,t1):Co)) he;obtain⟨⟨i2,s2,⟨k2,u2⟩,n2,m2,t2⟩,hp,-⟩:=qGi he
     have hpl:p<n:=by rw[HN.out];exact(List.getElem?_eq_some_iff.1 hp).1
     obtain⟨g,o,e,hg⟩:=HA.out.colAt hp;subst e
     have hgd:cs.getD p zCo=((i2,s2,(k2,u2),n2,m2,t2):Co):=by rw[List.getD_eq_getElem?_getD,hp];rfl
     rw[hgd] at hcol
     have hsm:=fun W=>qUf ((i2,s2,(k2,u2),n2,m2,t2):Co) ((i1,s1,(k1,u1),n1,m1,t1):Co) W
     obtain⟨b,hbb⟩:∃b,qBj ((i2,s2,(k2,u2),n2,m2,t2):Co) ((i1,s1,(k1,u1),n1,m1,t1):Co)=b:=⟨_,rfl⟩;rw[hbb] at hsm hcol;simp only[coA] at hsm
     have GP:=Lib.hid hg;have HSM:=Lib.hid hsm;have HCOL:=Lib.hid hcol
     have ip:(p:Int)<n:=by omega
     clear hg hsm hcol hgd hp hbb
     cases b with
     |true=>
      go_wp2_with fail
      refine qAh [isV (.bool true),isV (.bool false),isV (.bool false),isV (undef),isV (undef),isV (undef),isV (undef),isV (.bool false),isV (.bool false),isV (.bool true),isV (.bool true),isV (.pointer (some ⟨w.heap.size,0,none⟩)),isV (.slice (some ⟨g,o,none⟩) n cap),isV (.int .i64 (p:Nat)),isV (.pointer (some ⟨g,o+p*7,none⟩)),isV (.agg #[.int .i64 i2,.string s2,.int .i64 k2,.bool u2,.bool n2,.int .i64 m2,.string t2]),isV (.agg #[.int .i64 i1,.string s1,.int .i64 k1,.bool u1,.bool n1,.int .i64 m1,.string t1]),isV (.bool true),isV (.bool false),isV (.bool false),isV (.bool false)] (by kernel_rfl) (by kernel_rfl) ?_ ?_
      ·
        refine rb ?_;refine rf (fun ev wo E=>?_) ?_
        · have e30:ev (.tmp 30)=.bool true:=E.e 0;go_simp;exact rv
        refine rc 0 ?_;refine ro 0 ?_;refine ro 1 ?_;refine ro 0 ?_;refine ro 2 ?_;refine rf (fun ev wo E=>?_) ?_
        · have e32:ev (.tmp 32)=.bool false:=E.e 0;have e36:ev (.tmp 36)=undef:=E.e 1;have ec:=E.const;go_simp;exact rv
        refine rc 0 ?_;refine rbq 0 ?_;refine rcq 0 1 ?_;refine rq 0 (fun ev wo E=>?_) ?_
        · have e3:ev (.tmp 3)=.pointer (some ⟨w.heap.size,0,none⟩):=(E.base 3 rfl).trans rfl;go_simp;exact rv
        refine rq 1 (fun ev wo E=>?_) ?_
        · have e41:ev (.tmp 41)=.pointer (some ⟨w.heap.size,0,none⟩):=E.e 0;have hx0:=cell_of_block (i:=0) (qAb T2.out.b0 E.bel) rfl;go_simp;exact rv
        refine rbq 0 ?_;refine rq 2 (fun ev wo E=>?_) ?_
        · have e42:ev (.tmp 42)=.slice (some ⟨g,o,none⟩) n cap:=E.e 0;have e43:ev (.tmp 43)=.int .i64 (p:Nat):=E.e 1;have hp0:=hpl;have hp1:=ip;go_simp;exact rv
        refine rq 1 (fun ev wo E=>?_) ?_
        · have e44:ev (.tmp 44)=.pointer (some ⟨g,o+p*7,none⟩):=E.e 0;have hb:=T2.out.bel.trans (E.bel.mono T2.out.bel.size);obtain⟨_,hx0,hx1,hx2,hx3,hx4,hx5,hx6⟩:=GP.out.below hb;go_simp;exact rv
        refine rq 0 (fun ev wo E=>?_) ?_
        · have e8:ev (.tmp 8)=.pointer (some ⟨cb,0,none⟩):=(E.base 8 rfl).trans rfl;have hx0:=cell_of_block (i:=0) (qAb Q2.out E.bel) rfl;have hx1:=cell_of_block (i:=1) (qAb Q2.out E.bel) rfl;have hx2:=cell_of_block (i:=2) (qAb Q2.out E.bel) rfl;have hx3:=cell_of_block (i:=3) (qAb Q2.out E.bel) rfl;have hx4:=cell_of_block (i:=4) (qAb Q2.out E.bel) rfl;have hx5:=cell_of_block (i:=5) (qAb Q2.out E.bel) rfl;have hx6:=cell_of_block (i:=6) (qAb Q2.out E.bel) rfl
          go_simp;exact rv
        refine rq 2 (fun ev wo E=>?_) ?_
        · have e45:ev (.tmp 45)=.agg #[.int .i64 i2,.string s2,.int .i64 k2,.bool u2,.bool n2,.int .i64 m2,.string t2]:=E.e 0;have e46:ev (.tmp 46)=.agg #[.int .i64 i1,.string s1,.int .i64 k1,.bool u1,.bool n1,.int .i64 m1,.string t1]:=E.e 1;have ef:=E.func;go_simp;refine qAd ((HSM.out wo).mono ?_);rintro e w' ⟨rfl,hb⟩;exact⟨_,rfl,hb,rfl⟩
        refine rq 1 (fun ev wo E=>?_) ?_
        · have e47:ev (.tmp 47)=.bool true:=E.e 0;go_simp;exact rv
        refine rq 2 (fun ev wo E=>?_) ?_
        · have e40:ev (.tmp 40)=.bool true:=E.e 0;have e48:ev (.tmp 48)=.bool false:=E.e 1;have ec:=E.const;go_simp;exact rv
        refine rf (fun ev wo E=>?_) ?_
        · have e38:ev (.tmp 38)=.bool false:=E.e 0;have e49:ev (.tmp 49)=.bool false:=E.e 1;have ec:=E.const;go_simp;exact rv
        trivial
      · intro wz bz
        (iterate 21 rintro _ rfl);have T3:=Lib.hid (T2.out.step bz);clear bz;simp only[qAq];go_simp
        go_wp2_with fail
        go_roundw
        case rel=>exact⟨k+1,by go_num,by omega,by rw[HTK.out];exact qNp HALL.out HCOL.out,T3.out⟩
        case measure=>simp[RowKit.intOf];omega
     |false=>
      go_wp2_with fail
      refine qAh [isV (.bool true),isV (.bool false),isV (.bool false),isV (undef),isV (undef),isV (undef),isV (undef),isV (.bool false),isV (.bool false),isV (.bool true),isV (.bool true),isV (.pointer (some ⟨w.heap.size,0,none⟩)),isV (.slice (some ⟨g,o,none⟩) n cap),isV (.int .i64 (p:Nat)),isV (.pointer (some ⟨g,o+p*7,none⟩)),isV (.agg #[.int .i64 i2,.string s2,.int .i64 k2,.bool u2,.bool n2,.int .i64 m2,.string t2]),isV (.agg #[.int .i64 i1,.string s1,.int .i64 k1,.bool u1,.bool n1,.int .i64 m1,.string t1]),isV (.bool false),isV (.bool true),isV (.bool true),isV (.bool true)] (by kernel_rfl) (by kernel_rfl) ?_ ?_
      ·
        refine rb ?_;refine rf (fun ev wo E=>?_) ?_
        · have e30:ev (.tmp 30)=.bool true:=E.e 0;go_simp;exact rv
        refine rc 0 ?_;refine ro 0 ?_;refine ro 1 ?_;refine ro 0 ?_;refine ro 2 ?_;refine rf (fun ev wo E=>?_) ?_
        · have e32:ev (.tmp 32)=.bool false:=E.e 0;have e36:ev (.tmp 36)=undef:=E.e 1;have ec:=E.const;go_simp;exact rv
        refine rc 0 ?_;refine rbq 0 ?_;refine rcq 0 1 ?_;refine rq 0 (fun ev wo E=>?_) ?_
        · have e3:ev (.tmp 3)=.pointer (some ⟨w.heap.size,0,none⟩):=(E.base 3 rfl).trans rfl;go_simp;exact rv
        refine rq 1 (fun ev wo E=>?_) ?_
        · have e41:ev (.tmp 41)=.pointer (some ⟨w.heap.size,0,none⟩):=E.e 0;have hx0:=cell_of_block (i:=0) (qAb T2.out.b0 E.bel) rfl;go_simp;exact rv
        refine rbq 0 ?_;refine rq 2 (fun ev wo E=>?_) ?_
        · have e42:ev (.tmp 42)=.slice (some ⟨g,o,none⟩) n cap:=E.e 0;have e43:ev (.tmp 43)=.int .i64 (p:Nat):=E.e 1;have hp0:=hpl;have hp1:=ip;go_simp;exact rv
        refine rq 1 (fun ev wo E=>?_) ?_
        · have e44:ev (.tmp 44)=.pointer (some ⟨g,o+p*7,none⟩):=E.e 0;have hb:=T2.out.bel.trans (E.bel.mono T2.out.bel.size);obtain⟨_,hx0,hx1,hx2,hx3,hx4,hx5,hx6⟩:=GP.out.below hb;go_simp;exact rv
        refine rq 0 (fun ev wo E=>?_) ?_
        · have e8:ev (.tmp 8)=.pointer (some ⟨cb,0,none⟩):=(E.base 8 rfl).trans rfl;have hx0:=cell_of_block (i:=0) (qAb Q2.out E.bel) rfl;have hx1:=cell_of_block (i:=1) (qAb Q2.out E.bel) rfl;have hx2:=cell_of_block (i:=2) (qAb Q2.out E.bel) rfl;have hx3:=cell_of_block (i:=3) (qAb Q2.out E.bel) rfl;have hx4:=cell_of_block (i:=4) (qAb Q2.out E.bel) rfl;have hx5:=cell_of_block (i:=5) (qAb Q2.out E.bel) rfl;have hx6:=cell_of_block (i:=6) (qAb Q2.out E.bel) rfl
          go_simp;exact rv
        refine rq 2 (fun ev wo E=>?_) ?_
        · have e45:ev (.tmp 45)=.agg #[.int .i64 i2,.string s2,.int .i64 k2,.bool u2,.bool n2,.int .i64 m2,.string t2]:=E.e 0;have e46:ev (.tmp 46)=.agg #[.int .i64 i1,.string s1,.int .i64 k1,.bool u1,.bool n1,.int .i64 m1,.string t1]:=E.e 1;have ef:=E.func;go_simp;refine qAd ((HSM.out wo).mono ?_);rintro e w' ⟨rfl,hb⟩;exact⟨_,rfl,hb,rfl⟩
        refine rq 1 (fun ev wo E=>?_) ?_
        · have e47:ev (.tmp 47)=.bool false:=E.e 0;go_simp;exact rv
        refine rq 2 (fun ev wo E=>?_) ?_
        · have e40:ev (.tmp 40)=.bool true:=E.e 0;have e48:ev (.tmp 48)=.bool true:=E.e 1;have ec:=E.const;go_simp;exact rv
        refine rf (fun ev wo E=>?_) ?_
        · have e38:ev (.tmp 38)=.bool false:=E.e 0;have e49:ev (.tmp 49)=.bool true:=E.e 1;have ec:=E.const;go_simp;exact rv
        trivial
      · intro wz bz
        (iterate 21 rintro _ rfl);have T3:=Lib.hid (T2.out.step bz);clear bz;simp only[qAq];go_simp
        go_wp2_with fail
        go_ret
        exact⟨congrArg (fun b=>Ending.returned (.bool b)) (qJ3 HC.out HCOL.out).symm,T3.out.bel⟩
  · have hki:¬(k:Int)<n':=by omega
    obtain rfl:k=n':=by omega
    have hfull:ds.take k=ds:=List.take_of_length_le (by have:=KN.out;omega);rw[hfull] at hall
    have h1:=fun (W:World) (hb:Below w.heap.size w W)=>qJ9 A B n cap m capm cs ks W HN.out HM.out hn2 hm2 ((HA.out.below hb).more hb.size) ((HB.out.below hb).more hb.size) HK.out
    have h2:=fun (W:World) (hb:Below w.heap.size w W)=>qJ9 A' B' k cap' m' capm' ds ls W KN.out KM.out kn2 km2 ((KA.out.below hb).more hb.size) ((KB.out.below hb).more hb.size) KK.out
    have hl1:(qA4 (cs,ks)).length=m:=by unfold qA4;rw[List.length_map];exact HM.out.symm
    have hl2:(qA4 (ds,ls)).length=m':=by unfold qA4;rw[List.length_map];exact KM.out.symm
    have hfin:qAl (cs,ks) (ds,ls) above=decide (qA4 (cs,ks)=qA4 (ds,ls)):=by unfold qAl;rw[hall];simp
    generalize qA4 (cs,ks)=E1 at h1 hl1 hfin
    generalize qA4 (ds,ls)=E2 at h2 hl2 hfin
    have H1:=Lib.hid h1;have H2:=Lib.hid h2;have L1:=Lib.hid hl1;have L2:=Lib.hid hl2;have HFIN:=Lib.hid hfin;have TB:=Lib.hid hb
    clear h1 h2 hl1 hl2 hfin hall hfull hb
    go_wp2_with fail
    refine qAh [isV (.agg #[.slice A n cap,.slice B m capm]),qLm E1,isV (.agg #[.slice A' k cap',.slice B' m' capm']),qLm E2,isV (.bool (decide (E1=E2))),isV (.bool (decide (E1=E2)))] (by kernel_rfl) (by kernel_rfl) ?_ ?_
    ·
      refine rf (fun ev wo E=>?_) ?_
      · have e3:ev (.tmp 3)=.pointer (some ⟨w.heap.size,0,none⟩):=(E.base 3 rfl).trans rfl;have hx0:=cell_of_block (i:=0) (qAb TB.out.b0 E.bel) rfl;have hx1:=cell_of_block (i:=1) (qAb TB.out.b0 E.bel) rfl;go_simp;exact rv
      refine⟨qA9 (qAw.free rfl) (qH2 _) (fun ev wo E=>?_),?_⟩
      · have e51:ev (.tmp 51)=.agg #[.slice A n cap,.slice B m capm]:=E.e 0;have ef:=E.func;have hbw:=TB.out.bel.trans (E.bel.mono TB.out.bel.size);go_simp;refine qAd ((H1.out wo hbw).mono ?_);rintro e w' ⟨v,rfl,ho,hb⟩;exact⟨_,rfl,hb,qMn ho⟩
      refine rf (fun ev wo E=>?_) ?_
      · have e4:ev (.tmp 4)=.pointer (some ⟨w.heap.size+1,0,none⟩):=(E.base 4 rfl).trans rfl;have hx0:=cell_of_block (i:=0) (qAb TB.out.b1 E.bel) rfl;have hx1:=cell_of_block (i:=1) (qAb TB.out.b1 E.bel) rfl;go_simp;exact rv
      refine⟨qA9 (qAw.free rfl) (qH2 _) (fun ev wo E=>?_),?_⟩
      · have e53:ev (.tmp 53)=.agg #[.slice A' k cap',.slice B' m' capm']:=E.e 0;have ef:=E.func;have hbw:=TB.out.bel.trans (E.bel.mono TB.out.bel.size);go_simp;refine qAd ((H2.out wo hbw).mono ?_);rintro e w' ⟨v,rfl,ho,hb⟩;exact⟨_,rfl,hb,qMn ho⟩
      refine rf (fun ev wo E=>?_) ?_
      · have e52:(qLm E1) (ev (.tmp 52)) wo:=E.d 0 rfl rfl rfl;have e54:(qLm E2) (ev (.tmp 54)) wo:=E.d 1 rfl rfl rfl;have ef:=E.func;obtain⟨Aa,ca,ea,la⟩:=e52;obtain⟨Ab,cb,eb,lb⟩:=e54;go_simp;refine qAd ((qJ8 wo Aa Ab E1.length ca E2.length cb E1 E2 (by have:=L1.out;unfold maxLen;omega) (by have:=L2.out;unfold maxLen;omega) rfl rfl la lb).mono ?_);rintro e w' ⟨rfl,hb⟩;exact⟨_,rfl,hb,rfl⟩
      refine⟨qBc 0 (qAw.free rfl) (.inr rfl) rfl rfl rfl rfl (qAr _),?_⟩;trivial
    · intro wz bz
      rintro _ rfl
      intro v52 h52
      rintro _ rfl
      intro v54 h54
      rintro _ rfl _ rfl;have T3:=Lib.hid (TB.out.step bz);clear bz;simp only[qAq];go_simp
      go_wp2_with fail
      go_ret
      exact⟨congrArg (fun b=>Ending.returned (.bool b)) HFIN.out.symm,T3.out.bel⟩
end Go.Proofs.YtikpmmipopmjaaaGreatDoor
