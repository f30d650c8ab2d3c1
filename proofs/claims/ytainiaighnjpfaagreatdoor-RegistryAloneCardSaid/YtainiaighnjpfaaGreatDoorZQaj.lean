/- Registry's laws: RegistryAlone, walked. The laid variables, as the cells' contracts ask them; a world for the witness. Schemas: an argument's lists, read as such. Two numbers among the arguments. Schemas of a seed, plainly. Seeds of schemas: one column, walked. What lies at an address lies at a plain one. Seeds of schemas: an argument's list of fives, read as such. Schemas: columns of one's own, stored; a schema cut. Schemas: names of whatever length; schemas that lie in memory. Schemas: a number among numbers; four texts joined; the lines of a schema. Schemas, plainly: what is read has that text; what may be is read of its text as it was. Schemas, plainly: a kind's word as the reference looks for it. Schemas, plainly: what may be is read of its text as it was. Schemas of a seed, plainly: their texts are short, and have a line feed for each column. Seeds of schemas: the schema of a seed, walked. Evolve's laws: a seed and rows of numbers among the arguments, read as such. Registry's laws: offers among the arguments, read as such. -/
import Derived.Test.YtainiaighnjpfaaGreatDoorZQai
import Derived.Test.YtainiaighnjpfaaGreatDoorZQh
import Derived.Test.YtainiaighnjpfaaGreatDoorZQd
import Derived.Lib.LaidU8
import Derived.Lib.LaidTab
import Derived.Stop.LaidErr
import Derived.Deep.DeepHandedRow
import Derived.OpenShut
import Derived.ShutString
import Derived.ProofKit
import Derived.Test.YtainiaighnjpfaaGreatDoorZQa
import Derived.Test.YtainiaighnjpfaaGreatDoorZQp
import Derived.Test.YtainiaighnjpfaaGreatDoorZQb
import Derived.Deep.Slices
import Derived.Deep.Fields
import Derived.ChangeSame
import Derived.Lib.SmallJoins
import Derived.Test.YtainiaighnjpfaaGreatDoorZQag
import Derived.Test.YtainiaighnjpfaaGreatDoorZQx
import Derived.Deep.DeepCutAuto
import Derived.Test.YtainiaighnjpfaaGreatDoorZQu
import Derived.Test.YtainiaighnjpfaaGreatDoorZQo
import Derived.Test.YtainiaighnjpfaaGreatDoorZQr
import Derived.Test.YtainiaighnjpfaaGreatDoorZQac
import Derived.Lib.ItoaLen
import Derived.Test.YtainiaighnjpfaaGreatDoorZQt
import Derived.Lib.ItoaMem
set_option linter.unusedVariables false
set_option linter.unusedSimpArgs false
namespace Go.Proofs.YtainiaighnjpfaaGreatDoor
open Go.RowKit Go.Ms Go.Lib Go.Maps Go.WideMaps Go.Rel
set_option maxRecDepth 100000 in
set_option maxHeartbeats 8000000 in
theorem qF2 (A:Option Addr) (n c:Nat) (V:List (Int×Int×Int)) (bs:Int) (w:World) (hs:qNe w A n V) (hx: -9223372036854775808≤bs∧bs≤9223372036854775807) (hE:Env w) :
    Calls Tryz.prog 5 #[.slice A n c,.int .i64 bs] w fun e w'=>e=.returned (.bool true)∧Below w.heap.size w w':=by
 have HS:=Lib.hid hs;have HX:=Lib.hid hx;have HE:=Lib.hid hE
 have hnew:=qKl;have HNEW:=Lib.hid hnew;clear hs hx hE hnew
 go_enter Tryz.func5,Tryz.ntmps5
 go_wp2_with fail
 refine(HNEW.out _).mono ?_;rintro en w1 ⟨gb,rfl,l1,b1,o1⟩
 have L1:=Lib.hid l1;have B1:=Lib.hid b1;have O1:=Lib.hid o1
 clear l1 b1 o1
 go_wp2_with fail
 refine(HNEW.out _).mono ?_;rintro en w2 ⟨go,rfl,l2,b2,o2⟩
 have L2:=Lib.hid l2;have B2:=Lib.hid b2;have O2:=Lib.hid o2
 clear l2 b2 o2
 go_wp2_with fail
 refine(HNEW.out _).mono ?_;rintro en w3 ⟨gt,rfl,l3,b3,o3⟩
 have K:AlSt gb go gt [] [] [] w w3:=by
  have c1:=RgL.lt L1.out;have c2:=RgL.lt L2.out;have z1:=B1.out.size;have z2:=B2.out.size;have q1:=O1.out;have q2:=O2.out;exact⟨(L1.out.to B2.out).to b3,L2.out.to b3,l3,by omega,by omega,by omega,(B1.out.trans (B2.out.mono z1)).trans (b3.mono (by omega)),q1,by omega,by omega⟩
 have K0:=Lib.hid K;clear K l3 b3 o3 L1 B1 O1 L2 B2 O2 HNEW
 go_wp2_with fail
 go_loopw [8] (fun s8 wr=> ∃(k:Nat) (G Go Gt:Rg),k≤n∧k≤12∧s8=.int .i64 k∧AlSt gb go gt G Go Gt w wr∧qCw [97] [98] G Go Gt) (fun s8 _=>12-(RowKit.intOf s8).toNat)
 case atStart=>exact⟨0,_,_,_,Nat.zero_le _,by omega,rfl,K0.out,qCw.nil _ _⟩
 case round=>
  obtain⟨k,G,Go,Gt,hk,hk12,rfl,hK,hA⟩:=hrel
  have K:=Lib.hid hK;have HAP:=Lib.hid hA
  clear hK hA K0;have hnn:=HS.out.nn
  by_cases hk1:k<n
  · have tk:(k:Int)<n:=by omega
    have tk0:(0:Int)≤k:=by omega
    by_cases hk2:k<12
    · have tk2:(k:Int)<12:=by omega
      obtain⟨g,o,⟨x0,x1,x2⟩,eA,-,hN,hx0,hx1,hx2⟩:=HS.out.at_ hk1;subst eA
      have HN:=Lib.hid hN;have HX0:=Lib.hid hx0;have HX1:=Lib.hid hx1;have HX2:=Lib.hid hx2
      clear hN hx0 hx1 hx2;simp only at HX0 HX1 HX2 HN
      go_wp2_with fail
      refine(qEc bs 4096 HX.out.1 HX.out.2 (by omega) (by omega) wr).mono ?_;rintro en w1 ⟨rfl,b1⟩;have K1:=Lib.hid (K.out.to b1);clear b1 K;obtain⟨q,hq⟩:∃q,q=bs%4096:=⟨_,rfl⟩
      have q0:0≤q∧q<4096:=by omega
      rw[←hq];clear hq;have hbit:=(qP2 q q0.1 (by omega) k).1
      by_cases hb:(q/2^k)%2=1
      · have hb2:((q/2^k)%2==1)=true:=by rw[hb];rfl
        have hb3:(bits .and .i64 (q/2^k) 1==1)=true:=by rw[hbit,hb];rfl
        rw[hb] at hbit;clear hb;have hap:=HAP.out.swap.add (by decide) (qBx (x0,x1,x2))
        obtain⟨Gn,Gm,N,E,hr1,hr2,hap2⟩:∃Gn Gm N E,qBf G [98] (qBx (x0,x1,x2))=(Gn,N,E)∧qBf Gt [98] (qBx (x0,x1,x2))=(Gm,N,E)∧qCw [97] [98] Gn Go Gm:=by
         have h2:=congrArg Prod.fst hap.1;have h3:=congrArg Prod.snd hap.1;refine⟨(qBf G [98] (qBx (x0,x1,x2))).1,(qBf Gt [98] (qBx (x0,x1,x2))).1,(qBf G [98] (qBx (x0,x1,x2))).2.1,(qBf G [98] (qBx (x0,x1,x2))).2.2,rfl,?_,hap.2.swap⟩;rw[h2,h3]
        have HR1:=Lib.hid hr1;have HR2:=Lib.hid hr2;have HAP2:=Lib.hid hap2
        clear hap hr1 hr2 hap2 HAP hbit;have y:=(HN.out _ K1.out.bel);have y0:=y.c0;have y1:=y.c1;have y2:=y.c2;clear y
        go_wp2_with fail
        refine(qFb (x0,x1,x2) _ HX0.out HX1.out HX2.out).mono ?_;rintro en w2 ⟨r,rfl,b2,hl2,-⟩
        have K2:=Lib.hid (K1.out.to b2);have L2:=Lib.hid hl2
        clear b2 hl2 y0 y1 y2 K1 hb2 hb3
        go_wp2_with fail
        have had:=qDy gb G ⟨#[98]⟩ r (qBx (x0,x1,x2)) w2 (by decide) K2.out.la L2.out (qFt _) (HE.out.below K2.out.bel);rw[show(⟨#[98]⟩:ByteArray).data.toList=[98] from rfl,HR1.out] at had;refine had.mono ?_;rintro en w3 ⟨rfl,hl3,hg3⟩;have K3:=Lib.hid (K2.out.one hl3 hg3);clear hl3 hg3 had K2 L2;have y:=(HN.out _ K3.out.bel);have y0:=y.c0;have y1:=y.c1;have y2:=y.c2;clear y
        go_wp2_with fail
        refine(qFb (x0,x1,x2) _ HX0.out HX1.out HX2.out).mono ?_;rintro en w4 ⟨r,rfl,b4,hl4,-⟩
        have K4:=Lib.hid (K3.out.to b4);have L4:=Lib.hid hl4
        clear b4 hl4 y0 y1 y2 K3
        go_wp2_with fail
        have had:=qDy gt Gt ⟨#[98]⟩ r (qBx (x0,x1,x2)) w4 (by decide) K4.out.lc L4.out (qFt _) (HE.out.below K4.out.bel);rw[show(⟨#[98]⟩:ByteArray).data.toList=[98] from rfl,HR2.out] at had;refine had.mono ?_;rintro en w5 ⟨rfl,hl5,hg5⟩;have K5:=Lib.hid (K4.out.three hl5 hg5);clear hl5 hg5 had K4 L4
        have hne1:(N != N)=false:=by simp
        have hne2:(E != E)=false:=by simp
        go_wp2_with fail
        exact⟨⟨k+1,_,_,_,by omega,by omega,by go_num,K5.out,HAP2.out⟩,by simp[RowKit.intOf];omega⟩
      · have hb2:((q/2^k)%2==1)=false:=by rw[beq_eq_false_iff_ne];exact hb
        have hb3:(bits .and .i64 (q/2^k) 1==1)=false:=by rw[hbit];exact hb2
        clear hb;have hap:=HAP.out.add (by decide) (qBx (x0,x1,x2))
        obtain⟨Gn,Gm,N,E,hr1,hr2,hap2⟩:∃Gn Gm N E,qBf G [97] (qBx (x0,x1,x2))=(Gn,N,E)∧qBf Go [97] (qBx (x0,x1,x2))=(Gm,N,E)∧qCw [97] [98] Gn Gm Gt:=by
         have h2:=congrArg Prod.fst hap.1;have h3:=congrArg Prod.snd hap.1;refine⟨(qBf G [97] (qBx (x0,x1,x2))).1,(qBf Go [97] (qBx (x0,x1,x2))).1,(qBf G [97] (qBx (x0,x1,x2))).2.1,(qBf G [97] (qBx (x0,x1,x2))).2.2,rfl,?_,hap.2⟩;rw[h2,h3]
        have HR1:=Lib.hid hr1;have HR2:=Lib.hid hr2;have HAP2:=Lib.hid hap2
        clear hap hr1 hr2 hap2 HAP hbit;have y:=(HN.out _ K1.out.bel);have y0:=y.c0;have y1:=y.c1;have y2:=y.c2;clear y
        go_wp2_with fail
        refine(qFb (x0,x1,x2) _ HX0.out HX1.out HX2.out).mono ?_;rintro en w2 ⟨r,rfl,b2,hl2,-⟩
        have K2:=Lib.hid (K1.out.to b2);have L2:=Lib.hid hl2
        clear b2 hl2 y0 y1 y2 K1 hb2 hb3
        go_wp2_with fail
        have had:=qDy gb G ⟨#[97]⟩ r (qBx (x0,x1,x2)) w2 (by decide) K2.out.la L2.out (qFt _) (HE.out.below K2.out.bel);rw[show(⟨#[97]⟩:ByteArray).data.toList=[97] from rfl,HR1.out] at had;refine had.mono ?_;rintro en w3 ⟨rfl,hl3,hg3⟩;have K3:=Lib.hid (K2.out.one hl3 hg3);clear hl3 hg3 had K2 L2;have y:=(HN.out _ K3.out.bel);have y0:=y.c0;have y1:=y.c1;have y2:=y.c2;clear y
        go_wp2_with fail
        refine(qFb (x0,x1,x2) _ HX0.out HX1.out HX2.out).mono ?_;rintro en w4 ⟨r,rfl,b4,hl4,-⟩
        have K4:=Lib.hid (K3.out.to b4);have L4:=Lib.hid hl4
        clear b4 hl4 y0 y1 y2 K3
        go_wp2_with fail
        have had:=qDy go Go ⟨#[97]⟩ r (qBx (x0,x1,x2)) w4 (by decide) K4.out.lb L4.out (qFt _) (HE.out.below K4.out.bel);rw[show(⟨#[97]⟩:ByteArray).data.toList=[97] from rfl,HR2.out] at had;refine had.mono ?_;rintro en w5 ⟨rfl,hl5,hg5⟩;have K5:=Lib.hid (K4.out.two hl5 hg5);clear hl5 hg5 had K4 L4
        have hne1:(N != N)=false:=by simp
        have hne2:(E != E)=false:=by simp
        go_wp2_with fail
        exact⟨⟨k+1,_,_,_,by omega,by omega,by go_num,K5.out,HAP2.out⟩,by simp[RowKit.intOf];omega⟩
    · have tk2:¬((k:Int)<12):=by omega
      have hla:=HAP.out.la;have hlb:=HAP.out.lb;have hln:=HAP.out.len
      have ha1:rgAt G [97]=rgAt Go [97]:=by unfold rgAt;rw[hla]
      have ha2:rgAt G [98]=rgAt Gt [98]:=by unfold rgAt;rw[hlb]
      have HA1:=Lib.hid ha1;have HA2:=Lib.hid ha2;have HLN:=Lib.hid hln
      clear hla hlb hln ha1 ha2 HAP
      go_wp2_with fail
      have hq:=qBq gb G ⟨#[97]⟩ wr (by decide) K.out.la;rw[show(⟨#[97]⟩:ByteArray).data.toList=[97] from rfl,HA1.out] at hq;refine hq.mono ?_;clear hq;rintro en w1 ⟨rfl,rfl⟩
      go_wp2_with fail
      have hq:=qBq go Go ⟨#[97]⟩ w1 (by decide) K.out.lb;rw[show(⟨#[97]⟩:ByteArray).data.toList=[97] from rfl] at hq;refine hq.mono ?_;clear hq;rintro en w2 ⟨rfl,rfl⟩
      go_wp2_with fail
      have hq:=qBq gb G ⟨#[98]⟩ w2 (by decide) K.out.la;rw[show(⟨#[98]⟩:ByteArray).data.toList=[98] from rfl,HA2.out] at hq;refine hq.mono ?_;clear hq;rintro en w3 ⟨rfl,rfl⟩
      go_wp2_with fail
      have hq:=qBq gt Gt ⟨#[98]⟩ w3 (by decide) K.out.lc;rw[show(⟨#[98]⟩:ByteArray).data.toList=[98] from rfl] at hq;refine hq.mono ?_;clear hq;rintro en w4 ⟨rfl,rfl⟩
      go_wp2_with fail
      refine(qBj gb G _ K.out.la).mono ?_;rintro en w5 ⟨v5,rfl,ho5,b5⟩;obtain⟨A5,c5,e5,-⟩:=qAh ho5;subst e5;have K5:=Lib.hid (K.out.to b5);clear ho5 b5
      go_wp2_with fail
      refine(qBj go Go _ K5.out.lb).mono ?_;rintro en w6 ⟨v6,rfl,ho6,b6⟩;obtain⟨A6,c6,e6,-⟩:=qAh ho6;subst e6;have K6:=Lib.hid (K5.out.to b6);clear ho6 b6
      go_wp2_with fail
      refine(qBj gt Gt _ K6.out.lc).mono ?_;rintro en w7 ⟨v7,rfl,ho7,b7⟩;obtain⟨A7,c7,e7,-⟩:=qAh ho7;subst e7;have K7:=Lib.hid (K6.out.to b7);clear ho7 b7;simp only[List.length_map];have hz:=K7.out.la
      have hw:IntKind.i64.wrap ((Go.length:Int)+(Gt.length:Int))=(G.length:Int):=by
       obtain⟨_,_,_,hz⟩:=hz;have h1:=hz.ok.len;have h2:=HLN.out;rw[IntWalk.i64_in _ (by omega)];omega
      have hw2:((G.length:Int)==(G.length:Int))=true:=by simp
      clear hz
      go_wp2_with fail
      refine(qHc w7 (HE.out.below K7.out.bel)).mono ?_;rintro en w8 ⟨rfl,b8⟩;have K8:=Lib.hid (K7.out.to b8);clear b8
      go_wp2_with fail
      go_ret
      exact⟨rfl,K8.out.bel⟩
  · have tk:¬((k:Int)<n):=by omega
    have hla:=HAP.out.la;have hlb:=HAP.out.lb;have hln:=HAP.out.len
    have ha1:rgAt G [97]=rgAt Go [97]:=by unfold rgAt;rw[hla]
    have ha2:rgAt G [98]=rgAt Gt [98]:=by unfold rgAt;rw[hlb]
    have HA1:=Lib.hid ha1;have HA2:=Lib.hid ha2;have HLN:=Lib.hid hln
    clear hla hlb hln ha1 ha2 HAP
    go_wp2_with fail
    have hq:=qBq gb G ⟨#[97]⟩ wr (by decide) K.out.la;rw[show(⟨#[97]⟩:ByteArray).data.toList=[97] from rfl,HA1.out] at hq;refine hq.mono ?_;clear hq;rintro en w1 ⟨rfl,rfl⟩
    go_wp2_with fail
    have hq:=qBq go Go ⟨#[97]⟩ w1 (by decide) K.out.lb;rw[show(⟨#[97]⟩:ByteArray).data.toList=[97] from rfl] at hq;refine hq.mono ?_;clear hq;rintro en w2 ⟨rfl,rfl⟩
    go_wp2_with fail
    have hq:=qBq gb G ⟨#[98]⟩ w2 (by decide) K.out.la;rw[show(⟨#[98]⟩:ByteArray).data.toList=[98] from rfl,HA2.out] at hq;refine hq.mono ?_;clear hq;rintro en w3 ⟨rfl,rfl⟩
    go_wp2_with fail
    have hq:=qBq gt Gt ⟨#[98]⟩ w3 (by decide) K.out.lc;rw[show(⟨#[98]⟩:ByteArray).data.toList=[98] from rfl] at hq;refine hq.mono ?_;clear hq;rintro en w4 ⟨rfl,rfl⟩
    go_wp2_with fail
    refine(qBj gb G _ K.out.la).mono ?_;rintro en w5 ⟨v5,rfl,ho5,b5⟩;obtain⟨A5,c5,e5,-⟩:=qAh ho5;subst e5;have K5:=Lib.hid (K.out.to b5);clear ho5 b5
    go_wp2_with fail
    refine(qBj go Go _ K5.out.lb).mono ?_;rintro en w6 ⟨v6,rfl,ho6,b6⟩;obtain⟨A6,c6,e6,-⟩:=qAh ho6;subst e6;have K6:=Lib.hid (K5.out.to b6);clear ho6 b6
    go_wp2_with fail
    refine(qBj gt Gt _ K6.out.lc).mono ?_;rintro en w7 ⟨v7,rfl,ho7,b7⟩;obtain⟨A7,c7,e7,-⟩:=qAh ho7;subst e7;have K7:=Lib.hid (K6.out.to b7);clear ho7 b7;simp only[List.length_map];have hz:=K7.out.la
    have hw:IntKind.i64.wrap ((Go.length:Int)+(Gt.length:Int))=(G.length:Int):=by
     obtain⟨_,_,_,hz⟩:=hz;have h1:=hz.ok.len;have h2:=HLN.out;rw[IntWalk.i64_in _ (by omega)];omega
    have hw2:((G.length:Int)==(G.length:Int))=true:=by simp
    clear hz
    go_wp2_with fail
    refine(qHc w7 (HE.out.below K7.out.bel)).mono ?_;rintro en w8 ⟨rfl,b8⟩;have K8:=Lib.hid (K7.out.to b8);clear b8
    go_wp2_with fail
    go_ret
    exact⟨rfl,K8.out.bel⟩
end Go.Proofs.YtainiaighnjpfaaGreatDoor
namespace Go.Proofs.YtainiaighnjpfaaGreatDoor
open Go.RowKit Go.Ms Go.Lib
theorem own:ownKnob Tryz.prog.godebug=none:=by kernel_rfl
theorem laidOut:laidOutB Tryz.prog=true:=by kernel_rfl
theorem qUb:U8Extra Tryz.prog Tryz.lays260_ren:={
  n3:=by kernel_rfl
  n4:=by kernel_rfl
  y3:=by kernel_rfl
  y4:=by kernel_rfl
  c5:=by kernel_rfl
  c119:=by kernel_rfl
  c138:=by kernel_rfl }
theorem qK7:Rows.laid_unicode_utf8_first=firstData:=by kernel_rfl
theorem qJ2:(Rows.laid_unicode_utf8_acceptRanges:DataW Unit)=acceptData:=by kernel_rfl
theorem qN6:(Rows.laid_internal_strconv_uint64pow10:DataW Unit)=Lib.tabData .u64 Lib.pow10Tab:=by kernel_rfl
theorem qOw: "*errors.errorString"= "*"++ "errors.errorString":=by decide
theorem qS1 (u:TypeId) (h:Tryz.prog.typeName? 3 u=some "*errors.errorString"):u=287:=
  typeName_ptr_named (nm:= "errors.errorString") (by rw[←qOw];kernel_rfl) (by kernel_rfl) (by decide) u (by rw[←qOw];exact h)
def qQy:List (String×DataW Unit):=[("math/bits.deBruijn32tab",Rows.laid_math_bits_deBruijn32tab),("math/bits.deBruijn64tab",Rows.laid_math_bits_deBruijn64tab),("internal/strconv.uint64pow10",Rows.laid_internal_strconv_uint64pow10),("unicode/utf8.acceptRanges",Rows.laid_unicode_utf8_acceptRanges),("strconv.ErrRange",Rows.laid_strconv_ErrRange),("strconv.ErrSyntax",Rows.laid_strconv_ErrSyntax),("unicode/utf8.first",Rows.laid_unicode_utf8_first)]
theorem qUy {W:World} (h:laidMetH Tryz.prog qQy W) (hsh:W.ShapedOpen Tryz.prog):Env W:=by
 have h':laidMet Tryz.prog [("math/bits.deBruijn32tab",Rows.laid_math_bits_deBruijn32tab),("math/bits.deBruijn64tab",Rows.laid_math_bits_deBruijn64tab),("internal/strconv.uint64pow10",Rows.laid_internal_strconv_uint64pow10),("unicode/utf8.acceptRanges",Rows.laid_unicode_utf8_acceptRanges),("strconv.ErrRange",Rows.laid_strconv_ErrRange),("strconv.ErrSyntax",Rows.laid_strconv_ErrSyntax),("unicode/utf8.first",Rows.laid_unicode_utf8_first)] W:=h;have h2:=h'.tail.tail;have h4:=h2.tail.tail;refine⟨?_,?_,?_,?_,?_⟩
 · have h3:=laidMet.reads h' (n:= "unicode/utf8.first") (d:=Rows.laid_unicode_utf8_first) (by simp);have h5:=laidMet.reads h' (n:= "unicode/utf8.acceptRanges") (d:=Rows.laid_unicode_utf8_acceptRanges) (by simp);rw[qK7] at h3;rw[qJ2] at h5;exact utf8Tabs_of_reads Tryz.lays260 qUb h3 h5
 · rw[qN6] at h2;exact Lib.tabIs_of_head (g:=5) (t:=291) (e:=224) (n:=20) (by kernel_rfl) (by kernel_rfl) (by kernel_rfl) (by kernel_rfl) (by kernel_rfl) (by kernel_rfl) h2
 · obtain⟨a,s,hv,_⟩:=laid_sentinel (ti:=179) (tp:=287) (te:=289) (ts:=9) (g:=3) h4.tail (by kernel_rfl) (by kernel_rfl) Tryz.underlying179 qS1 Tryz.underlying287 Tryz.underlying289 rfl rfl Tryz.underlying9 (by kernel_rfl) (by kernel_rfl);exact⟨_,_,hv⟩
 · obtain⟨a,s,hv,_⟩:=laid_sentinel (ti:=179) (tp:=287) (te:=289) (ts:=9) (g:=4) h4 (by kernel_rfl) (by kernel_rfl) Tryz.underlying179 qS1 Tryz.underlying287 Tryz.underlying289 rfl rfl Tryz.underlying9 (by kernel_rfl) (by kernel_rfl);exact⟨_,_,hv⟩
 · obtain⟨m,hm⟩:=Go.Proofs.cell_of_shapedOpen_int (P:=Tryz.prog) (g:=0) (zero:=#[.int .i64 0]) (t:=3) hsh (of_decide_eq_true (by kernel_rfl)) (by kernel_rfl) rfl (by kernel_rfl) (by kernel_rfl) Tryz.underlying3;exact⟨m,hm⟩
def putCells (cs:Array Value):Obj→Obj
  | .cells _ t frozen=>.cells cs t frozen
  |o=>o
def qP4:DataW Unit→Array Value
  | .agg l=>(l.map fun
    | .lit (.int k z)=>Value.int k z
    |_=>undef).toArray
  |_=>#[]
noncomputable def qPe:Nat:=(World.holding Tryz.prog default ⟨#[],#[],[]⟩).heap.size
def qT8:ByteArray:=⟨#[105,110,118,97,108,105,100,32,115,121,110,116,97,120]⟩
def qT9:ByteArray:=⟨#[118,97,108,117,101,32,111,117,116,32,111,102,32,114,97,110,103,101]⟩
noncomputable def qG7 (os:Os):World:=
  let w0:=World.holding Tryz.prog os ⟨#[.cells #[.string qT8] 289,.cells #[.string qT9] 289],#[],[]⟩
  { w0 with heap:=((((((w0.heap.modify 1 (putCells (firstTab.map (Value.int .u8)).toArray)).modify 2 (putCells ((List.range 16).flatMap fun i=>[Value.int .u8 (accLo i),Value.int .u8 (accHi i)]).toArray)).modify 5 (putCells (qP4 Rows.laid_internal_strconv_uint64pow10))).modify 6 (putCells (qP4 Rows.laid_math_bits_deBruijn32tab))).modify 7 (putCells (qP4 Rows.laid_math_bits_deBruijn64tab))).modify 3 (putCells #[.iface 287 (.pointer (some ⟨qPe,0,none⟩))])).modify 4 (putCells #[.iface 287 (.pointer (some ⟨qPe+1,0,none⟩))]) }
end Go.Proofs.YtainiaighnjpfaaGreatDoor
namespace Go.Ms
open Go.RowKit Go.Lib Go.ChangeShapes Go.WideShapes Go.Deep
def I64 (n:Int):Prop:= -9223372036854775808≤n∧n≤9223372036854775807
theorem I64.of {n:Int} (h:(Lit.int .i64 n).wf=true):I64 n:=bounds_i64 h
section
variable {H:Type} {enc:TypeId×Value→H} {P:Program} {w:World} {base:Nat} {spare:Nat→Bool} {held:Bool}
theorem qQc {α:Type} (f:α→List Value) (k:Nat) (hk:∀x,(f x).length=k):∀(l:List α) (j:Nat) (u:Value),(l.flatMap f)[j]?=some u→0<k→∃x,l[j/k]?=some x∧(f x)[j%k]?=some u
  |[],j,u,h,_=>by simp at h
  |a::t,j,u,h,h0=>by
   rw[List.flatMap_cons] at h
   by_cases hj:j<k
   · rw[List.getElem?_append_left (by rw[hk];exact hj)] at h;exact⟨a,by rw[Nat.div_eq_of_lt hj];rfl,by rw[Nat.mod_eq_of_lt hj];exact h⟩
   · rw[List.getElem?_append_right (by rw[hk];omega),hk] at h;obtain⟨x,h1,h2⟩:=qQc f k hk t (j-k) u h h0;refine⟨x,?_,?_⟩
     · rw[Nat.div_eq_sub_div h0 (by omega)];simpa using h1
     · rw[Nat.mod_eq_sub_mod (by omega)];exact h2
theorem qKx {α:Type} (f:α→List Value) (ok:α→Prop) {t e:TypeId} {k:Nat} (hk:∀x,(f x).length=k) (hk0:0<k) (ht:P.underlying t=some (.slice e)) (hC:P.cellsOf e=k)
    (hel:∀n cs' y,DataW.trod enc P w base spare held n e cs'=some y→∃x,cs'=f x∧ok x)
    {fuel:Nat} {v:Value} {x:DataW H×List MemPlace} (hf:DataW.trod enc P w base spare held fuel t [v]=some x) :
    ∃(A:Option Addr) (len cap:Nat) (l:List α),v=.slice A len cap∧l.length=len∧len≤cap∧cap≤maxLen∧(∀x∈l,ok x)∧∀j u,(l.flatMap f)[j]?=some u→∃a,A=some a∧a.block<w.heap.size∧w.cell? (a.add j)=some u:=by
 rcases open_slice ht hf with⟨hcs,_⟩|⟨a,len,cap,m,n,D,Pl,hcs,hb,hl,hm,hmm,hx,hi⟩
 · obtain rfl:v=.slice none 0 0:=by simpa using hcs
   exact⟨none,0,0,[],rfl,rfl,Nat.le_refl _,by unfold maxLen;omega,by simp,by simp⟩
 · obtain rfl:v=.slice (some a) len cap:=by simpa using hcs
   have hlm:len≤m:=by rw[hmm];split <;> omega
   have hex:∀i,i<len→∃x,ok x∧∀j u,(f x)[j]?=some u→w.cell? (a.add (i*k+j))=some u:=by
    intro i hil
    obtain⟨cs',hc,ht'⟩:=hi i (by omega);obtain⟨x,rfl,hok⟩:=hel _ _ _ ht';refine⟨x,hok,fun j u hu=>?_⟩;obtain⟨_,_,hat⟩:=World.cells?_some hc
    have hj:j<k:=by rw[←hk x];exact(List.getElem?_eq_some_iff.1 hu).1
    have:=hat j (by rw[hC];exact hj);rw[hC] at this;rw[←Go.Deep.add_add,this,hu]
   have hlist:∃l:List α,l.length=len∧(∀x∈l,ok x)∧∀i x,l[i]?=some x→∀j u,(f x)[j]?=some u→w.cell? (a.add (i*k+j))=some u:=by
    refine⟨List.ofFn fun i:Fin len=>Classical.choose (hex i.1 i.2),by simp,?_,?_⟩
    · intro x hx
      obtain⟨i,hi,rfl⟩:=List.getElem_of_mem hx;rw[List.getElem_ofFn];exact(Classical.choose_spec (hex i (by simpa using hi))).1
    · intro i x hx
      obtain⟨hi,rfl⟩:=List.getElem?_eq_some_iff.1 hx;rw[List.getElem_ofFn];exact(Classical.choose_spec (hex i (by simpa using hi))).2
   obtain⟨l,h1,h2,h3⟩:=hlist;refine⟨some a,len,cap,l,rfl,h1,hl,hm,h2,fun j u hu=>⟨a,rfl,?_,?_⟩⟩
   · have hj:0<l.length:=by
       rcases l with _|⟨x,t⟩
       · simp at hu
       · simp
     obtain⟨cs',hc,_⟩:=hi 0 (by omega);obtain⟨_,hcl,hat⟩:=World.cells?_some hc;have h0:=hat 0 (by rw[hC];exact hk0);have hv0:cs'[0]?=some (cs'[0]'(by rw[hcl,hC];exact hk0)):=List.getElem?_eq_getElem _;rw[hv0] at h0;have:=World.block_lt_of_cell? w _ h0
     simp[qLa] at this
     exact this
   · obtain⟨x,hx,hxu⟩:=qQc f k hk l j u hu hk0;have:=h3 _ x hx _ u hxu
     rwa [Nat.div_add_mod' ] at this
theorem open_list {α:Type} (f:α→List Value) (ok:α→Prop) {t e:TypeId} {k:Nat} (hk:∀x,(f x).length=k) (hk0:0<k) (ht:P.underlying t=some (.slice e)) (hC:P.cellsOf e=k)
    (hel:∀n cs' y,DataW.trod enc P w base spare held n e cs'=some y→∃x,cs'=f x∧ok x)
    {r:Reach} {b0:Nat} {v:Value} {d:DataW H} {p:List MemPlace} (hv:Value.okWide P w r b0 t v) (h:DataW.Trod enc P w base spare held t v d p) :
    ∃(A:Option Addr) (len cap:Nat) (l:List α),v=.slice A len cap∧l.length=len∧len≤cap∧cap≤maxLen∧(∀x∈l,ok x)∧∀j u,(l.flatMap f)[j]?=some u→∃a,A=some a∧a.block<w.heap.size∧w.cell? (a.add j)=some u:=by
 obtain⟨A,len,cap,rfl⟩:=okWide_slice ht hv;obtain⟨fuel,hf⟩:=h;exact qKx f ok hk hk0 ht hC hel hf
end
end Go.Ms
namespace Go.Proofs.YtainiaighnjpfaaGreatDoor
open Go.RowKit Go.Ms Go.Lib Go.ChangeShapes Go.WideShapes Go.Deep
section
variable {H:Type} {enc:TypeId×Value→H} {w:World} {base:Nat} {spare:Nat→Bool} {held:Bool}
theorem qOr:Tryz.prog.cellsOf 3=1:=by kernel_rfl
end
end Go.Proofs.YtainiaighnjpfaaGreatDoor
namespace Go.Ms
open Go.RowKit Go.Lib
end Go.Ms
set_option linter.unusedSimpArgs false
namespace Go.Proofs.YtainiaighnjpfaaGreatDoor
open Go.RowKit Go.Ms Go.Lib Go.ChangeShapes Go.WideShapes Go.Deep
section
end
end Go.Proofs.YtainiaighnjpfaaGreatDoor
set_option linter.unusedSimpArgs false
namespace Go.Ms
open Go.RowKit Go.Lib
end Go.Ms
set_option linter.unusedSimpArgs false
namespace Go.Ms
open Go.RowKit Go.Lib Go.Rel
end Go.Ms
namespace Go.Proofs.YtainiaighnjpfaaGreatDoor
open Go.RowKit Go.Ms Go.Lib Go.Rel
end Go.Proofs.YtainiaighnjpfaaGreatDoor
set_option linter.unusedSimpArgs false
namespace Go.Ms
open Go.RowKit Go.Lib
theorem qTx {w:World} {B:Nat} {A:Option Addr} {xs:List Value} (h:Ext w B A xs):Lay w B A xs:=fun j u hu=>by
 have hl:j<xs.length:=(List.getElem?_eq_some_iff.1 hu).1;obtain⟨a,rfl,hb,h0⟩:=h 0 _ (List.getElem?_eq_getElem (by omega));obtain⟨_,e,_,hj⟩:=h j u hu
 cases e
 obtain⟨g,o,s⟩:=a
 have hs:s=none:=by
  cases s with
  |none=>rfl
  |some x=>
   exfalso
   have:(Addr.add ⟨g,o,some x⟩ 0)=⟨g,o,some x⟩:=rfl;rw[this] at h0;unfold World.cell? at h0
   split at h0
   · simp at h0
   · cases h0
 subst hs;refine⟨g,o,rfl,hb,?_⟩;rw[Addr.add_lit] at hj;exact hj
end Go.Ms
set_option linter.unusedSimpArgs false
namespace Go.Ms
open Go.RowKit Go.Lib
end Go.Ms
namespace Go.Proofs.YtainiaighnjpfaaGreatDoor
open Go.RowKit Go.Ms Go.Lib Go.ChangeShapes Go.WideShapes Go.Deep
section
end
end Go.Proofs.YtainiaighnjpfaaGreatDoor
set_option linter.unusedSimpArgs false
namespace Go.Ms
open Go.RowKit Go.Lib
end Go.Ms
namespace Go.Proofs.YtainiaighnjpfaaGreatDoor
open Go.RowKit Go.Ms Go.Lib
end Go.Proofs.YtainiaighnjpfaaGreatDoor
set_option linter.unusedSimpArgs false
namespace Go.Ms
open Go.RowKit Go.Lib
end Go.Ms
namespace Go.Proofs.YtainiaighnjpfaaGreatDoor
open Go.RowKit Go.Ms Go.Lib
end Go.Proofs.YtainiaighnjpfaaGreatDoor
set_option linter.unusedSimpArgs false
namespace Go.Ms
open Go.RowKit Go.Lib
end Go.Ms
namespace Go.Proofs.YtainiaighnjpfaaGreatDoor
open Go.RowKit Go.Ms Go.Lib
end Go.Proofs.YtainiaighnjpfaaGreatDoor
set_option linter.unusedSimpArgs false
namespace Go.Ms
open Go.RowKit Go.Lib
end Go.Ms
set_option linter.unusedSimpArgs false
namespace Go.Ms
open Go.RowKit Go.Lib
end Go.Ms
set_option linter.unusedSimpArgs false
namespace Go.Ms
open Go.RowKit Go.Lib
end Go.Ms
set_option linter.unusedSimpArgs false
namespace Go.Ms
open Go.RowKit Go.Lib
end Go.Ms
set_option linter.unusedSimpArgs false
namespace Go.Ms
open Go.RowKit Go.Lib
section
end
end Go.Ms
namespace Go.Proofs.YtainiaighnjpfaaGreatDoor
open Go.RowKit Go.Ms Go.Lib
end Go.Proofs.YtainiaighnjpfaaGreatDoor
set_option linter.unusedSimpArgs false
namespace Go.Ms
open Go.RowKit Go.Lib
def thrV (x:Int×Int×Int):List Value:=[.int .i64 x.1,.int .i64 x.2.1,.int .i64 x.2.2]
theorem qSf (x:Int×Int×Int):(thrV x).length=3:=rfl
def qQ9 (x:Int×Int×Int):Prop:=I64 x.1∧I64 x.2.1∧I64 x.2.2
theorem qUw {l:List (Int×Int×Int)} (h:∀x∈l,qQ9 x):∀x∈l, -9223372036854775808≤x.1∧x.1≤9223372036854775807∧ -9223372036854775808≤x.2.1∧x.2.1≤9223372036854775807∧ -9223372036854775808≤x.2.2∧x.2.2≤9223372036854775807:=fun x hx=>by
 have h1:=(h x hx).1;have h2:=(h x hx).2.1;have h3:=(h x hx).2.2;unfold I64 at h1 h2 h3;omega
end Go.Ms
namespace Go.Proofs.YtainiaighnjpfaaGreatDoor
open Go.RowKit Go.Ms Go.Lib Go.ChangeShapes Go.WideShapes Go.Deep
section
variable {H:Type} {enc:TypeId×Value→H} {w:World} {base:Nat} {spare:Nat→Bool} {held:Bool}
theorem qKs:Tryz.prog.cellsOf 35=3:=by kernel_rfl
set_option maxRecDepth 100000 in
theorem qVg {n:Nat} {cs':List Value} {y:DataW H×List MemPlace} (h:DataW.trod enc Tryz.prog w base spare held n 35 cs'=some y):∃x:Int×Int×Int,cs'=thrV x∧qQ9 x:=by
 obtain⟨xs,n',_,_,hl,hxl,hf⟩:=DataW.trod_array Tryz.underlying35 h;rw[qKs] at hl
 obtain⟨c0,c1,c2,rfl⟩:∃c0 c1 c2,cs'=[c0,c1,c2]:=by
  match cs',hl with
  |[a,b,c],_=>exact⟨a,b,c,rfl⟩
 obtain⟨y0,y1,y2,rfl⟩:∃c0 c1 c2,xs=[c0,c1,c2]:=by
  match xs,hxl with
  |[a,b,c],_=>exact⟨a,b,c,rfl⟩
 have k0:=hf 0 (by omega);have k1:=hf 1 (by omega);have k2:=hf 2 (by omega);rw[qOr] at k0 k1 k2;obtain⟨m0,e0,_,w0⟩:=DataW.trod_int Tryz.underlying3 (show DataW.trod enc Tryz.prog w base spare held n' 3 [c0]=some y0 from k0);obtain⟨m1,e1,_,w1⟩:=DataW.trod_int Tryz.underlying3 (show DataW.trod enc Tryz.prog w base spare held n' 3 [c1]=some y1 from k1);obtain⟨m2,e2,_,w2⟩:=DataW.trod_int Tryz.underlying3 (show DataW.trod enc Tryz.prog w base spare held n' 3 [c2]=some y2 from k2)
 obtain rfl:c0=.int .i64 m0:=by simpa using e0
 obtain rfl:c1=.int .i64 m1:=by simpa using e1
 obtain rfl:c2=.int .i64 m2:=by simpa using e2
 exact⟨(m0,m1,m2),rfl,I64.of w0,I64.of w1,I64.of w2⟩
end
end Go.Proofs.YtainiaighnjpfaaGreatDoor
namespace Go.Ms
open Go.RowKit Go.Lib
theorem qNe.of {w:World} {A:Option Addr} {n c:Nat} {V:List (Int×Int×Int)} (hc:n≤c) (kc:c≤maxLen) (ll:V.length=n) (ex:Ext w w.heap.size A (v3V V)) (ok:∀x∈V,qQ9 x):qNe w A n V:=
  ⟨ll.symm,Nat.le_trans hc kc,qTx ex,qUw ok⟩
end Go.Ms
