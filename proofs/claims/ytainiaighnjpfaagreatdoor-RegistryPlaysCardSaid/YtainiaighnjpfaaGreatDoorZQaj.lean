/- Registry's laws: the examples, walked. Evolve's laws: the chapter's examples: the walk. Evolve's laws: a cell of a number. Evolve's laws: a row of numbers. Evolve's laws: the versions of a seed: what lies while they are put together. Registry's laws: what is offered among the arguments; three registries side by side. Registry's laws, plainly: a row that is moved. Registry's laws, plainly: the versions of one subject. Registry's laws, plainly: versions that are kept. Schemas: an argument's lists, read as such. -/
import Derived.Test.YtainiaighnjpfaaGreatDoorZQai
import Derived.Deep.Slices
import Derived.Deep.Fields
import Derived.ChangeSame
import Derived.OpenShut
set_option linter.unusedVariables false
set_option linter.unusedSimpArgs false
namespace Go.Ms
open Go.RowKit Go.Lib
def rRow:List Cl:=[(false,5,⟨#[]⟩)]
theorem rm_1:qBz [rS1,rS2] 1 2 rRow=(rRow,0):=by kernel_rfl
theorem rm_2:qBz [rS1,rS2] 2 1 rRow=([],131):=by kernel_rfl
theorem rg_1:qEc rG3 rA 1=(rS1,0):=by kernel_rfl
theorem rg_2:qEc rG3 rA 3=(([],[]),131):=by kernel_rfl
theorem rg_3:qEc rG3 [99] 1=(([],[]),130):=by kernel_rfl
theorem qWv:rgAt rG3 rA=[rS1,rS2]:=by kernel_rfl
theorem zBt:rgAt rG3 [99]=[]:=by kernel_rfl
theorem zA9:(qAp rG3 rA).isSome=true:=by kernel_rfl
theorem qFp {m g:Nat} {w w1 w2:World} (h:Below m w w1) (hg:w1.grownBy w2 (some g)) (hm:m≤w1.heap.size) (hb:m≤g):Below m w w2:=h.grown hg hm (fun k e=>by cases e;exact hb)
def qOt (B:Nat) (T:TypeId) (N:List Bs):Value→World→Prop:=fun v w=>w.ownsRow B T 1 v N.length (N.map Go.Proofs.encStr)
theorem qKn (B:Nat) (T:TypeId) (N:List Bs):Go.Rel.Stable (qOt B T N):=fun v w w' h hb=>own_below h hb
end Go.Ms
namespace Go.Proofs.YtainiaighnjpfaaGreatDoor
open Go.RowKit Go.Ms Go.Lib Go.Maps Go.WideMaps Go.Rel
structure WkR (w:World) (g:Nat) (G:Rg) (W:World):Prop where
  lay:RgL g G W
  bel:Below w.heap.size w W
  lo:w.heap.size≤g
theorem WkR.to {w:World} {g:Nat} {G:Rg} {W W':World} (h:WkR w g G W) (hb:Below W.heap.size W W'):WkR w g G W':=⟨h.lay.to hb,h.bel.trans (hb.mono h.bel.size),h.lo⟩
theorem WkR.turned {w:World} {g:Nat} {G G':Rg} {W W':World} (h:WkR w g G W) (ht:qP1 W g G' W'):WkR w g G' W':=⟨ht.1,h.bel.grown ht.2 h.bel.size (fun k e=>by cases e;exact h.lo),h.lo⟩
set_option maxRecDepth 100000 in
set_option maxHeartbeats 8000000 in
theorem qGg (w:World) (hE:Env w):Calls Tryz.prog 16 #[] w fun e w'=>e=.returned (.bool true)∧Below w.heap.size w w':=by
 have HE:=hh_ (fun (W:World) (hb:Below w.heap.size w W)=>hE.below hb);clear hE;have hnew:=qJx w;have HNEW:=hh_ hnew;clear hnew;go_enter Tryz.func16,Tryz.ntmps16;go_wp2_with fail
 refine HNEW.out.mono ?_;rintro en w0 ⟨g,rfl,h1,h2,h3⟩;have K:=hh_ (show WkR w g [] w0 from⟨h1,h2,h3⟩);clear h1 h2 h3 HNEW;go_wp2_with fail
 refine(qC0 g [] rG1 ⟨#[97]⟩ _ rS1 1 0 w0 (by decide) K.out.lay qLs.1 (fun W hb=>HE.out W (K.out.bel.trans (hb.mono K.out.bel.size))) (qHp w0 (HE.out _ K.out.bel)) ra_1).mono ?_;rintro en w1 ⟨rfl,ht⟩;have K1:=hh_ (K.out.turned ht);clear ht K;go_wp2_with fail
 refine(qC0 g rG1 rG1 ⟨#[97]⟩ _ rS1 1 0 w1 (by decide) K1.out.lay qLs.1 (fun W hb=>HE.out W (K1.out.bel.trans (hb.mono K1.out.bel.size))) (qHp w1 (HE.out _ K1.out.bel)) ra_2).mono ?_;rintro en w2 ⟨rfl,ht⟩;have K2:=hh_ (K1.out.turned ht);clear ht K1;go_wp2_with fail
 refine(qC0 g rG1 rG2 ⟨#[97]⟩ _ rS2 2 0 w2 (by decide) K2.out.lay qLs.2.1 (fun W hb=>HE.out W (K2.out.bel.trans (hb.mono K2.out.bel.size))) (qVy w2 (HE.out _ K2.out.bel)) ra_3).mono ?_;rintro en w3 ⟨rfl,ht⟩;have K3:=hh_ (K2.out.turned ht);clear ht K2;go_wp2_with fail
 refine(qC0 g rG2 rG2 ⟨#[97]⟩ _ rS1 0 120 w3 (by decide) K3.out.lay qLs.1 (fun W hb=>HE.out W (K3.out.bel.trans (hb.mono K3.out.bel.size))) (qHp w3 (HE.out _ K3.out.bel)) ra_4).mono ?_;rintro en w4 ⟨rfl,ht⟩;have K4:=hh_ (K3.out.turned ht);clear ht K3;go_wp2_with fail
 refine(qC0 g rG2 rG2 ⟨#[97]⟩ _ rS4 0 2 w4 (by decide) K4.out.lay qLs.2.2.2 (fun W hb=>HE.out W (K4.out.bel.trans (hb.mono K4.out.bel.size))) (qVx w4 (HE.out _ K4.out.bel)) ra_5).mono ?_;rintro en w5 ⟨rfl,ht⟩;have K5:=hh_ (K4.out.turned ht);clear ht K4;go_wp2_with fail
 refine(qC0 g rG2 rG2 ⟨#[65]⟩ _ rS1 0 130 w5 (by decide) K5.out.lay qLs.1 (fun W hb=>HE.out W (K5.out.bel.trans (hb.mono K5.out.bel.size))) (qHp w5 (HE.out _ K5.out.bel)) ra_6).mono ?_;rintro en w6 ⟨rfl,ht⟩;have K6:=hh_ (K5.out.turned ht);clear ht K5;go_wp2_with fail
 refine(qC0 g rG2 rG3 ⟨#[98]⟩ _ rS3 1 0 w6 (by decide) K6.out.lay qLs.2.2.1 (fun W hb=>HE.out W (K6.out.bel.trans (hb.mono K6.out.bel.size))) (qXk w6 (HE.out _ K6.out.bel)) ra_7).mono ?_;rintro en w7 ⟨rfl,ht⟩;have K7:=hh_ (K6.out.turned ht);clear ht K6;have K:=K7;clear K7;go_wp2_with fail
 have hget:=qG6 g rG3 ⟨#[97]⟩ 1 w7 (by decide) K.out.lay (by decide);rw[show(⟨#[97]⟩:ByteArray).data.toList=rA from rfl,rg_1] at hget;refine hget.mono ?_;clear hget;rintro en w8 ⟨r6,rfl,b8,t8,-,-⟩;obtain⟨X8,hX8⟩:∃X,X=w8.alloc (.cells #[.slice r6.a r6.n r6.c,.slice r6.b r6.m r6.d] 33):=⟨_,rfl⟩;have bX8:Below w8.heap.size w8 X8:=by rw[hX8];exact br_.alloc le_ _
 have qX8:X8.heap[w8.heap.size]?=some (.cells #[.slice r6.a r6.n r6.c,.slice r6.b r6.m r6.d] 33 (0,0)):=by rw[hX8];exact qAd _ _
 have K8:=hh_ (K.out.to (b8.trans (bX8.mono b8.size)));have Q8:=hh_ qX8;have R8:=hh_ (t8.lay.to bX8);clear b8 t8 bX8 qX8 K;go_upto_region 6 with fail
 rw[←hX8];generalize w8.heap.size=g6 at Q8 ⊢;clear hX8;go_wp2_with fail
 have hget:=qG6 g rG3 ⟨#[97]⟩ 3 X8 (by decide) K8.out.lay (by decide);rw[show(⟨#[97]⟩:ByteArray).data.toList=rA from rfl,rg_2] at hget;refine hget.mono ?_;clear hget;rintro en w9 ⟨r9,rfl,b9,-,-,-⟩;have bX9:=(Below.refl w9.heap.size w9).alloc le_ (.cells #[.slice r9.a r9.n r9.c,.slice r9.b r9.m r9.d] 33);obtain⟨X9,hX9⟩:∃X,X=w9.alloc (.cells #[.slice r9.a r9.n r9.c,.slice r9.b r9.m r9.d] 33):=⟨_,rfl⟩;rw[←hX9] at bX9;have bb:=b9.trans (bX9.mono b9.size);have K9:=hh_ (K8.out.to bb);have Q9:=hh_ (bk_ Q8.out bb);have R9:=hh_ (R8.out.to bb);clear b9 bX9 bb K8 Q8 R8;go_upto_region 7 with fail
 rw[←hX9];generalize w9.heap.size=g8;clear hX9;go_wp2_with fail
 have hget:=qG6 g rG3 ⟨#[99]⟩ 1 X9 (by decide) K9.out.lay (by decide);rw[show(⟨#[99]⟩:ByteArray).data.toList=[99] from rfl,rg_3] at hget;refine hget.mono ?_;clear hget;rintro en wa ⟨ra,rfl,ba,-,-,-⟩;have bXa:=(Below.refl wa.heap.size wa).alloc le_ (.cells #[.slice ra.a ra.n ra.c,.slice ra.b ra.m ra.d] 33);obtain⟨Xa,hXa⟩:∃X,X=wa.alloc (.cells #[.slice ra.a ra.n ra.c,.slice ra.b ra.m ra.d] 33):=⟨_,rfl⟩;rw[←hXa] at bXa;have bb:=ba.trans (bXa.mono ba.size);have Ka:=hh_ (K9.out.to bb);have Qa:=hh_ (bk_ Q9.out bb);have Ra:=hh_ (R9.out.to bb);clear ba bXa bb K9 Q9 R9;go_upto_region 8 with fail
 rw[←hXa];generalize wa.heap.size=g10;clear hXa;go_wp2_with fail
 obtain⟨Xb,hXb⟩:∃X,X=Xa.alloc (.cells #[.bool false,.int .i64 5,.string ⟨#[]⟩] 43):=⟨_,rfl⟩;have bXb:Below Xa.heap.size Xa Xb:=by rw[hXb];exact br_.alloc le_ _
 have qXb:Xb.heap[Xa.heap.size]?=some (.cells #[.bool false,.int .i64 5,.string ⟨#[]⟩] 43 (0,0)):=by rw[hXb];exact qAd _ _
 have Kb:=hh_ (Ka.out.to bXb);have Qb:=hh_ (bk_ Qa.out bXb);have Rb:=hh_ (Ra.out.to bXb)
 have hz:∀s∈rgAt rG3 (⟨#[97]⟩:ByteArray).data.toList,ScSz s.1:=by
  rw[show(⟨#[97]⟩:ByteArray).data.toList=rA from rfl,qWv];intro s hs;rcases List.mem_cons.1 hs with rfl|hs
  · exact qLs.1
  · rw[List.mem_singleton.1 hs];exact qLs.2.1
 have hrw:qIm Xb (some ⟨Xa.heap.size,0,none⟩) 1 rRow:=qXu (l:=rRow) (n:=1) qXb (by decide) (by decide) (by decide);have hmv:=qH0 g rG3 ⟨#[97]⟩ 1 2 (some ⟨Xa.heap.size,0,none⟩) 1 1 rRow Xb (by decide) Kb.out.lay hz (by decide) (by decide) hrw (HE.out _ Kb.out.bel);rw[show(⟨#[97]⟩:ByteArray).data.toList=rA from rfl,zA9,qWv,rm_1] at hmv;simp only[if_true] at hmv;rw[←hXb];refine hmv.mono ?_;clear hmv hrw bXb qXb hXb Ka Qa Ra;rintro en wc ⟨v,rfl,hoc,bc⟩;obtain⟨Am,cm,rfl,-,-⟩:=qAf hoc;have Kc:=hh_ (Kb.out.to bc);have Qc:=hh_ (bk_ Qb.out bc);have Rc:=hh_ (Rb.out.to bc);have Oc:=hh_ hoc;clear bc hoc Kb Qb Rb;go_wp2_with fail
 obtain⟨Xd,hXd⟩:∃X,X=wc.alloc (.cells #[.bool false,.int .i64 5,.string ⟨#[]⟩] 43):=⟨_,rfl⟩;have bXd:Below wc.heap.size wc Xd:=by rw[hXd];exact br_.alloc le_ _
 have qXd:Xd.heap[wc.heap.size]?=some (.cells #[.bool false,.int .i64 5,.string ⟨#[]⟩] 43 (0,0)):=by rw[hXd];exact qAd _ _
 have Kd:=hh_ (Kc.out.to bXd);have Qd:=hh_ (bk_ Qc.out bXd);have Rd:=hh_ (Rc.out.to bXd);have Od:=hh_ (own_below Oc.out bXd);have hrw:qIm Xd (some ⟨wc.heap.size,0,none⟩) 1 rRow:=qXu (l:=rRow) (n:=1) qXd (by decide) (by decide) (by decide);have hmv:=qH0 g rG3 ⟨#[97]⟩ 2 1 (some ⟨wc.heap.size,0,none⟩) 1 1 rRow Xd (by decide) Kd.out.lay hz (by decide) (by decide) hrw (HE.out _ Kd.out.bel);rw[show(⟨#[97]⟩:ByteArray).data.toList=rA from rfl,zA9,qWv,rm_2] at hmv;simp only[if_true] at hmv;rw[←hXd];refine hmv.mono ?_;clear hmv hrw bXd qXd hXd Kc Qc Rc Oc hz;rintro en we ⟨v,rfl,hoe,be⟩;obtain⟨An,cn,rfl,-,-⟩:=qAf hoe;have Ke:=hh_ (Kd.out.to be);have Qe:=hh_ (bk_ Qd.out be);have Re:=hh_ (Rd.out.to be);have Oe:=hh_ (own_below Od.out be);clear be hoe Kd Qd Rd Od;go_upto_region 10 with fail
 refine qAe [isV (.pointer (some ⟨g,0,none⟩)),isV (.int .i64 2),iT,iT,isV (.pointer (some ⟨g,0,none⟩)),isV (.int .i64 0),iT,iT,iT,isV (.pointer (some ⟨g,0,none⟩)),qOt we.heap.size 9 [rA,rB],newS 2 #[.string ⟨#[97]⟩,.string ⟨#[98]⟩] 9,iT,iT,iT,isV (.int .i64 0),iT,iT,iT,isV (.agg #[.slice r6.a r6.n r6.c,.slice r6.b r6.m r6.d]),isV (.string ⟨#[49,32,105,100,32,105,110,116,51,50,42,32,48,47]⟩),isSc rS1,iT,iT,iT,isV (.int .i64 131),iT,iT,iT,isV (.int .i64 130),iT,iT,iT,isV (.int .i64 0),iT,iT,iT,isV (.slice Am rRow.length cm),isV (.agg #[.bool false,.int .i64 5,.string ⟨#[]⟩]),newS 1 #[.bool false,.int .i64 5,.string ⟨#[]⟩] 43,iT,iT,iT,isV (.int .i64 131),iT,iT,iT] (by kernel_rfl) (by kernel_rfl) ?_ ?_
 ·
   refine rb ?_;refine rf (fun ev wo E=>?_) ?_
   · have e90:ev (.tmp 90)=.pointer (some ⟨g,0,none⟩):=E.e 0;have ef:=E.func;have ec:=E.const;have hla:=qFx g rG3 ⟨#[97]⟩ wo (by decide) (Ke.out.to E.bel).lay;rw[show(⟨#[97]⟩:ByteArray).data.toList=rA from rfl,qWv] at hla;go_simp;refine qAb (hla.mono ?_);rintro e w' ⟨rfl,hw⟩;exact⟨_,rfl,by rw[hw];exact Below.refl _ _,rfl⟩
   refine rf (fun ev wo E=>?_) ?_
   · have e91:ev (.tmp 91)=.int .i64 2:=E.e 0;have ec:=E.const;go_simp;exact rv
   refine rc 0 ?_;refine rbq 0 ?_;refine rq 1 (fun ev wo E=>?_) ?_
   · have e94:ev (.tmp 94)=.pointer (some ⟨g,0,none⟩):=E.e 0;have ef:=E.func;have ec:=E.const;have hla:=qFx g rG3 ⟨#[99]⟩ wo (by decide) (Ke.out.to E.bel).lay;rw[show(⟨#[99]⟩:ByteArray).data.toList=[99] from rfl,zBt] at hla;go_simp;refine qAb (hla.mono ?_);rintro e w' ⟨rfl,hw⟩;exact⟨_,rfl,by rw[hw];exact Below.refl _ _,rfl⟩
   refine rq 1 (fun ev wo E=>?_) ?_
   · have e95:ev (.tmp 95)=.int .i64 0:=E.e 0;have ec:=E.const;go_simp;exact rv
   refine rf (fun ev wo E=>?_) ?_
   · have e93:ev (.tmp 93)=.bool true:=E.e 0;have e96:ev (.tmp 96)=.bool true:=E.e 1;have ec:=E.const;go_simp;exact rv
   refine rc 0 ?_;refine rbq 0 ?_;refine⟨qBo (qA5.by 1 rfl rfl rfl rfl rfl) (qKn _ _ _) (fun ev wo E=>?_),?_⟩
   · have e99:ev (.tmp 99)=.pointer (some ⟨g,0,none⟩):=E.e 0;have ef:=E.func;have hsu:=qD9 g rG3 wo (Ke.out.to E.bel).lay;go_simp;refine qAb (hsu.mono ?_);rintro e w' ⟨v,rfl,ho,hb⟩;exact⟨_,rfl,hb,qAv ho E.bel.size⟩
   refine⟨qBo (qA5.by 0 rfl rfl rfl rfl rfl) (qJ2 _ _ _) (fun ev wo E=>?_),?_⟩
   · have ec:=E.const;go_simp;exact qA9 (qKw _ _ _ _)
   refine rq 3 (fun ev wo E=>?_) ?_
   · have e100:(qOt we.heap.size 9 [rA,rB]) (ev (.tmp 100)) wo:=E.d 0 rfl rfl rfl;have e101:(newS 2 #[.string ⟨#[97]⟩,.string ⟨#[98]⟩] 9) (ev (.tmp 101)) wo:=E.d 1 rfl rfl rfl;have ef:=E.func;have h100:wo.ownsRow we.heap.size 9 1 (ev (.tmp 100)) 2 ([rA,rB].map encStr):=e100;obtain⟨An,cn,e0,-,-⟩:=qAf h100;obtain⟨gn,e1,qn⟩:=e101;rw[e0] at h100;go_simp;refine qAb ((qFd wo An (some ⟨gn,0,none⟩) 2 cn 2 [rA,rB] (by omega) rfl (Lay.of_own h100 le_) (qI6 (xs:=[rA,rB].map encStr) qn)).mono ?_);rintro e w' ⟨rfl,hb⟩;exact⟨_,rfl,hb,rfl⟩
   refine rf (fun ev wo E=>?_) ?_
   · have e98:ev (.tmp 98)=.bool true:=E.e 0;have e102:ev (.tmp 102)=.bool true:=E.e 1;have ec:=E.const;go_simp;exact rv
   refine rc 0 ?_;refine rbq 0 ?_;refine rq 1 (fun ev wo E=>?_) ?_
   · have e105:ev (.tmp 105)=.int .i64 0:=E.e 0;have ec:=E.const;go_simp;exact rv
   refine rf (fun ev wo E=>?_) ?_
   · have e104:ev (.tmp 104)=.bool true:=E.e 0;have e106:ev (.tmp 106)=.bool true:=E.e 1;have ec:=E.const;go_simp;exact rv
   refine rc 0 ?_;refine rq 0 (fun ev wo E=>?_) ?_
   · have e6:ev (.tmp 6)=.pointer (some ⟨g6,0,none⟩):=(E.base 6 rfl).trans rfl;have hx0:=cb_ 0 (bk_ Qe.out E.bel) rfl;have hx1:=cb_ 1 (bk_ Qe.out E.bel) rfl;go_simp;exact rv
   refine rbq 0 ?_;refine⟨qBo (qA5.by 1 rfl rfl rfl rfl rfl) (qO3 _) (fun ev wo E=>?_),?_⟩
   · have e110:ev (.tmp 110)=.string ⟨#[49,32,105,100,32,105,110,116,51,50,42,32,48,47]⟩:=E.e 0;have ef:=E.func;go_simp;refine qAb ((qHp wo (HE.out _ (Ke.out.to E.bel).bel)).mono ?_);rintro e w' ⟨r,rfl,hl,hb⟩;exact⟨_,rfl,hb,r,rfl,hl⟩
   refine rq 3 (fun ev wo E=>?_) ?_
   · have e109:ev (.tmp 109)=.agg #[.slice r6.a r6.n r6.c,.slice r6.b r6.m r6.d]:=E.e 0;have e111:(isSc rS1) (ev (.tmp 111)) wo:=E.d 1 rfl rfl rfl;have ef:=E.func;obtain⟨r,e0,hl⟩:=e111;have h6:=Re.out.to E.bel;have hsm:=qLb wo r6.a r6.b r.a r.b r6.n r6.c r6.m r6.d r.n r.c r.m r.d rS1.1 rS1.1 rS1.2 rS1.2 (by have:=h6.nn;unfold maxLen;omega) (by have:=h6.mm;unfold maxLen;omega) (by have:=hl.nn;unfold maxLen;omega) (by have:=hl.mm;unfold maxLen;omega) h6.n h6.m hl.n hl.m h6.la h6.lb hl.la hl.lb;simp only[decide_true,Bool.and_self] at hsm;go_simp;refine qAb (hsm.mono ?_);rintro e w' ⟨rfl,hb⟩;exact⟨_,rfl,hb,rfl⟩
   refine rf (fun ev wo E=>?_) ?_
   · have e108:ev (.tmp 108)=.bool true:=E.e 0;have e112:ev (.tmp 112)=.bool true:=E.e 1;have ec:=E.const;go_simp;exact rv
   refine rc 0 ?_;refine rbq 0 ?_;refine rq 1 (fun ev wo E=>?_) ?_
   · have e115:ev (.tmp 115)=.int .i64 131:=E.e 0;have ec:=E.const;go_simp;exact rv
   refine rf (fun ev wo E=>?_) ?_
   · have e114:ev (.tmp 114)=.bool true:=E.e 0;have e116:ev (.tmp 116)=.bool true:=E.e 1;have ec:=E.const;go_simp;exact rv
   refine rc 0 ?_;refine rbq 0 ?_;refine rq 1 (fun ev wo E=>?_) ?_
   · have e119:ev (.tmp 119)=.int .i64 130:=E.e 0;have ec:=E.const;go_simp;exact rv
   refine rf (fun ev wo E=>?_) ?_
   · have e118:ev (.tmp 118)=.bool true:=E.e 0;have e120:ev (.tmp 120)=.bool true:=E.e 1;have ec:=E.const;go_simp;exact rv
   refine rc 0 ?_;refine rbq 0 ?_;refine rq 1 (fun ev wo E=>?_) ?_
   · have e123:ev (.tmp 123)=.int .i64 0:=E.e 0;have ec:=E.const;go_simp;exact rv
   refine rf (fun ev wo E=>?_) ?_
   · have e122:ev (.tmp 122)=.bool true:=E.e 0;have e124:ev (.tmp 124)=.bool true:=E.e 1;have ec:=E.const;go_simp;exact rv
   refine rc 0 ?_;refine rbq 0 ?_;refine rq 0 (fun ev wo E=>?_) ?_
   · have ec:=E.const;go_simp;exact rv
   refine⟨qBo (qA5.by 1 rfl rfl rfl rfl rfl) (qJ2 _ _ _) (fun ev wo E=>?_),?_⟩
   · have e128:ev (.tmp 128)=.agg #[.bool false,.int .i64 5,.string ⟨#[]⟩]:=E.e 0;go_simp;exact qA9 (qKw _ _ _ _)
   refine rq 2 (fun ev wo E=>?_) ?_
   · have e127:ev (.tmp 127)=.slice Am rRow.length cm:=E.e 0;have e129:(newS 1 #[.bool false,.int .i64 5,.string ⟨#[]⟩] 43) (ev (.tmp 129)) wo:=E.d 1 rfl rfl rfl;have ef:=E.func;obtain⟨gn,e1,qn⟩:=e129;have ho:=own_below Oe.out E.bel;have heq:=qHz wo Am (some ⟨gn,0,none⟩) rRow.length cm 1 1 rRow rRow (by unfold maxLen;decide) (by unfold maxLen;decide) rfl rfl (Lay.of_own ho le_) (qI6 (xs:=rowV rRow) qn);rw[decide_eq_true rfl] at heq;go_simp;refine qAb (heq.mono ?_);rintro e w' ⟨rfl,hb⟩;exact⟨_,rfl,hb,rfl⟩
   refine rf (fun ev wo E=>?_) ?_
   · have e126:ev (.tmp 126)=.bool true:=E.e 0;have e130:ev (.tmp 130)=.bool true:=E.e 1;have ec:=E.const;go_simp;exact rv
   refine rc 0 ?_;refine rbq 0 ?_;refine rq 1 (fun ev wo E=>?_) ?_
   · have e133:ev (.tmp 133)=.int .i64 131:=E.e 0;have ec:=E.const;go_simp;exact rv
   refine rf (fun ev wo E=>?_) ?_
   · have e132:ev (.tmp 132)=.bool true:=E.e 0;have e134:ev (.tmp 134)=.bool true:=E.e 1;have ec:=E.const;go_simp;exact rv
   refine⟨qA7 0 (qA5.free rfl) (.inr rfl) rfl rfl rfl rfl (qAr _),?_⟩;trivial
 · intro wz bz
   (iterate 10 rintro _ rfl)
   intro v100 h100;intro v101 h101
   (iterate 9 rintro _ rfl)
   intro v111 h111
   (iterate 17 rintro _ rfl)
   intro v129 h129
   (iterate 7 rintro _ rfl);have Kz:=hh_ (Ke.out.to bz);clear bz Ke Qe Re Oe;simp only[qAq];go_simp
   go_wp2_with fail
   go_ret;exact⟨rfl,Kz.out.bel⟩
open Go.Shelf
end Go.Proofs.YtainiaighnjpfaaGreatDoor
namespace Go.Ms
open Go.RowKit Go.Lib
end Go.Ms
namespace Go.Proofs.YtainiaighnjpfaaGreatDoor
open Go.RowKit Go.Ms Go.Lib Go.Shelf Go.Rel
end Go.Proofs.YtainiaighnjpfaaGreatDoor
namespace Go.Ms
open Go.RowKit Go.Lib
end Go.Ms
namespace Go.Proofs.YtainiaighnjpfaaGreatDoor
open Go.RowKit Go.Ms Go.Lib Go.Shelf Go.Rel
end Go.Proofs.YtainiaighnjpfaaGreatDoor
namespace Go.Ms
open Go.RowKit Go.Lib
def v3V (l:List (Int×Int×Int)):List Value:=l.flatMap fun v=>[.int .i64 v.1,.int .i64 v.2.1,.int .i64 v.2.2]
theorem qZw (l:List (Int×Int×Int)):(v3V l).length=l.length*3:=by
 induction l with
 |nil=>rfl
 |cons a t ih=>show([_,_,_]++v3V t).length=_;rw[List.length_append,ih,List.length_cons];simp;omega
theorem qXz:∀(l:List (Int×Int×Int)) (i:Nat) (c:Int×Int×Int),l[i]?=some c→(v3V l)[i*3]?=some (.int .i64 c.1)∧(v3V l)[i*3+1]?=some (.int .i64 c.2.1)∧(v3V l)[i*3+2]?=some (.int .i64 c.2.2)
  |[],i,r,h=>by simp at h
  |a::t,0,r,h=>by
   have h:a=r:=by simpa using h
   subst h;exact⟨rfl,rfl,rfl⟩
  |a::t,i+1,r,h=>by
   have ih:=qXz t i r (by simpa using h);have e1:(i+1)*3=i*3+3:=by omega
   rw[e1];exact ih
structure qO8 (g o B:Nat) (a b c:Int) (W:World):Prop where
  lt:g<B
  c0:W.cell? ⟨g,o,none⟩=some (.int .i64 a)
  c1:W.cell? ⟨g,o+1,none⟩=some (.int .i64 b)
  c2:W.cell? ⟨g,o+2,none⟩=some (.int .i64 c)
theorem qO8.below {g o B:Nat} {a b c:Int} {W W':World} (h:qO8 g o B a b c W) (hb:Below B W W'):qO8 g o B a b c W':=⟨h.lt,(hb.cell h.lt).trans h.c0,(hb.cell h.lt).trans h.c1,(hb.cell h.lt).trans h.c2⟩
theorem qO8.more {g o B B':Nat} {a b c:Int} {W:World} (h:qO8 g o B a b c W) (hb:B≤B'):qO8 g o B' a b c W:=⟨Nat.lt_of_lt_of_le h.lt hb,h.c0,h.c1,h.c2⟩
theorem Lay.v3 {W:World} {B:Nat} {A:Option Addr} {l:List (Int×Int×Int)} {i:Nat} {c:Int×Int×Int} (h:Lay W B A (v3V l)) (hi:l[i]?=some c):∃g o,A=some ⟨g,o,none⟩∧qO8 g (o+i*3) B c.1 c.2.1 c.2.2 W:=by
 have hl:=(List.getElem?_eq_some_iff.1 hi).1;obtain⟨g,o,e,hb,hc⟩:=h.some_ (by rw[qZw];omega);obtain⟨h1,h2,h3⟩:=qXz l i c hi;exact⟨g,o,e,hb,hc _ _ h1,hc _ _ h2,hc _ _ h3⟩
section
variable {tS tC tI:TypeId} {W0 W W':World} {v10:Value} {l:List Co}
end
theorem qCr.effT {Kp:Nat→Prop} {P:Program} {tS tN tR:TypeId} {g:Nat} {G:Rg} {W W':World} (h:qCr Kp P tS tN tR g G W) (hg:W.grownBy W' (some g)):EffT tR W W':=by
 obtain⟨sp,mb,D,h⟩:=h;exact⟨some g,hg,fun g' e=>by cases e;exact⟨_,_,h.box⟩⟩
end Go.Ms
namespace Go.Proofs.YtainiaighnjpfaaGreatDoor
open Go.RowKit Go.Ms Go.Lib Go.Maps Go.WideMaps Go.Rel
section
variable {a b c:Nat} {G G1 G2 G':Rg} {w W W':World}
theorem RgL.lt (h:RgL a G W):a<W.heap.size:=by
 obtain⟨sp,mb,D,h⟩:=h;exact(Array.getElem?_eq_some_iff.1 h.box).1
end
end Go.Proofs.YtainiaighnjpfaaGreatDoor
namespace Go.Ms
def I32 (n:Int):Prop:= -2147483648≤n∧n≤2147483647
open Go.RowKit Go.Lib Go.ChangeShapes Go.WideShapes Go.Deep
def ClIn (c:Cl):Prop:=c.2.2.size≤maxLen∧ -9223372036854775808≤c.2.1∧c.2.1≤9223372036854775807
def I64 (n:Int):Prop:= -9223372036854775808≤n∧n≤9223372036854775807
def qXg (c:Co):Prop:=I64 c.1∧c.2.1.size≤maxLen∧I64 c.2.2.1.1∧ClIn c.2.2.2
theorem I64.of {n:Int} (h:(Lit.int .i64 n).wf=true):I64 n:=bounds_i64 h
section
variable {H:Type} {enc:TypeId×Value→H} {P:Program} {w:World} {base:Nat} {spare:Nat→Bool} {held:Bool}
theorem qSb {α:Type} (f:α→List Value) (k:Nat) (hk:∀x,(f x).length=k):∀(l:List α) (j:Nat) (u:Value),(l.flatMap f)[j]?=some u→0<k→∃x,l[j/k]?=some x∧(f x)[j%k]?=some u
  |[],j,u,h,_=>by simp at h
  |a::t,j,u,h,h0=>by
   rw[List.flatMap_cons] at h;by_cases hj:j<k
   · rw[List.getElem?_append_left (by rw[hk];exact hj)] at h;exact⟨a,by rw[Nat.div_eq_of_lt hj];rfl,by rw[Nat.mod_eq_of_lt hj];exact h⟩
   · rw[List.getElem?_append_right (by rw[hk];omega),hk] at h;obtain⟨x,h1,h2⟩:=qSb f k hk t (j-k) u h h0;refine⟨x,?_,?_⟩
     · rw[Nat.div_eq_sub_div h0 (by omega)];simpa using h1
     · rw[Nat.mod_eq_sub_mod (by omega)];exact h2
theorem qD6 {α:Type} (f:α→List Value) (ok:α→Prop) {t e:TypeId} {k:Nat} (hk:∀x,(f x).length=k) (hk0:0<k) (ht:P.underlying t=some (.slice e)) (hC:P.cellsOf e=k)
    (hel:∀n cs' y,DataW.trod enc P w base spare held n e cs'=some y→∃x,cs'=f x∧ok x)
    {fuel:Nat} {v:Value} {x:DataW H×List MemPlace} (hf:DataW.trod enc P w base spare held fuel t [v]=some x) :
    ∃(A:Option Addr) (len cap:Nat) (l:List α),v=.slice A len cap∧l.length=len∧len≤cap∧cap≤maxLen∧(∀x∈l,ok x)∧∀j u,(l.flatMap f)[j]?=some u→∃a,A=some a∧a.block<w.heap.size∧w.cell? (a.add j)=some u:=by
 rcases open_slice ht hf with⟨hcs,_⟩|⟨a,len,cap,m,n,D,Pl,hcs,hb,hl,hm,hmm,hx,hi⟩
 · obtain rfl:v=.slice none 0 0:=by simpa using hcs
   exact⟨none,0,0,[],rfl,rfl,Nat.le_refl _,by unfold maxLen;omega,by simp,by simp⟩
 · obtain rfl:v=.slice (some a) len cap:=by simpa using hcs
   have hlm:len≤m:=by rw[hmm];split <;> omega
   have hex:∀i,i<len→∃x,ok x∧∀j u,(f x)[j]?=some u→w.cell? (a.add (i*k+j))=some u:=by
    intro i hil;obtain⟨cs',hc,ht'⟩:=hi i (by omega);obtain⟨x,rfl,hok⟩:=hel _ _ _ ht';refine⟨x,hok,fun j u hu=>?_⟩;obtain⟨_,_,hat⟩:=World.cells?_some hc;have hj:j<k:=by rw[←hk x];exact(List.getElem?_eq_some_iff.1 hu).1
    have:=hat j (by rw[hC];exact hj);rw[hC] at this;rw[←Go.Deep.add_add,this,hu]
   have hlist:∃l:List α,l.length=len∧(∀x∈l,ok x)∧∀i x,l[i]?=some x→∀j u,(f x)[j]?=some u→w.cell? (a.add (i*k+j))=some u:=by
    refine⟨List.ofFn fun i:Fin len=>Classical.choose (hex i.1 i.2),by simp,?_,?_⟩
    · intro x hx;obtain⟨i,hi,rfl⟩:=List.getElem_of_mem hx;rw[List.getElem_ofFn];exact(Classical.choose_spec (hex i (by simpa using hi))).1
    · intro i x hx;obtain⟨hi,rfl⟩:=List.getElem?_eq_some_iff.1 hx;rw[List.getElem_ofFn];exact(Classical.choose_spec (hex i (by simpa using hi))).2
   obtain⟨l,h1,h2,h3⟩:=hlist;refine⟨some a,len,cap,l,rfl,h1,hl,hm,h2,fun j u hu=>⟨a,rfl,?_,?_⟩⟩
   · have hj:0<l.length:=by
       rcases l with _|⟨x,t⟩
       · simp at hu
       · simp
     obtain⟨cs',hc,_⟩:=hi 0 (by omega);obtain⟨_,hcl,hat⟩:=World.cells?_some hc;have h0:=hat 0 (by rw[hC];exact hk0);have hv0:cs'[0]?=some (cs'[0]'(by rw[hcl,hC];exact hk0)):=List.getElem?_eq_getElem _;rw[hv0] at h0;have:=World.block_lt_of_cell? w _ h0;simp[qM5] at this;exact this
   · obtain⟨x,hx,hxu⟩:=qSb f k hk l j u hu hk0;have:=h3 _ x hx _ u hxu
     rwa [Nat.div_add_mod' ] at this
theorem open_list {α:Type} (f:α→List Value) (ok:α→Prop) {t e:TypeId} {k:Nat} (hk:∀x,(f x).length=k) (hk0:0<k) (ht:P.underlying t=some (.slice e)) (hC:P.cellsOf e=k)
    (hel:∀n cs' y,DataW.trod enc P w base spare held n e cs'=some y→∃x,cs'=f x∧ok x)
    {r:Reach} {b0:Nat} {v:Value} {d:DataW H} {p:List MemPlace} (hv:Value.okWide P w r b0 t v) (h:DataW.Trod enc P w base spare held t v d p) :
    ∃(A:Option Addr) (len cap:Nat) (l:List α),v=.slice A len cap∧l.length=len∧len≤cap∧cap≤maxLen∧(∀x∈l,ok x)∧∀j u,(l.flatMap f)[j]?=some u→∃a,A=some a∧a.block<w.heap.size∧w.cell? (a.add j)=some u:=by
 obtain⟨A,len,cap,rfl⟩:=okWide_slice ht hv;obtain⟨fuel,hf⟩:=h;exact qD6 f ok hk hk0 ht hC hel hf
end
end Go.Ms
namespace Go.Proofs.YtainiaighnjpfaaGreatDoor
open Go.RowKit Go.Ms Go.Lib Go.ChangeShapes Go.WideShapes Go.Deep
theorem len2 {α:Type} {l:List α} (h:l.length=2):∃a b,l=[a,b]:=by
 match l,h with
 |[a,b],_=>exact⟨a,b,rfl⟩
theorem len3 {α:Type} {l:List α} (h:l.length=3):∃a b c,l=[a,b,c]:=by
 match l,h with
 |[a,b,c],_=>exact⟨a,b,c,rfl⟩
theorem len4 {α:Type} {l:List α} (h:l.length=4):∃a b c d,l=[a,b,c,d]:=by
 match l,h with
 |[a,b,c,d],_=>exact⟨a,b,c,d,rfl⟩
theorem len7 {α:Type} {l:List α} (h:l.length=7):∃a b c d e f g,l=[a,b,c,d,e,f,g]:=by
 match l,h with
 |[a,b,c,d,e,f,g],_=>exact⟨a,b,c,d,e,f,g,rfl⟩
section
variable {H:Type} {enc:TypeId×Value→H} {w:World} {base:Nat} {spare:Nat→Bool} {held:Bool}
theorem qLh:Tryz.prog.cellsOf 4=1:=by kernel_rfl
theorem qUn:Tryz.prog.cellsOf 2=1:=by kernel_rfl
theorem qHh:Tryz.prog.cellsOf 3=1:=by kernel_rfl
theorem qJw:Tryz.prog.cellsOf 9=1:=by kernel_rfl
theorem qHw:Tryz.prog.cellsOf 43=3:=by kernel_rfl
theorem qLk:Tryz.prog.cellsOf 41=2:=by kernel_rfl
theorem qNe:Tryz.prog.cellsOf 45=7:=by kernel_rfl
theorem qT1 {n:Nat} {cs':List Value} {y:DataW H×List MemPlace} (h:DataW.trod enc Tryz.prog w base spare held n 43 cs'=some y):∃x:Cl,cs'=clV x∧ClIn x:=by
 obtain⟨xs,n',_,_,hl,hxl,hf⟩:=DataW.trod_struct Tryz.underlying43 h;rw[qHw] at hl;obtain⟨y0,y1,y2,rfl⟩:=len3 (show xs.length=3 from hxl);obtain⟨c0,c1,c2,rfl⟩:=len3 hl;have h0:DataW.trod enc Tryz.prog w base spare held n' 4 (([c0,c1,c2].drop 0).take (Tryz.prog.cellsOf 4))=some y0:=hf 0 _ rfl;rw[qLh] at h0;have h1:DataW.trod enc Tryz.prog w base spare held n' 2 (([c0,c1,c2].drop 1).take (Tryz.prog.cellsOf 2))=some y1:=hf 1 _ rfl;rw[qUn] at h1;have h2:DataW.trod enc Tryz.prog w base spare held n' 9 (([c0,c1,c2].drop 2).take (Tryz.prog.cellsOf 9))=some y2:=hf 2 _ rfl;rw[qJw] at h2;obtain⟨u,e0,_⟩:=DataW.trod_bool Tryz.underlying4 (show DataW.trod enc Tryz.prog w base spare held n' 4 [c0]=some y0 from h0);obtain⟨m,e1,_,wm⟩:=DataW.trod_int Tryz.underlying2 (show DataW.trod enc Tryz.prog w base spare held n' 2 [c1]=some y1 from h1);obtain⟨s,e2,_,ws⟩:=DataW.trod_string Tryz.underlying9 (show DataW.trod enc Tryz.prog w base spare held n' 9 [c2]=some y2 from h2);obtain rfl:c0=.bool u:=by simpa using e0
 obtain rfl:c1=.int .i64 m:=by simpa using e1
 obtain rfl:c2=.string s:=by simpa using e2
 exact⟨(u,m,s),rfl,ws,I64.of wm⟩
theorem qZc {n:Nat} {cs':List Value} {y:DataW H×List MemPlace} (h:DataW.trod enc Tryz.prog w base spare held n 41 cs'=some y):∃x:Ty,cs'=[.int .i64 x.1,.bool x.2]∧I64 x.1:=by
 obtain⟨xs,n',_,_,hl,hxl,hf⟩:=DataW.trod_struct Tryz.underlying41 h;rw[qLk] at hl;obtain⟨y0,y1,rfl⟩:=len2 (show xs.length=2 from hxl);obtain⟨c0,c1,rfl⟩:=len2 hl;have h0:DataW.trod enc Tryz.prog w base spare held n' 3 (([c0,c1].drop 0).take (Tryz.prog.cellsOf 3))=some y0:=hf 0 _ rfl;rw[qHh] at h0;have h1:DataW.trod enc Tryz.prog w base spare held n' 4 (([c0,c1].drop 1).take (Tryz.prog.cellsOf 4))=some y1:=hf 1 _ rfl;rw[qLh] at h1;obtain⟨m,e0,_,wm⟩:=DataW.trod_int Tryz.underlying3 (show DataW.trod enc Tryz.prog w base spare held n' 3 [c0]=some y0 from h0);obtain⟨u,e1,_⟩:=DataW.trod_bool Tryz.underlying4 (show DataW.trod enc Tryz.prog w base spare held n' 4 [c1]=some y1 from h1);obtain rfl:c0=.int .i64 m:=by simpa using e0
 obtain rfl:c1=.bool u:=by simpa using e1
 exact⟨(m,u),rfl,I64.of wm⟩
theorem zAs {n:Nat} {cs':List Value} {y:DataW H×List MemPlace} (h:DataW.trod enc Tryz.prog w base spare held n 45 cs'=some y):∃x:Co,cs'=coV x∧qXg x:=by
 obtain⟨xs,n',_,_,hl,hxl,hf⟩:=DataW.trod_struct Tryz.underlying45 h;rw[qNe] at hl;obtain⟨y0,y1,y2,y3,rfl⟩:=len4 (show xs.length=4 from hxl);obtain⟨c0,c1,c2,c3,c4,c5,c6,rfl⟩:=len7 hl;have h0:DataW.trod enc Tryz.prog w base spare held n' 3 (([c0,c1,c2,c3,c4,c5,c6].drop 0).take (Tryz.prog.cellsOf 3))=some y0:=hf 0 _ rfl;rw[qHh] at h0;have h1:DataW.trod enc Tryz.prog w base spare held n' 9 (([c0,c1,c2,c3,c4,c5,c6].drop 1).take (Tryz.prog.cellsOf 9))=some y1:=hf 1 _ rfl;rw[qJw] at h1;have h2:DataW.trod enc Tryz.prog w base spare held n' 41 (([c0,c1,c2,c3,c4,c5,c6].drop 2).take (Tryz.prog.cellsOf 41))=some y2:=hf 2 _ rfl;rw[qLk] at h2;have h3:DataW.trod enc Tryz.prog w base spare held n' 43 (([c0,c1,c2,c3,c4,c5,c6].drop 4).take (Tryz.prog.cellsOf 43))=some y3:=hf 3 _ rfl;rw[qHw] at h3;obtain⟨m,e0,_,wm⟩:=DataW.trod_int Tryz.underlying3 (show DataW.trod enc Tryz.prog w base spare held n' 3 [c0]=some y0 from h0);obtain⟨s,e1,_,ws⟩:=DataW.trod_string Tryz.underlying9 (show DataW.trod enc Tryz.prog w base spare held n' 9 [c1]=some y1 from h1);obtain⟨t,e2,wt⟩:=qZc (show DataW.trod enc Tryz.prog w base spare held n' 41 [c2,c3]=some y2 from h2);obtain⟨c,e3,wc⟩:=qT1 (show DataW.trod enc Tryz.prog w base spare held n' 43 [c4,c5,c6]=some y3 from h3);obtain rfl:c0=.int .i64 m:=by simpa using e0
 obtain rfl:c1=.string s:=by simpa using e1
 have e2':c2=.int .i64 t.1∧c3=.bool t.2:=by simpa using e2
 have e3':c4=.bool c.1∧c5=.int .i64 c.2.1∧c6=.string c.2.2:=by simpa[clV] using e3
 obtain⟨rfl,rfl⟩:=e2';obtain⟨rfl,rfl,rfl⟩:=e3';exact⟨(m,s,t,c),rfl,I64.of wm,ws,wt,wc⟩
def oneI (n:Int):List Value:=[.int .i64 n]
theorem qU3 (n:Int):(oneI n).length=1:=rfl
theorem zAt {n:Nat} {cs':List Value} {y:DataW H×List MemPlace} (h:DataW.trod enc Tryz.prog w base spare held n 3 cs'=some y):∃x:Int,cs'=oneI x∧I64 x:=by
 obtain⟨m,e,_,wm⟩:=DataW.trod_int Tryz.underlying3 h;exact⟨m,e,I64.of wm⟩
theorem qW5 {B:Nat} {A:Option Addr} {l:List Int} (h:Ext w B A (l.flatMap oneI)):Ext w B A (intV l):=by
 have e:intV l=l.flatMap oneI:=by
  clear h
  induction l with
  |nil=>rfl
  |cons a t ih=>show .int .i64 a::intV t=[.int .i64 a]++t.flatMap oneI;rw[ih];rfl
 rw[e];exact h
end
end Go.Proofs.YtainiaighnjpfaaGreatDoor
namespace Go.Ms
open Go.RowKit Go.Lib
theorem qYj (c:Cl):(clV c).length=3:=rfl
theorem qOz (c:Co):(coV c).length=7:=rfl
theorem qQk (l:List Co):∀(n:Nat),(colV l).take (n*7)=colV (l.take n):=by
 induction l with
 |nil=>intro n;simp[colV]
 | cons a t ih=>
  intro n
  cases n with
  |zero=>simp[colV]
  |succ n=>
   show(coV a++colV t).take ((n+1)*7)=coV a++colV (t.take n)
   rw[List.take_append,qOz,show(n+1)*7-7=n*7 by omega,ih n,List.take_of_length_le (by rw[qOz];omega)]
end Go.Ms
