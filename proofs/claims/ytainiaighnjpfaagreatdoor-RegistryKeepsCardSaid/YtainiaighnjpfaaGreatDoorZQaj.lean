/- Registry's laws: the examples, walked. Evolve's laws: the chapter's examples: the walk. Evolve's laws: a cell of a number. Evolve's laws: a row of numbers. Evolve's laws: the versions of a seed: what lies while they are put together. Registry's laws: what is offered among the arguments; three registries side by side. The laid variables, as the cells' contracts ask them; a world for the witness. Schemas: an argument's lists, read as such. -/
import Derived.Test.YtainiaighnjpfaaGreatDoorZQai
import Derived.Test.YtainiaighnjpfaaGreatDoorZQad
import Derived.Test.YtainiaighnjpfaaGreatDoorZQp
import Derived.Test.YtainiaighnjpfaaGreatDoorZQah
import Derived.Test.YtainiaighnjpfaaGreatDoorZQaa
import Derived.Test.YtainiaighnjpfaaGreatDoorZQh
import Derived.Test.YtainiaighnjpfaaGreatDoorZQd
import Derived.Lib.LaidU8
import Derived.Lib.LaidTab
import Derived.Stop.LaidErr
import Derived.Deep.DeepHandedRow
import Derived.OpenShut
import Derived.ShutString
import Derived.ProofKit
import Derived.Test.YtainiaighnjpfaaGreatDoorZQa
import Derived.Test.YtainiaighnjpfaaGreatDoorZQb
import Derived.Deep.Slices
import Derived.Deep.Fields
import Derived.ChangeSame
import Derived.Lib.SmallJoins
set_option linter.unusedVariables false
set_option linter.unusedSimpArgs false
namespace Go.Ms
open Go.RowKit Go.Lib
def rRow:List Cl:=[(false,5,⟨#[]⟩)]
theorem rm_1:qCf [rS1,rS2] 1 2 rRow=(rRow,0):=by kernel_rfl
theorem rm_2:qCf [rS1,rS2] 2 1 rRow=([],131):=by kernel_rfl
theorem rg_1:qHj rG3 rA 1=(rS1,0):=by kernel_rfl
theorem rg_2:qHj rG3 rA 3=(([],[]),131):=by kernel_rfl
theorem rg_3:qHj rG3 [99] 1=(([],[]),130):=by kernel_rfl
theorem qR9:rgAt rG3 rA=[rS1,rS2]:=by kernel_rfl
theorem qVp:rgAt rG3 [99]=[]:=by kernel_rfl
theorem qVi:(qAq rG3 rA).isSome=true:=by kernel_rfl
theorem qSm {m g:Nat} {w w1 w2:World} (h:Below m w w1) (hg:w1.grownBy w2 (some g)) (hm:m≤w1.heap.size) (hb:m≤g):Below m w w2:=h.grown hg hm (fun k e=>by cases e;exact hb)
def qLu (B:Nat) (T:TypeId) (N:List Bs):Value→World→Prop:=fun v w=>w.ownsRow B T 1 v N.length (N.map Go.Proofs.encStr)
theorem qIg (B:Nat) (T:TypeId) (N:List Bs):Go.Rel.Stable (qLu B T N):=fun v w w' h hb=>own_below h hb
end Go.Ms
namespace Go.Proofs.YtainiaighnjpfaaGreatDoor
open Go.RowKit Go.Ms Go.Lib Go.Maps Go.WideMaps Go.Rel
structure WkR (w:World) (g:Nat) (G:Rg) (W:World):Prop where
  lay:RgL g G W
  bel:Below w.heap.size w W
  lo:w.heap.size≤g
theorem WkR.to {w:World} {g:Nat} {G:Rg} {W W':World} (h:WkR w g G W) (hb:Below W.heap.size W W'):WkR w g G W':=⟨h.lay.to hb,h.bel.trans (hb.mono h.bel.size),h.lo⟩
theorem WkR.turned {w:World} {g:Nat} {G G':Rg} {W W':World} (h:WkR w g G W) (ht:qMv W g G' W'):WkR w g G' W':=⟨ht.1,h.bel.grown ht.2 h.bel.size (fun k e=>by cases e;exact h.lo),h.lo⟩
set_option maxRecDepth 100000 in
set_option maxHeartbeats 8000000 in
theorem qHc (w:World) (hE:Env w):Calls Tryz.prog 16 #[] w fun e w'=>e=.returned (.bool true)∧Below w.heap.size w w':=by
 have HE:=Lib.hid (fun (W:World) (hb:Below w.heap.size w W)=>hE.below hb);clear hE;have hnew:=qKl w;have HNEW:=Lib.hid hnew;clear hnew
 go_enter Tryz.func16,Tryz.ntmps16
 go_wp2_with fail
 refine HNEW.out.mono ?_;rintro en w0 ⟨g,rfl,h1,h2,h3⟩;have K:=Lib.hid (show WkR w g [] w0 from⟨h1,h2,h3⟩);clear h1 h2 h3 HNEW
 go_wp2_with fail
 refine(qCo g [] rG1 ⟨#[97]⟩ _ rS1 1 0 w0 (by decide) K.out.lay qJh.1 (fun W hb=>HE.out W (K.out.bel.trans (hb.mono K.out.bel.size))) (qFh w0 (HE.out _ K.out.bel)) ra_1).mono ?_;rintro en w1 ⟨rfl,ht⟩;have K1:=Lib.hid (K.out.turned ht);clear ht K
 go_wp2_with fail
 refine(qCo g rG1 rG1 ⟨#[97]⟩ _ rS1 1 0 w1 (by decide) K1.out.lay qJh.1 (fun W hb=>HE.out W (K1.out.bel.trans (hb.mono K1.out.bel.size))) (qFh w1 (HE.out _ K1.out.bel)) ra_2).mono ?_;rintro en w2 ⟨rfl,ht⟩;have K2:=Lib.hid (K1.out.turned ht);clear ht K1
 go_wp2_with fail
 refine(qCo g rG1 rG2 ⟨#[97]⟩ _ rS2 2 0 w2 (by decide) K2.out.lay qJh.2.1 (fun W hb=>HE.out W (K2.out.bel.trans (hb.mono K2.out.bel.size))) (qSb w2 (HE.out _ K2.out.bel)) ra_3).mono ?_;rintro en w3 ⟨rfl,ht⟩;have K3:=Lib.hid (K2.out.turned ht);clear ht K2
 go_wp2_with fail
 refine(qCo g rG2 rG2 ⟨#[97]⟩ _ rS1 0 120 w3 (by decide) K3.out.lay qJh.1 (fun W hb=>HE.out W (K3.out.bel.trans (hb.mono K3.out.bel.size))) (qFh w3 (HE.out _ K3.out.bel)) ra_4).mono ?_;rintro en w4 ⟨rfl,ht⟩;have K4:=Lib.hid (K3.out.turned ht);clear ht K3
 go_wp2_with fail
 refine(qCo g rG2 rG2 ⟨#[97]⟩ _ rS4 0 2 w4 (by decide) K4.out.lay qJh.2.2.2 (fun W hb=>HE.out W (K4.out.bel.trans (hb.mono K4.out.bel.size))) (qRh w4 (HE.out _ K4.out.bel)) ra_5).mono ?_;rintro en w5 ⟨rfl,ht⟩;have K5:=Lib.hid (K4.out.turned ht);clear ht K4
 go_wp2_with fail
 refine(qCo g rG2 rG2 ⟨#[65]⟩ _ rS1 0 130 w5 (by decide) K5.out.lay qJh.1 (fun W hb=>HE.out W (K5.out.bel.trans (hb.mono K5.out.bel.size))) (qFh w5 (HE.out _ K5.out.bel)) ra_6).mono ?_;rintro en w6 ⟨rfl,ht⟩;have K6:=Lib.hid (K5.out.turned ht);clear ht K5
 go_wp2_with fail
 refine(qCo g rG2 rG3 ⟨#[98]⟩ _ rS3 1 0 w6 (by decide) K6.out.lay qJh.2.2.1 (fun W hb=>HE.out W (K6.out.bel.trans (hb.mono K6.out.bel.size))) (qR1 w6 (HE.out _ K6.out.bel)) ra_7).mono ?_;rintro en w7 ⟨rfl,ht⟩;have K7:=Lib.hid (K6.out.turned ht);clear ht K6;have K:=K7;clear K7
 go_wp2_with fail
 have hget:=qHb g rG3 ⟨#[97]⟩ 1 w7 (by decide) K.out.lay (by decide);rw[show(⟨#[97]⟩:ByteArray).data.toList=rA from rfl,rg_1] at hget;refine hget.mono ?_;clear hget;rintro en w8 ⟨r6,rfl,b8,t8,-,-⟩;obtain⟨X8,hX8⟩:∃X,X=w8.alloc (.cells #[.slice r6.a r6.n r6.c,.slice r6.b r6.m r6.d] 33):=⟨_,rfl⟩
 have bX8:Below w8.heap.size w8 X8:=by rw[hX8];exact(Below.refl _ _).alloc (Nat.le_refl _) _
 have qX8:X8.heap[w8.heap.size]?=some (.cells #[.slice r6.a r6.n r6.c,.slice r6.b r6.m r6.d] 33 (0,0)):=by rw[hX8];exact qAf _ _
 have K8:=Lib.hid (K.out.to (b8.trans (bX8.mono b8.size)));have Q8:=Lib.hid qX8;have R8:=Lib.hid (t8.lay.to bX8)
 clear b8 t8 bX8 qX8 K
 go_upto_region 6 with fail
 rw[←hX8]
 generalize w8.heap.size=g6 at Q8 ⊢
 clear hX8
 go_wp2_with fail
 have hget:=qHb g rG3 ⟨#[97]⟩ 3 X8 (by decide) K8.out.lay (by decide);rw[show(⟨#[97]⟩:ByteArray).data.toList=rA from rfl,rg_2] at hget;refine hget.mono ?_;clear hget;rintro en w9 ⟨r9,rfl,b9,-,-,-⟩;have bX9:=(Below.refl w9.heap.size w9).alloc (Nat.le_refl _) (.cells #[.slice r9.a r9.n r9.c,.slice r9.b r9.m r9.d] 33);obtain⟨X9,hX9⟩:∃X,X=w9.alloc (.cells #[.slice r9.a r9.n r9.c,.slice r9.b r9.m r9.d] 33):=⟨_,rfl⟩;rw[←hX9] at bX9;have bb:=b9.trans (bX9.mono b9.size)
 have K9:=Lib.hid (K8.out.to bb);have Q9:=Lib.hid (qAa Q8.out bb);have R9:=Lib.hid (R8.out.to bb)
 clear b9 bX9 bb K8 Q8 R8
 go_upto_region 7 with fail
 rw[←hX9]
 generalize w9.heap.size=g8
 clear hX9
 go_wp2_with fail
 have hget:=qHb g rG3 ⟨#[99]⟩ 1 X9 (by decide) K9.out.lay (by decide);rw[show(⟨#[99]⟩:ByteArray).data.toList=[99] from rfl,rg_3] at hget;refine hget.mono ?_;clear hget;rintro en wa ⟨ra,rfl,ba,-,-,-⟩;have bXa:=(Below.refl wa.heap.size wa).alloc (Nat.le_refl _) (.cells #[.slice ra.a ra.n ra.c,.slice ra.b ra.m ra.d] 33);obtain⟨Xa,hXa⟩:∃X,X=wa.alloc (.cells #[.slice ra.a ra.n ra.c,.slice ra.b ra.m ra.d] 33):=⟨_,rfl⟩;rw[←hXa] at bXa;have bb:=ba.trans (bXa.mono ba.size)
 have Ka:=Lib.hid (K9.out.to bb);have Qa:=Lib.hid (qAa Q9.out bb);have Ra:=Lib.hid (R9.out.to bb)
 clear ba bXa bb K9 Q9 R9
 go_upto_region 8 with fail
 rw[←hXa]
 generalize wa.heap.size=g10
 clear hXa
 go_wp2_with fail
 obtain⟨Xb,hXb⟩:∃X,X=Xa.alloc (.cells #[.bool false,.int .i64 5,.string ⟨#[]⟩] 43):=⟨_,rfl⟩
 have bXb:Below Xa.heap.size Xa Xb:=by rw[hXb];exact(Below.refl _ _).alloc (Nat.le_refl _) _
 have qXb:Xb.heap[Xa.heap.size]?=some (.cells #[.bool false,.int .i64 5,.string ⟨#[]⟩] 43 (0,0)):=by rw[hXb];exact qAf _ _
 have Kb:=Lib.hid (Ka.out.to bXb);have Qb:=Lib.hid (qAa Qa.out bXb);have Rb:=Lib.hid (Ra.out.to bXb)
 have hz:∀s∈rgAt rG3 (⟨#[97]⟩:ByteArray).data.toList,ScSz s.1:=by
  rw[show(⟨#[97]⟩:ByteArray).data.toList=rA from rfl,qR9]
  intro s hs
  rcases List.mem_cons.1 hs with rfl|hs
  · exact qJh.1
  · rw[List.mem_singleton.1 hs];exact qJh.2.1
 have hrw:qKo Xb (some ⟨Xa.heap.size,0,none⟩) 1 rRow:=qSz (l:=rRow) (n:=1) qXb (by decide) (by decide) (by decide);have hmv:=qIq g rG3 ⟨#[97]⟩ 1 2 (some ⟨Xa.heap.size,0,none⟩) 1 1 rRow Xb (by decide) Kb.out.lay hz (by decide) (by decide) hrw (HE.out _ Kb.out.bel);rw[show(⟨#[97]⟩:ByteArray).data.toList=rA from rfl,qVi,qR9,rm_1] at hmv;simp only[if_true] at hmv;rw[←hXb];refine hmv.mono ?_;clear hmv hrw bXb qXb hXb Ka Qa Ra;rintro en wc ⟨v,rfl,hoc,bc⟩;obtain⟨Am,cm,rfl,-,-⟩:=qAh hoc
 have Kc:=Lib.hid (Kb.out.to bc);have Qc:=Lib.hid (qAa Qb.out bc);have Rc:=Lib.hid (Rb.out.to bc);have Oc:=Lib.hid hoc
 clear bc hoc Kb Qb Rb
 go_wp2_with fail
 obtain⟨Xd,hXd⟩:∃X,X=wc.alloc (.cells #[.bool false,.int .i64 5,.string ⟨#[]⟩] 43):=⟨_,rfl⟩
 have bXd:Below wc.heap.size wc Xd:=by rw[hXd];exact(Below.refl _ _).alloc (Nat.le_refl _) _
 have qXd:Xd.heap[wc.heap.size]?=some (.cells #[.bool false,.int .i64 5,.string ⟨#[]⟩] 43 (0,0)):=by rw[hXd];exact qAf _ _
 have Kd:=Lib.hid (Kc.out.to bXd);have Qd:=Lib.hid (qAa Qc.out bXd);have Rd:=Lib.hid (Rc.out.to bXd);have Od:=Lib.hid (own_below Oc.out bXd)
 have hrw:qKo Xd (some ⟨wc.heap.size,0,none⟩) 1 rRow:=qSz (l:=rRow) (n:=1) qXd (by decide) (by decide) (by decide);have hmv:=qIq g rG3 ⟨#[97]⟩ 2 1 (some ⟨wc.heap.size,0,none⟩) 1 1 rRow Xd (by decide) Kd.out.lay hz (by decide) (by decide) hrw (HE.out _ Kd.out.bel);rw[show(⟨#[97]⟩:ByteArray).data.toList=rA from rfl,qVi,qR9,rm_2] at hmv;simp only[if_true] at hmv;rw[←hXd];refine hmv.mono ?_;clear hmv hrw bXd qXd hXd Kc Qc Rc Oc hz;rintro en we ⟨v,rfl,hoe,be⟩;obtain⟨An,cn,rfl,-,-⟩:=qAh hoe
 have Ke:=Lib.hid (Kd.out.to be);have Qe:=Lib.hid (qAa Qd.out be);have Re:=Lib.hid (Rd.out.to be);have Oe:=Lib.hid (own_below Od.out be)
 clear be hoe Kd Qd Rd Od
 go_upto_region 10 with fail
 refine qAk [isV (.pointer (some ⟨g,0,none⟩)),isV (.int .i64 2),isV (.bool true),isV (.bool true),isV (.pointer (some ⟨g,0,none⟩)),isV (.int .i64 0),isV (.bool true),isV (.bool true),isV (.bool true),isV (.pointer (some ⟨g,0,none⟩)),qLu we.heap.size 9 [rA,rB],newS 2 #[.string ⟨#[97]⟩,.string ⟨#[98]⟩] 9,isV (.bool true),isV (.bool true),isV (.bool true),isV (.int .i64 0),isV (.bool true),isV (.bool true),isV (.bool true),isV (.agg #[.slice r6.a r6.n r6.c,.slice r6.b r6.m r6.d]),isV (.string ⟨#[49,32,105,100,32,105,110,116,51,50,42,32,48,47]⟩),isSc rS1,isV (.bool true),isV (.bool true),isV (.bool true),isV (.int .i64 131),isV (.bool true),isV (.bool true),isV (.bool true),isV (.int .i64 130),isV (.bool true),isV (.bool true),isV (.bool true),isV (.int .i64 0),isV (.bool true),isV (.bool true),isV (.bool true),isV (.slice Am rRow.length cm),isV (.agg #[.bool false,.int .i64 5,.string ⟨#[]⟩]),newS 1 #[.bool false,.int .i64 5,.string ⟨#[]⟩] 43,isV (.bool true),isV (.bool true),isV (.bool true),isV (.int .i64 131),isV (.bool true),isV (.bool true),isV (.bool true)] (by kernel_rfl) (by kernel_rfl) ?_ ?_
 ·
   refine rb ?_;refine rf (fun ev wo E=>?_) ?_
   · have e90:ev (.tmp 90)=.pointer (some ⟨g,0,none⟩):=E.e 0;have ef:=E.func;have ec:=E.const;have hla:=qBq g rG3 ⟨#[97]⟩ wo (by decide) (Ke.out.to E.bel).lay;rw[show(⟨#[97]⟩:ByteArray).data.toList=rA from rfl,qR9] at hla;go_simp;refine qAe (hla.mono ?_);rintro e w' ⟨rfl,hw⟩;exact⟨_,rfl,by rw[hw];exact Below.refl _ _,rfl⟩
   refine rf (fun ev wo E=>?_) ?_
   · have e91:ev (.tmp 91)=.int .i64 2:=E.e 0;have ec:=E.const;go_simp;exact rv
   refine rc 0 ?_;refine rbq 0 ?_;refine rq 1 (fun ev wo E=>?_) ?_
   · have e94:ev (.tmp 94)=.pointer (some ⟨g,0,none⟩):=E.e 0;have ef:=E.func;have ec:=E.const;have hla:=qBq g rG3 ⟨#[99]⟩ wo (by decide) (Ke.out.to E.bel).lay;rw[show(⟨#[99]⟩:ByteArray).data.toList=[99] from rfl,qVp] at hla;go_simp;refine qAe (hla.mono ?_);rintro e w' ⟨rfl,hw⟩;exact⟨_,rfl,by rw[hw];exact Below.refl _ _,rfl⟩
   refine rq 1 (fun ev wo E=>?_) ?_
   · have e95:ev (.tmp 95)=.int .i64 0:=E.e 0;have ec:=E.const;go_simp;exact rv
   refine rf (fun ev wo E=>?_) ?_
   · have e93:ev (.tmp 93)=.bool true:=E.e 0;have e96:ev (.tmp 96)=.bool true:=E.e 1;have ec:=E.const;go_simp;exact rv
   refine rc 0 ?_;refine rbq 0 ?_;refine⟨qBs (qA0.by 1 rfl rfl rfl rfl rfl) (qIg _ _ _) (fun ev wo E=>?_),?_⟩
   · have e99:ev (.tmp 99)=.pointer (some ⟨g,0,none⟩):=E.e 0;have ef:=E.func;have hsu:=qBj g rG3 wo (Ke.out.to E.bel).lay;go_simp;refine qAe (hsu.mono ?_);rintro e w' ⟨v,rfl,ho,hb⟩;exact⟨_,rfl,hb,qB1 ho E.bel.size⟩
   refine⟨qBs (qA0.by 0 rfl rfl rfl rfl rfl) (qE7 _ _ _) (fun ev wo E=>?_),?_⟩
   · have ec:=E.const;go_simp;exact qAg (qF7 _ _ _ _)
   refine rq 3 (fun ev wo E=>?_) ?_
   · have e100:(qLu we.heap.size 9 [rA,rB]) (ev (.tmp 100)) wo:=E.d 0 rfl rfl rfl;have e101:(newS 2 #[.string ⟨#[97]⟩,.string ⟨#[98]⟩] 9) (ev (.tmp 101)) wo:=E.d 1 rfl rfl rfl;have ef:=E.func;have h100:wo.ownsRow we.heap.size 9 1 (ev (.tmp 100)) 2 ([rA,rB].map encStr):=e100;obtain⟨An,cn,e0,-,-⟩:=qAh h100;obtain⟨gn,e1,qn⟩:=e101;rw[e0] at h100;go_simp;refine qAe ((qJ9 wo An (some ⟨gn,0,none⟩) 2 cn 2 [rA,rB] (by omega) rfl (Lay.of_own h100 (Nat.le_refl _)) (qEz (xs:=[rA,rB].map encStr) qn)).mono ?_)
     rintro e w' ⟨rfl,hb⟩;exact⟨_,rfl,hb,rfl⟩
   refine rf (fun ev wo E=>?_) ?_
   · have e98:ev (.tmp 98)=.bool true:=E.e 0;have e102:ev (.tmp 102)=.bool true:=E.e 1;have ec:=E.const;go_simp;exact rv
   refine rc 0 ?_;refine rbq 0 ?_;refine rq 1 (fun ev wo E=>?_) ?_
   · have e105:ev (.tmp 105)=.int .i64 0:=E.e 0;have ec:=E.const;go_simp;exact rv
   refine rf (fun ev wo E=>?_) ?_
   · have e104:ev (.tmp 104)=.bool true:=E.e 0;have e106:ev (.tmp 106)=.bool true:=E.e 1;have ec:=E.const;go_simp;exact rv
   refine rc 0 ?_;refine rq 0 (fun ev wo E=>?_) ?_
   · have e6:ev (.tmp 6)=.pointer (some ⟨g6,0,none⟩):=(E.base 6 rfl).trans rfl;have hx0:=cell_of_block (i:=0) (qAa Qe.out E.bel) rfl;have hx1:=cell_of_block (i:=1) (qAa Qe.out E.bel) rfl;go_simp;exact rv
   refine rbq 0 ?_;refine⟨qBs (qA0.by 1 rfl rfl rfl rfl rfl) (qLh _) (fun ev wo E=>?_),?_⟩
   · have e110:ev (.tmp 110)=.string ⟨#[49,32,105,100,32,105,110,116,51,50,42,32,48,47]⟩:=E.e 0;have ef:=E.func;go_simp;refine qAe ((qFh wo (HE.out _ (Ke.out.to E.bel).bel)).mono ?_);rintro e w' ⟨r,rfl,hl,hb⟩;exact⟨_,rfl,hb,r,rfl,hl⟩
   refine rq 3 (fun ev wo E=>?_) ?_
   · have e109:ev (.tmp 109)=.agg #[.slice r6.a r6.n r6.c,.slice r6.b r6.m r6.d]:=E.e 0;have e111:(isSc rS1) (ev (.tmp 111)) wo:=E.d 1 rfl rfl rfl;have ef:=E.func;obtain⟨r,e0,hl⟩:=e111;have h6:=Re.out.to E.bel;have hsm:=qIr wo r6.a r6.b r.a r.b r6.n r6.c r6.m r6.d r.n r.c r.m r.d rS1.1 rS1.1 rS1.2 rS1.2 (by have:=h6.nn;unfold maxLen;omega) (by have:=h6.mm;unfold maxLen;omega) (by have:=hl.nn;unfold maxLen;omega) (by have:=hl.mm;unfold maxLen;omega) h6.n h6.m hl.n hl.m h6.la h6.lb hl.la hl.lb
     simp only[decide_true,Bool.and_self] at hsm;go_simp;refine qAe (hsm.mono ?_);rintro e w' ⟨rfl,hb⟩;exact⟨_,rfl,hb,rfl⟩
   refine rf (fun ev wo E=>?_) ?_
   · have e108:ev (.tmp 108)=.bool true:=E.e 0;have e112:ev (.tmp 112)=.bool true:=E.e 1;have ec:=E.const;go_simp;exact rv
   refine rc 0 ?_;refine rbq 0 ?_;refine rq 1 (fun ev wo E=>?_) ?_
   · have e115:ev (.tmp 115)=.int .i64 131:=E.e 0;have ec:=E.const;go_simp;exact rv
   refine rf (fun ev wo E=>?_) ?_
   · have e114:ev (.tmp 114)=.bool true:=E.e 0;have e116:ev (.tmp 116)=.bool true:=E.e 1;have ec:=E.const;go_simp;exact rv
   refine rc 0 ?_;refine rbq 0 ?_;refine rq 1 (fun ev wo E=>?_) ?_
   · have e119:ev (.tmp 119)=.int .i64 130:=E.e 0;have ec:=E.const;go_simp;exact rv
   refine rf (fun ev wo E=>?_) ?_
   · have e118:ev (.tmp 118)=.bool true:=E.e 0;have e120:ev (.tmp 120)=.bool true:=E.e 1;have ec:=E.const;go_simp;exact rv
   refine rc 0 ?_;refine rbq 0 ?_;refine rq 1 (fun ev wo E=>?_) ?_
   · have e123:ev (.tmp 123)=.int .i64 0:=E.e 0;have ec:=E.const;go_simp;exact rv
   refine rf (fun ev wo E=>?_) ?_
   · have e122:ev (.tmp 122)=.bool true:=E.e 0;have e124:ev (.tmp 124)=.bool true:=E.e 1;have ec:=E.const;go_simp;exact rv
   refine rc 0 ?_;refine rbq 0 ?_;refine rq 0 (fun ev wo E=>?_) ?_
   · have ec:=E.const;go_simp;exact rv
   refine⟨qBs (qA0.by 1 rfl rfl rfl rfl rfl) (qE7 _ _ _) (fun ev wo E=>?_),?_⟩
   · have e128:ev (.tmp 128)=.agg #[.bool false,.int .i64 5,.string ⟨#[]⟩]:=E.e 0;go_simp;exact qAg (qF7 _ _ _ _)
   refine rq 2 (fun ev wo E=>?_) ?_
   · have e127:ev (.tmp 127)=.slice Am rRow.length cm:=E.e 0;have e129:(newS 1 #[.bool false,.int .i64 5,.string ⟨#[]⟩] 43) (ev (.tmp 129)) wo:=E.d 1 rfl rfl rfl;have ef:=E.func;obtain⟨gn,e1,qn⟩:=e129;have ho:=own_below Oe.out E.bel;have heq:=qM2 wo Am (some ⟨gn,0,none⟩) rRow.length cm 1 1 rRow rRow (by unfold maxLen;decide) (by unfold maxLen;decide) rfl rfl (Lay.of_own ho (Nat.le_refl _)) (qEz (xs:=rowV rRow) qn);rw[decide_eq_true rfl] at heq;go_simp
     refine qAe (heq.mono ?_);rintro e w' ⟨rfl,hb⟩;exact⟨_,rfl,hb,rfl⟩
   refine rf (fun ev wo E=>?_) ?_
   · have e126:ev (.tmp 126)=.bool true:=E.e 0;have e130:ev (.tmp 130)=.bool true:=E.e 1;have ec:=E.const;go_simp;exact rv
   refine rc 0 ?_;refine rbq 0 ?_;refine rq 1 (fun ev wo E=>?_) ?_
   · have e133:ev (.tmp 133)=.int .i64 131:=E.e 0;have ec:=E.const;go_simp;exact rv
   refine rf (fun ev wo E=>?_) ?_
   · have e132:ev (.tmp 132)=.bool true:=E.e 0;have e134:ev (.tmp 134)=.bool true:=E.e 1;have ec:=E.const;go_simp;exact rv
   refine⟨qAy 0 (qA0.free rfl) (.inr rfl) rfl rfl rfl rfl (qAm _),?_⟩;trivial
 · intro wz bz
   (iterate 10 rintro _ rfl)
   intro v100 h100
   intro v101 h101
   (iterate 9 rintro _ rfl)
   intro v111 h111
   (iterate 17 rintro _ rfl)
   intro v129 h129
   (iterate 7 rintro _ rfl);have Kz:=Lib.hid (Ke.out.to bz);clear bz Ke Qe Re Oe;simp only[qA1];go_simp
   go_wp2_with fail
   go_ret
   exact⟨rfl,Kz.out.bel⟩
end Go.Proofs.YtainiaighnjpfaaGreatDoor
set_option linter.unusedSimpArgs false
namespace Go.Proofs.YtainiaighnjpfaaGreatDoor
open Go.RowKit Go.Ms Go.Lib Go.Shelf Go.Rel
end Go.Proofs.YtainiaighnjpfaaGreatDoor
set_option linter.unusedSimpArgs false
namespace Go.Ms
open Go.RowKit Go.Lib
end Go.Ms
namespace Go.Proofs.YtainiaighnjpfaaGreatDoor
open Go.RowKit Go.Ms Go.Lib Go.Shelf Go.Rel
end Go.Proofs.YtainiaighnjpfaaGreatDoor
set_option linter.unusedSimpArgs false
namespace Go.Ms
open Go.RowKit Go.Lib
end Go.Ms
namespace Go.Proofs.YtainiaighnjpfaaGreatDoor
open Go.RowKit Go.Ms Go.Lib Go.Shelf Go.Rel
end Go.Proofs.YtainiaighnjpfaaGreatDoor
set_option linter.unusedSimpArgs false
namespace Go.Ms
open Go.RowKit Go.Lib
def v3V (l:List (Int×Int×Int)):List Value:=l.flatMap fun v=>[.int .i64 v.1,.int .i64 v.2.1,.int .i64 v.2.2]
theorem qT1 (l:List (Int×Int×Int)):(v3V l).length=l.length*3:=by
 induction l with
 |nil=>rfl
 |cons a t ih=>show([_,_,_]++v3V t).length=_;rw[List.length_append,ih,List.length_cons];simp;omega
theorem qSn:∀(l:List (Int×Int×Int)) (i:Nat) (c:Int×Int×Int),l[i]?=some c→(v3V l)[i*3]?=some (.int .i64 c.1)∧(v3V l)[i*3+1]?=some (.int .i64 c.2.1)∧(v3V l)[i*3+2]?=some (.int .i64 c.2.2)
  |[],i,r,h=>by simp at h
  |a::t,0,r,h=>by
   have h:a=r:=by simpa using h
   subst h;exact⟨rfl,rfl,rfl⟩
  |a::t,i+1,r,h=>by
   have ih:=qSn t i r (by simpa using h)
   have e1:(i+1)*3=i*3+3:=by omega
   rw[e1];exact ih
structure qKg (g o B:Nat) (a b c:Int) (W:World):Prop where
  lt:g<B
  c0:W.cell? ⟨g,o,none⟩=some (.int .i64 a)
  c1:W.cell? ⟨g,o+1,none⟩=some (.int .i64 b)
  c2:W.cell? ⟨g,o+2,none⟩=some (.int .i64 c)
theorem qKg.below {g o B:Nat} {a b c:Int} {W W':World} (h:qKg g o B a b c W) (hb:Below B W W'):qKg g o B a b c W':=⟨h.lt,(hb.cell h.lt).trans h.c0,(hb.cell h.lt).trans h.c1,(hb.cell h.lt).trans h.c2⟩
theorem qKg.more {g o B B':Nat} {a b c:Int} {W:World} (h:qKg g o B a b c W) (hb:B≤B'):qKg g o B' a b c W:=⟨Nat.lt_of_lt_of_le h.lt hb,h.c0,h.c1,h.c2⟩
theorem Lay.v3 {W:World} {B:Nat} {A:Option Addr} {l:List (Int×Int×Int)} {i:Nat} {c:Int×Int×Int} (h:Lay W B A (v3V l)) (hi:l[i]?=some c):∃g o,A=some ⟨g,o,none⟩∧qKg g (o+i*3) B c.1 c.2.1 c.2.2 W:=by
 have hl:=(List.getElem?_eq_some_iff.1 hi).1;obtain⟨g,o,e,hb,hc⟩:=h.some_ (by rw[qT1];omega);obtain⟨h1,h2,h3⟩:=qSn l i c hi;exact⟨g,o,e,hb,hc _ _ h1,hc _ _ h2,hc _ _ h3⟩
section
variable {tS tC tI:TypeId} {W0 W W':World} {v10:Value} {l:List Co}
end
end Go.Ms
set_option linter.unusedSimpArgs false
namespace Go.Ms
open Go.RowKit Go.Lib
theorem qT4 {k:Nat} (h:k<7):(ofNm k).size≤100000:=by
 have:k=0∨k=1∨k=2∨k=3∨k=4∨k=5∨k=6:=by omega
 rcases this with rfl|rfl|rfl|rfl|rfl|rfl|rfl <;> decide +kernel
theorem qFt (x:Int×Int×Int):ScSz (qBx x).1:=fun c hc=>by
 rcases qN5 c hc with h|⟨i,hi,h⟩|h
 · rw[h];exact⟨by show(1:Nat)≤100000;omega,Nat.zero_le _⟩
 · rw[h];exact⟨qT4 hi,Nat.zero_le _⟩
 · rw[h];exact⟨by show(4:Nat)≤100000;omega,Nat.zero_le _⟩
theorem qKu.effT {Kp:Nat→Prop} {P:Program} {tS tN tR:TypeId} {g:Nat} {G:Rg} {W W':World} (h:qKu Kp P tS tN tR g G W) (hg:W.grownBy W' (some g)):EffT tR W W':=by
 obtain⟨sp,mb,D,h⟩:=h;exact⟨some g,hg,fun g' e=>by cases e;exact⟨_,_,h.box⟩⟩
structure qNe (w:World) (A:Option Addr) (n:Nat) (V:List (Int×Int×Int)):Prop where
  en:n=V.length
  nn:n≤maxLen
  la:Lay w w.heap.size A (v3V V)
  v:∀x∈V, -9223372036854775808≤x.1∧x.1≤9223372036854775807∧ -9223372036854775808≤x.2.1∧x.2.1≤9223372036854775807∧ -9223372036854775808≤x.2.2∧x.2.2≤9223372036854775807
theorem qNe.at_ {w:World} {A:Option Addr} {n:Nat} {V:List (Int×Int×Int)} (h:qNe w A n V) {k:Nat} (hk:k<n):∃g o x,A=some ⟨g,o,none⟩∧V[k]?=some x∧(∀W,Below w.heap.size w W→qKg g (o+k*3) w.heap.size x.1 x.2.1 x.2.2 W)∧
    (-9223372036854775808≤x.1∧x.1≤9223372036854775807)∧(-9223372036854775808≤x.2.1∧x.2.1≤9223372036854775807)∧(-9223372036854775808≤x.2.2∧x.2.2≤9223372036854775807):=by
 have hk2:k<V.length:=by have:=h.en;omega
 have hx:V[k]?=some V[k]:=List.getElem?_eq_getElem hk2;obtain⟨g,o,e,hn⟩:=h.la.v3 hx;have hv:=h.v V[k] (List.getElem_mem hk2);exact⟨g,o,V[k],e,hx,fun W hb=>hn.below hb,⟨hv.1,hv.2.1⟩,⟨hv.2.2.1,hv.2.2.2.1⟩,hv.2.2.2.2⟩
end Go.Ms
namespace Go.Proofs.YtainiaighnjpfaaGreatDoor
open Go.RowKit Go.Ms Go.Lib Go.Maps Go.WideMaps Go.Rel
section
variable {a b c:Nat} {G G1 G2 G':Rg} {w W W':World}
theorem RgL.lt (h:RgL a G W):a<W.heap.size:=by
 obtain⟨sp,mb,D,h⟩:=h;exact(Array.getElem?_eq_some_iff.1 h.box).1
end
end Go.Proofs.YtainiaighnjpfaaGreatDoor
namespace Go.Proofs.YtainiaighnjpfaaGreatDoor
open Go.RowKit Go.Ms Go.Lib
theorem own:ownKnob Tryz.prog.godebug=none:=by kernel_rfl
theorem laidOut:laidOutB Tryz.prog=true:=by kernel_rfl
theorem qUb:U8Extra Tryz.prog Tryz.lays260_ren:={
  n3:=by kernel_rfl
  n4:=by kernel_rfl
  y3:=by kernel_rfl
  y4:=by kernel_rfl
  c5:=by kernel_rfl
  c119:=by kernel_rfl
  c138:=by kernel_rfl }
theorem qK7:Rows.laid_unicode_utf8_first=firstData:=by kernel_rfl
theorem qJ2:(Rows.laid_unicode_utf8_acceptRanges:DataW Unit)=acceptData:=by kernel_rfl
theorem qN6:(Rows.laid_internal_strconv_uint64pow10:DataW Unit)=Lib.tabData .u64 Lib.pow10Tab:=by kernel_rfl
theorem qOw: "*errors.errorString"= "*"++ "errors.errorString":=by decide
theorem qS1 (u:TypeId) (h:Tryz.prog.typeName? 3 u=some "*errors.errorString"):u=287:=
  typeName_ptr_named (nm:= "errors.errorString") (by rw[←qOw];kernel_rfl) (by kernel_rfl) (by decide) u (by rw[←qOw];exact h)
def qQy:List (String×DataW Unit):=[("math/bits.deBruijn32tab",Rows.laid_math_bits_deBruijn32tab),("math/bits.deBruijn64tab",Rows.laid_math_bits_deBruijn64tab),("internal/strconv.uint64pow10",Rows.laid_internal_strconv_uint64pow10),("unicode/utf8.acceptRanges",Rows.laid_unicode_utf8_acceptRanges),("strconv.ErrRange",Rows.laid_strconv_ErrRange),("strconv.ErrSyntax",Rows.laid_strconv_ErrSyntax),("unicode/utf8.first",Rows.laid_unicode_utf8_first)]
theorem qUy {W:World} (h:laidMetH Tryz.prog qQy W) (hsh:W.ShapedOpen Tryz.prog):Env W:=by
 have h':laidMet Tryz.prog [("math/bits.deBruijn32tab",Rows.laid_math_bits_deBruijn32tab),("math/bits.deBruijn64tab",Rows.laid_math_bits_deBruijn64tab),("internal/strconv.uint64pow10",Rows.laid_internal_strconv_uint64pow10),("unicode/utf8.acceptRanges",Rows.laid_unicode_utf8_acceptRanges),("strconv.ErrRange",Rows.laid_strconv_ErrRange),("strconv.ErrSyntax",Rows.laid_strconv_ErrSyntax),("unicode/utf8.first",Rows.laid_unicode_utf8_first)] W:=h;have h2:=h'.tail.tail;have h4:=h2.tail.tail;refine⟨?_,?_,?_,?_,?_⟩
 · have h3:=laidMet.reads h' (n:= "unicode/utf8.first") (d:=Rows.laid_unicode_utf8_first) (by simp);have h5:=laidMet.reads h' (n:= "unicode/utf8.acceptRanges") (d:=Rows.laid_unicode_utf8_acceptRanges) (by simp);rw[qK7] at h3;rw[qJ2] at h5;exact utf8Tabs_of_reads Tryz.lays260 qUb h3 h5
 · rw[qN6] at h2;exact Lib.tabIs_of_head (g:=5) (t:=291) (e:=224) (n:=20) (by kernel_rfl) (by kernel_rfl) (by kernel_rfl) (by kernel_rfl) (by kernel_rfl) (by kernel_rfl) h2
 · obtain⟨a,s,hv,_⟩:=laid_sentinel (ti:=179) (tp:=287) (te:=289) (ts:=9) (g:=3) h4.tail (by kernel_rfl) (by kernel_rfl) Tryz.underlying179 qS1 Tryz.underlying287 Tryz.underlying289 rfl rfl Tryz.underlying9 (by kernel_rfl) (by kernel_rfl);exact⟨_,_,hv⟩
 · obtain⟨a,s,hv,_⟩:=laid_sentinel (ti:=179) (tp:=287) (te:=289) (ts:=9) (g:=4) h4 (by kernel_rfl) (by kernel_rfl) Tryz.underlying179 qS1 Tryz.underlying287 Tryz.underlying289 rfl rfl Tryz.underlying9 (by kernel_rfl) (by kernel_rfl);exact⟨_,_,hv⟩
 · obtain⟨m,hm⟩:=Go.Proofs.cell_of_shapedOpen_int (P:=Tryz.prog) (g:=0) (zero:=#[.int .i64 0]) (t:=3) hsh (of_decide_eq_true (by kernel_rfl)) (by kernel_rfl) rfl (by kernel_rfl) (by kernel_rfl) Tryz.underlying3;exact⟨m,hm⟩
def putCells (cs:Array Value):Obj→Obj
  | .cells _ t frozen=>.cells cs t frozen
  |o=>o
def qP4:DataW Unit→Array Value
  | .agg l=>(l.map fun
    | .lit (.int k z)=>Value.int k z
    |_=>undef).toArray
  |_=>#[]
noncomputable def qPe:Nat:=(World.holding Tryz.prog default ⟨#[],#[],[]⟩).heap.size
def qT8:ByteArray:=⟨#[105,110,118,97,108,105,100,32,115,121,110,116,97,120]⟩
def qT9:ByteArray:=⟨#[118,97,108,117,101,32,111,117,116,32,111,102,32,114,97,110,103,101]⟩
noncomputable def qG7 (os:Os):World:=
  let w0:=World.holding Tryz.prog os ⟨#[.cells #[.string qT8] 289,.cells #[.string qT9] 289],#[],[]⟩
  { w0 with heap:=((((((w0.heap.modify 1 (putCells (firstTab.map (Value.int .u8)).toArray)).modify 2 (putCells ((List.range 16).flatMap fun i=>[Value.int .u8 (accLo i),Value.int .u8 (accHi i)]).toArray)).modify 5 (putCells (qP4 Rows.laid_internal_strconv_uint64pow10))).modify 6 (putCells (qP4 Rows.laid_math_bits_deBruijn32tab))).modify 7 (putCells (qP4 Rows.laid_math_bits_deBruijn64tab))).modify 3 (putCells #[.iface 287 (.pointer (some ⟨qPe,0,none⟩))])).modify 4 (putCells #[.iface 287 (.pointer (some ⟨qPe+1,0,none⟩))]) }
end Go.Proofs.YtainiaighnjpfaaGreatDoor
namespace Go.Ms
open Go.RowKit Go.Lib Go.ChangeShapes Go.WideShapes Go.Deep
def I64 (n:Int):Prop:= -9223372036854775808≤n∧n≤9223372036854775807
theorem I64.of {n:Int} (h:(Lit.int .i64 n).wf=true):I64 n:=bounds_i64 h
section
variable {H:Type} {enc:TypeId×Value→H} {P:Program} {w:World} {base:Nat} {spare:Nat→Bool} {held:Bool}
theorem qQc {α:Type} (f:α→List Value) (k:Nat) (hk:∀x,(f x).length=k):∀(l:List α) (j:Nat) (u:Value),(l.flatMap f)[j]?=some u→0<k→∃x,l[j/k]?=some x∧(f x)[j%k]?=some u
  |[],j,u,h,_=>by simp at h
  |a::t,j,u,h,h0=>by
   rw[List.flatMap_cons] at h
   by_cases hj:j<k
   · rw[List.getElem?_append_left (by rw[hk];exact hj)] at h;exact⟨a,by rw[Nat.div_eq_of_lt hj];rfl,by rw[Nat.mod_eq_of_lt hj];exact h⟩
   · rw[List.getElem?_append_right (by rw[hk];omega),hk] at h;obtain⟨x,h1,h2⟩:=qQc f k hk t (j-k) u h h0;refine⟨x,?_,?_⟩
     · rw[Nat.div_eq_sub_div h0 (by omega)];simpa using h1
     · rw[Nat.mod_eq_sub_mod (by omega)];exact h2
theorem qKx {α:Type} (f:α→List Value) (ok:α→Prop) {t e:TypeId} {k:Nat} (hk:∀x,(f x).length=k) (hk0:0<k) (ht:P.underlying t=some (.slice e)) (hC:P.cellsOf e=k)
    (hel:∀n cs' y,DataW.trod enc P w base spare held n e cs'=some y→∃x,cs'=f x∧ok x)
    {fuel:Nat} {v:Value} {x:DataW H×List MemPlace} (hf:DataW.trod enc P w base spare held fuel t [v]=some x) :
    ∃(A:Option Addr) (len cap:Nat) (l:List α),v=.slice A len cap∧l.length=len∧len≤cap∧cap≤maxLen∧(∀x∈l,ok x)∧∀j u,(l.flatMap f)[j]?=some u→∃a,A=some a∧a.block<w.heap.size∧w.cell? (a.add j)=some u:=by
 rcases open_slice ht hf with⟨hcs,_⟩|⟨a,len,cap,m,n,D,Pl,hcs,hb,hl,hm,hmm,hx,hi⟩
 · obtain rfl:v=.slice none 0 0:=by simpa using hcs
   exact⟨none,0,0,[],rfl,rfl,Nat.le_refl _,by unfold maxLen;omega,by simp,by simp⟩
 · obtain rfl:v=.slice (some a) len cap:=by simpa using hcs
   have hlm:len≤m:=by rw[hmm];split <;> omega
   have hex:∀i,i<len→∃x,ok x∧∀j u,(f x)[j]?=some u→w.cell? (a.add (i*k+j))=some u:=by
    intro i hil
    obtain⟨cs',hc,ht'⟩:=hi i (by omega);obtain⟨x,rfl,hok⟩:=hel _ _ _ ht';refine⟨x,hok,fun j u hu=>?_⟩;obtain⟨_,_,hat⟩:=World.cells?_some hc
    have hj:j<k:=by rw[←hk x];exact(List.getElem?_eq_some_iff.1 hu).1
    have:=hat j (by rw[hC];exact hj);rw[hC] at this;rw[←Go.Deep.add_add,this,hu]
   have hlist:∃l:List α,l.length=len∧(∀x∈l,ok x)∧∀i x,l[i]?=some x→∀j u,(f x)[j]?=some u→w.cell? (a.add (i*k+j))=some u:=by
    refine⟨List.ofFn fun i:Fin len=>Classical.choose (hex i.1 i.2),by simp,?_,?_⟩
    · intro x hx
      obtain⟨i,hi,rfl⟩:=List.getElem_of_mem hx;rw[List.getElem_ofFn];exact(Classical.choose_spec (hex i (by simpa using hi))).1
    · intro i x hx
      obtain⟨hi,rfl⟩:=List.getElem?_eq_some_iff.1 hx;rw[List.getElem_ofFn];exact(Classical.choose_spec (hex i (by simpa using hi))).2
   obtain⟨l,h1,h2,h3⟩:=hlist;refine⟨some a,len,cap,l,rfl,h1,hl,hm,h2,fun j u hu=>⟨a,rfl,?_,?_⟩⟩
   · have hj:0<l.length:=by
       rcases l with _|⟨x,t⟩
       · simp at hu
       · simp
     obtain⟨cs',hc,_⟩:=hi 0 (by omega);obtain⟨_,hcl,hat⟩:=World.cells?_some hc;have h0:=hat 0 (by rw[hC];exact hk0);have hv0:cs'[0]?=some (cs'[0]'(by rw[hcl,hC];exact hk0)):=List.getElem?_eq_getElem _;rw[hv0] at h0;have:=World.block_lt_of_cell? w _ h0
     simp[qLa] at this
     exact this
   · obtain⟨x,hx,hxu⟩:=qQc f k hk l j u hu hk0;have:=h3 _ x hx _ u hxu
     rwa [Nat.div_add_mod' ] at this
theorem open_list {α:Type} (f:α→List Value) (ok:α→Prop) {t e:TypeId} {k:Nat} (hk:∀x,(f x).length=k) (hk0:0<k) (ht:P.underlying t=some (.slice e)) (hC:P.cellsOf e=k)
    (hel:∀n cs' y,DataW.trod enc P w base spare held n e cs'=some y→∃x,cs'=f x∧ok x)
    {r:Reach} {b0:Nat} {v:Value} {d:DataW H} {p:List MemPlace} (hv:Value.okWide P w r b0 t v) (h:DataW.Trod enc P w base spare held t v d p) :
    ∃(A:Option Addr) (len cap:Nat) (l:List α),v=.slice A len cap∧l.length=len∧len≤cap∧cap≤maxLen∧(∀x∈l,ok x)∧∀j u,(l.flatMap f)[j]?=some u→∃a,A=some a∧a.block<w.heap.size∧w.cell? (a.add j)=some u:=by
 obtain⟨A,len,cap,rfl⟩:=okWide_slice ht hv;obtain⟨fuel,hf⟩:=h;exact qKx f ok hk hk0 ht hC hel hf
end
end Go.Ms
namespace Go.Proofs.YtainiaighnjpfaaGreatDoor
open Go.RowKit Go.Ms Go.Lib Go.ChangeShapes Go.WideShapes Go.Deep
section
variable {H:Type} {enc:TypeId×Value→H} {w:World} {base:Nat} {spare:Nat→Bool} {held:Bool}
theorem qOr:Tryz.prog.cellsOf 3=1:=by kernel_rfl
end
end Go.Proofs.YtainiaighnjpfaaGreatDoor
namespace Go.Ms
open Go.RowKit Go.Lib
end Go.Ms
