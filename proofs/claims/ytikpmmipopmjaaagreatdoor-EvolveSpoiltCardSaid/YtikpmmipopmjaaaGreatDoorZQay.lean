/- Evolve's laws: EvolveSpoilt, walked. -/
import Derived.Test.YtikpmmipopmjaaaGreatDoorZQax
import Derived.Test.YtikpmmipopmjaaaGreatDoorZQx
import Derived.Test.YtikpmmipopmjaaaGreatDoorZQt
import Derived.Test.YtikpmmipopmjaaaGreatDoorZQag
set_option linter.unusedVariables false
set_option linter.unusedSimpArgs false
namespace Go.Proofs.YtikpmmipopmjaaaGreatDoor
open Go.RowKit Go.Ms Go.Lib Go.Shelf Go.Rel
set_option maxRecDepth 100000 in
set_option maxHeartbeats 8000000 in
theorem qIv (A:Option Addr) (n c:Nat) (C:List Int) (B:Option Addr) (m d:Nat) (V:List (Int×Int×Int)) (x y z:Int) (w:World) (hs:qQm w A n C B m V) (hx:I64 x) (hy:I64 y) (hz:I64 z) (hE:Env w) :
    Calls Tryz.prog 9 #[.agg #[.slice A n c,.slice B m d],.int .i64 x,.agg #[.int .i64 y,.int .i64 z]] w fun e w'=>e=.returned (.bool true)∧Below w.heap.size w w':=by
 have hv:=zDa C V (N:=[]) (by simp);have heach:=qUl C V
 have hcn:=fun (W:World) (hb:Below w.heap.size w W)=>qPu W A B n c m d C V hs.en hs.em hs.nn hs.mm (hs.to hb).la hs.c (hs.to hb).lb hs.v
 generalize qEj C V=L at hv hcn heach
 obtain⟨X,hX⟩:∃X,X=(w.alloc (.cells #[.slice A n c,.slice B m d] 45)).alloc (.cells #[.int .i64 y,.int .i64 z] 39):=⟨_,rfl⟩
 have tX:Bx2 (.cells #[.slice A n c,.slice B m d] 45 (0,0)) (.cells #[.int .i64 y,.int .i64 z] 39 (0,0)) w X:=by rw[hX];exact Bx2.start _ _ _ _ w
 have T0:=Lib.hid tX;have HV:=Lib.hid hv;have HCN:=Lib.hid hcn;have HE:=Lib.hid hE;have HX:=Lib.hid hx;have HY:=Lib.hid hy;have HZ:=Lib.hid hz;have HEACH:=Lib.hid heach
 have y0:=cell_of_block (i:=0) tX.b0 rfl;have y1:=cell_of_block (i:=1) tX.b0 rfl;clear tX hv hcn hE hx hy hz hs heach
 go_enter Tryz.func9,Tryz.ntmps9
 go_upto_region 1 with fail
 rw[←hX];clear hX
 go_wp2_with fail
 refine(HCN.out _ T0.out.bel).mono ?_;rintro en w2 ⟨A',c',rs,rfl,hL,b2⟩
 have T2:=Lib.hid (T0.out.step b2);have HL:=Lib.hid hL
 have hn8:rs.length=L.length:=hL.len;clear b2 y0 y1 hL;obtain⟨l,hl⟩:∃l,rs.length=l:=⟨_,rfl⟩
 have hl1:1≤l:=by have:=HV.out.some_;omega
 have hl8:l≤8:=by have:=HV.out.few;omega
 have HLL:=Lib.hid (hn8.symm.trans hl);rw[hl];clear hn8
 go_wp2_with fail
 have r1:=Int.emod_nonneg x (show(l:Int)≠0 by omega);have r2:=Int.emod_lt_of_pos x (show(0:Int)<l by omega);have hbr:=qB0 x l HX.out.1 HX.out.2 (by omega) (by omega) w2
 generalize x%(l:Int)=i at r1 r2 hbr
 obtain⟨i,rfl⟩:∃k:Nat,i=k:=⟨i.toNat,by omega⟩;refine hbr.mono ?_;clear hbr;rintro en w3 ⟨rfl,b3⟩
 have T3:=Lib.hid (T2.out.step b3);have HL3:=Lib.hid (HL.out.to b3)
 clear b3 r1
 have i1:(i:Int)<l:=by omega
 have i2:i<l:=by omega
 have hsa:=getD_at (l:=L) (i:=i) (by have:=HLL.out;omega);obtain⟨ra,hra⟩:∃r,rs[i]?=some r:=⟨_,List.getElem?_eq_getElem (by rw[hl];omega)⟩
 generalize hSA:L.getD i zSc=sa at hsa
 have msa:=List.mem_of_getElem? hsa;obtain⟨gl,ol,e1,ta⟩:=HL3.out.at_ hra;subst e1;have pa:=HL3.out.each _ _ _ hra hsa;obtain⟨ek,⟨v,id,hv7,hok⟩,hdf⟩:=HEACH.out sa msa;have hsz:=HV.out.sz sa msa;have hsc:=HV.out.ok sa msa;obtain⟨s,ks⟩:=sa;simp only at ek hok hdf hsz hsc;subst ek;obtain⟨ra,rn,rc,rb,rm,rd⟩:=ra;obtain⟨pn,pm,pnn,pmm,pla,plb⟩:=pa;simp only at pn pm pnn pmm pla plb;subst pn;have pm1:rm=1:=pm;subst pm1;have k0:=ta.c0;have k1:=ta.c1;simp only at k0 k1;have s32:=(qK1 hsc).2.1
 have s1:1≤s.length:=((qB6 _ _).1 hsc).one
 have PLA:=Lib.hid pla;have PLB:=Lib.hid plb;have HOK:=Lib.hid hok;have HDF:=Lib.hid hdf;have HSZ:=Lib.hid hsz;have HSC:=Lib.hid hsc;have HV7:=Lib.hid hv7
 clear pla plb hok hdf hsz hsc hv7 ta hra hsa hSA msa pm HEACH HCN HL HL3 pmm;obtain⟨W8,hW8⟩:∃W,W=w3.alloc (.cells #[.slice ra s.length rc,.slice rb 1 rd] 25):=⟨_,rfl⟩
 have b8:Below w3.heap.size w3 W8:=by rw[hW8];exact(Below.refl _ _).alloc (Nat.le_refl _) _
 have q8:W8.heap[w3.heap.size]?=some (.cells #[.slice ra s.length rc,.slice rb 1 rd] 25 (0,0)):=by rw[hW8];exact qAf _ _
 have z8:W8.heap.size=w3.heap.size+1:=by rw[hW8,World.size_alloc]
 go_upto_region 3 with fail
 rw[←hW8];clear hW8 k0 k1;have LA:=Lib.hid (qBf.mk (W:=W8) (B:=w3.heap.size) (r:=⟨ra,s.length,rc,rb,1,rd⟩) (s:=(s,[0])) rfl rfl (by show s.length≤100000;omega) (by show 1≤100000;omega) (PLA.out.below b8) (PLB.out.below b8));have hcp:=qS5 W8 ra rb s.length rc 1 rd s [0] (by omega) (by omega) rfl rfl ((PLA.out.below b8).more b8.size) ((PLB.out.below b8).more b8.size);have T8:=Lib.hid (T3.out.step b8);have HW3:=Lib.hid T3.out.bel.size
 generalize w3.heap.size=g8 at b8 q8 z8 LA HW3 ⊢
 rw[z8] at hcp;have y0:=cell_of_block (i:=0) q8 rfl;have y1:=cell_of_block (i:=1) q8 rfl
 have Q8:=Lib.hid q8;have HCP:=Lib.hid hcp;have Z8:=Lib.hid z8
 clear b8 q8 z8 hcp PLA PLB T3
 go_wp2_with fail
 refine HCP.out.mono ?_;rintro en w9 ⟨A9,c9,K9,d9,rfl,o9,i9,b9⟩;obtain⟨W9,hW9⟩:∃W,W=w9.alloc (.cells #[.slice A9 s.length c9,.slice K9 1 d9] 25):=⟨_,rfl⟩
 have bb:Below w9.heap.size w9 W9:=by rw[hW9];exact(Below.refl _ _).alloc (Nat.le_refl _) _
 have q9:W9.heap[w9.heap.size]?=some (.cells #[.slice A9 s.length c9,.slice K9 1 d9] 25 (0,0)):=by rw[hW9];exact qAf _ _
 have z9:W9.heap.size=w9.heap.size+1:=by rw[hW9,World.size_alloc]
 have nb:∀b,(Value.slice A9 s.length c9).ownBlock=some b→b<w9.heap.size:=fun b hb=>(World.ownsRow.lt o9 b hb).2
 have g89:g8<w9.heap.size:=by
  have h8:=Z8.out;have h9:=b9.size;omega
 have b9':Below W8.heap.size W8 w9:=by rw[Z8.out];exact b9
 go_upto_region 4 with fail
 rw[←hW9]
 have O9:=Lib.hid (own_below o9 bb);have I9:=Lib.hid (own_below i9 bb);have Q82:=Lib.hid (qAb (qAb Q8.out b9') bb);have T9:=Lib.hid ((T8.out.step b9').step bb);have LA9:=Lib.hid ((LA.out.below (b9'.mono (by rw[Z8.out];omega))).below (bb.mono (by omega)))
 generalize w9.heap.size=g9 at q9 z9 nb g89 ⊢
 clear hW9 bb o9 i9 b9 b9' y0 y1 Q8 T8 LA Z8 HCP
 have Q9:=Lib.hid q9;have NB:=Lib.hid nb;have Z9:=Lib.hid z9
 clear q9 nb z9;have y0:=cell_of_block (i:=0) Q82.out rfl;have y1:=cell_of_block (i:=1) Q82.out rfl;have y2:=cell_of_block (i:=0) Q9.out rfl;have y3:=cell_of_block (i:=1) Q9.out rfl;have y5:=cell_of_block (i:=1) T9.out.b1 rfl
 go_wp2_with fail
 have r1:=Int.emod_nonneg z (show(s.length:Int)≠0 by omega);have r2:=Int.emod_lt_of_pos z (show(0:Int)<s.length by omega);have hbr:=qB0 z s.length HZ.out.1 HZ.out.2 (by omega) (by omega) W9
 generalize z%(s.length:Int)=k at r1 r2 hbr
 obtain⟨k,rfl⟩:∃q:Nat,k=q:=⟨k.toNat,by omega⟩;refine hbr.mono ?_;clear hbr y0 y1 y2 y3 y5;rintro en wA ⟨rfl,bA⟩
 have hks:k<s.length:=by omega
 obtain⟨co,hco⟩:∃c,s[k]?=some c:=⟨_,List.getElem?_eq_getElem hks⟩
 have O10:=Lib.hid (own_below O9.out bA);have I10:=Lib.hid (own_below I9.out bA);have Q83:=Lib.hid (qAb Q82.out bA);have Q93:=Lib.hid (qAb Q9.out bA);have T10:=Lib.hid (T9.out.step bA)
 have hl9:g9<wA.heap.size:=(Array.getElem?_eq_some_iff.1 (qAb Q9.out bA)).1;have LA10:=Lib.hid (LA9.out.below (bA.mono (by have:=Z9.out;omega)))
 have hzA:g8+1≤wA.heap.size:=by omega
 clear bA O9 I9 Q82 Q9 T9 LA9 r1 Z9
 obtain⟨g,rfl⟩:∃g,A9=some ⟨g,0,none⟩:=by
  rcases O10.out.2 with⟨_,h0⟩|⟨g,cap',cur,hv,_⟩
  · omega
  · injection hv with h1;exact⟨g,h1⟩
 obtain⟨c0,c1,c2,c3,c4,c5,c6,-⟩:=qJd (show qBt wA (g8+1) 59 (.slice (some ⟨g,0,none⟩) s.length c9) s from O10.out) hco;have HCO:=Lib.hid hco;have hdf:=HDF.out co (List.mem_of_getElem? hco);obtain⟨i0,s0,⟨t0,u0⟩,n0,m0,v0⟩:=co;obtain⟨hd1,hd2,hd3⟩:=hdf;simp only at hd1 hd2 hd3 c0 c1 c2 c3 c4 c5 c6;subst hd2;have y2:=cell_of_block (i:=0) Q93.out rfl
 have hki:(k:Int)<s.length:=by omega
 go_upto_region 8 with fail
 obtain⟨WB,hWB⟩:∃W,W=wA.alloc (.cells #[.int .i64 i0,.string s0,.int .i64 t0,.bool n0,.bool n0,.int .i64 m0,.string v0] 59):=⟨_,rfl⟩
 have bB:Below wA.heap.size wA WB:=by rw[hWB];exact(Below.refl _ _).alloc (Nat.le_refl _) _
 have qB:WB.heap[wA.heap.size]?=some (.cells (coV ((i0,s0,(t0,n0),n0,m0,v0):Co)).toArray 59 (0,0)):=by rw[hWB];exact qAf _ _
 rw[←hWB]
 have st:SpSt 25 59 3 g8 g9 wA.heap.size ⟨ra,s.length,rc,rb,1,rd⟩ (s,[0]) (some ⟨g,0,none⟩) c9 (.slice K9 1 d9) s [0] (i0,s0,(t0,n0),n0,m0,v0) w WB:=
   ⟨qAb Q83.out bB,qAb Q93.out bB,qB,own_below O10.out bB,own_below I10.out bB,NB.out,LA10.out.below (bB.mono (by omega)),(T10.out.step bB).bel,HW3.out,g89,hl9⟩
 have y5:=cell_of_block (i:=0) (T10.out.step bB).b1 rfl
 generalize wA.heap.size=g11 at st ⊢
 have ST0:=Lib.hid st;clear hWB bB qB st c0 c1 c2 c3 c4 c5 c6 y2 hco O10 I10 Q83 Q93 T10 LA10 NB hzA hl9 g89 HW3 r2
 go_wp2_with fail
 have r1:=Int.emod_nonneg y (show(6:Int)≠0 by omega);have r2:=Int.emod_lt_of_pos y (show(0:Int)<6 by omega);have hbr:=qB0 y 6 HY.out.1 HY.out.2 (by omega) (by omega) WB
 generalize y%6=j at r1 r2 hbr
 refine hbr.mono ?_;clear hbr y5;rintro en wC ⟨rfl,bC⟩;have ST:=Lib.hid (ST0.out.to bC);clear bC ST0
 go_upto_block 0 with fail
 have htm:m0.tmod 2=m0:=by rcases hd1 with rfl|rfl <;> rfl
 have hwm:IntKind.i64.wrap (1-m0)=1-m0:=IntWalk.i64_in _ (by omega)
 go_cut [] (fun wx=> ∃kv ks d,SpSt 25 59 3 g8 g9 g11 ⟨ra,s.length,rc,rb,1,rd⟩ (s,[0]) (some ⟨g,0,none⟩) c9 kv s ks d w wx∧qSo (s,[0]) k d ks)
 case first=>
  have qq:wC.heap[g11]?=some (.cells #[.int .i64 i0,.string s0,.int .i64 t0,.bool n0,.bool n0,.int .i64 m0,.string v0] 59 (0,0)):=ST.out.b11;have a0:=cell_of_block (i:=0) qq rfl;have a1:=cell_of_block (i:=1) qq rfl;have a2:=cell_of_block (i:=2) qq rfl;have a3:=cell_of_block (i:=3) qq rfl;have a4:=cell_of_block (i:=4) qq rfl;have a5:=cell_of_block (i:=5) qq rfl;have a6:=cell_of_block (i:=6) qq rfl;have f0:=qAa (i:=0) qq;have f1:=qAa (i:=1) qq;have f2:=qAa (i:=2) qq
  have f3:=qAa (i:=3) qq;have f4:=qAa (i:=4) qq;have f5:=qAa (i:=5) qq;have f6:=qAa (i:=6) qq;have e8:=cell_of_block (i:=0) ST.out.b8 rfl;have e9:=cell_of_block (i:=0) ST.out.b9 rfl;have e91:=cell_of_block (i:=1) ST.out.b9 rfl;have h9:=qAa (i:=0) ST.out.b9;have h91:=qAa (i:=1) ST.out.b9;obtain⟨ga,oa,era,GA⟩:=ST.out.la.la.colAt HCO.out;subst era;have ka:=GA.c4
  have ne98:g9≠g11:=by have:=ST.out.l2;omega
  have QQ:=Lib.hid qq;clear GA qq
  have hj:j=0∨j=1∨j=2∨j=3∨j=4∨j=5:=by omega
  rcases hj with rfl|rfl|rfl|rfl|rfl|rfl
  · -- another name
    go_wp2_with fail
    go_meet
    exact⟨_,_,qHa (i0,s0,(t0,n0),n0,m0,v0),ST.out.col (by decide) (qAm _ _ _ _) (qGb QQ.out _ _),qKo HOK.out HV7.out HCO.out⟩
  · -- a bool
    have hb:qK5 ((i0,s0,(t0,n0),n0,m0,v0):Co)=(i0,s0,(1,n0),false,1-m0,⟨#[]⟩):=by
     unfold qK5
     cases n0 <;> simp[htm]
    have hfin:=qSg HOK.out HV7.out HDF.out HCO.out;rw[hb] at hfin;have HFIN:=Lib.hid hfin;clear hfin hb
    go_upto_region 18 with fail
    obtain⟨W1,hW1⟩:∃W,W=((((((wC.setCell ⟨g11,0,none⟩ (.int .i64 i0)).setCell ⟨g11,1,none⟩ (.string s0)).setCell ⟨g11,2,none⟩ (.int .i64 1)).setCell ⟨g11,3,none⟩ (.bool n0)).setCell ⟨g11,4,none⟩ (.bool false)).setCell ⟨g11,5,none⟩ (.int .i64 (1-m0))).setCell ⟨g11,6,none⟩ (.string ⟨#[]⟩):=⟨_,rfl⟩
    have q1:W1.heap[g11]?=some (.cells #[.int .i64 i0,.string s0,.int .i64 1,.bool n0,.bool false,.int .i64 (1-m0),.string ⟨#[]⟩] 59 (0,0)):=by rw[hW1];exact qW8 QQ.out _ _ _ _ _ _ _
    have st1:=ST.out.col (d':=(i0,s0,(1,n0),false,1-m0,⟨#[]⟩)) (by decide) (show wC.grownBy W1 (some g11) by rw[hW1];exact qUx _ _ _ _ _ _ _ _ _) q1;rw[←hW1]
    have Q1:=Lib.hid q1;have ST1:=Lib.hid st1
    clear hW1 q1 st1 a0 a1 a2 a3 a4 a5 a6 f0 f1 f2 f3 f4 f5 f6 e8 e9 e91 h9 h91 ka ST QQ;have a3:=cell_of_block (i:=3) Q1.out rfl;have a4:=cell_of_block (i:=4) Q1.out rfl;have f4:=qAa (i:=4) Q1.out;have e8:=cell_of_block (i:=0) ST1.out.b8 rfl;obtain⟨ga',oa',era,GA⟩:=ST1.out.la.la.colAt HCO.out
    cases era
    have ka:=GA.c4;clear GA;have st2:=ST1.out.col (d':=(i0,s0,(1,n0),false,1-m0,⟨#[]⟩)) (by decide) (qAm W1 g11 4 (.bool false)) (qGb Q1.out 4 _);have ST2:=Lib.hid st2;clear st2
    cases n0 with
    |true=>
     go_wp2_with fail
     go_meet
     exact⟨_,_,_,ST2.out,HFIN.out⟩
    |false=>
     go_wp2_with fail
     go_meet
     exact⟨_,_,_,ST2.out,HFIN.out⟩
  · -- null turned
    by_cases hk0:k=0
    · subst hk0;obtain⟨hn,-⟩:=qGn HOK.out HCO.out;simp only at hn;subst hn
      have hb:qDh 0 ((i0,s0,(t0,false),false,m0,v0):Co)=(i0,⟨#[107,50]⟩,(t0,false),false,m0,v0):=by simp[qDh]
      go_wp2_with fail
      go_meet
      exact⟨_,_,qDh 0 (i0,s0,(t0,false),false,m0,v0),ST.out.col (by decide) ((qAm _ _ _ _).trans (qAm _ _ _ _)) (by rw[hb];exact qGb (qGb QQ.out _ _) _ _),qIq HOK.out HV7.out HDF.out HCO.out⟩
    · have hk1:¬(k:Int)=0:=by omega
      have hk2:((k:Int)==0)=false:=by simpa using hk0
      have hk3:(0:Int)<k:=by omega
      have hk4:0<k:=by omega
      cases n0 with
      |true=>
       have hb:qDh k ((i0,s0,(t0,true),true,m0,v0):Co)=(i0,s0,(t0,false),false,0,⟨#[]⟩):=by simp[qDh,hk0]
       go_wp2_with fail
       go_meet
       exact⟨_,_,qDh k (i0,s0,(t0,true),true,m0,v0),ST.out.col (by decide) ((((qAm _ _ _ _).trans (qAm _ _ _ _)).trans (qAm _ _ _ _)).trans (qAm _ _ _ _)) (by rw[hb];exact qGb (qGb (qGb (qGb QQ.out _ _) _ _) _ _) _ _),qIq HOK.out HV7.out HDF.out HCO.out⟩
      |false=>
       have hb:qDh k ((i0,s0,(t0,false),false,m0,v0):Co)=(i0,s0,(t0,true),false,m0,v0):=by simp[qDh,hk0,hk4]
       go_wp2_with fail
       go_meet
       exact⟨_,_,qDh k (i0,s0,(t0,false),false,m0,v0),ST.out.col (by decide) (qAm _ _ _ _) (by rw[hb];exact qGb QQ.out _ _),qIq HOK.out HV7.out HDF.out HCO.out⟩
  · -- one ahead
    obtain⟨ic,ci,cz0,cz1,cz2⟩:=info_parts qDm;obtain⟨W1,hW1⟩:∃W,W=wC.alloc (.cells #[.int .i64 1,.string ⟨#[122]⟩,.int .i64 1,.bool false,.bool false,.int .i64 0,.string ⟨#[]⟩] 59):=⟨_,rfl⟩
    have bb1:Below wC.heap.size wC W1:=by rw[hW1];exact(Below.refl _ _).alloc (Nat.le_refl _) _
    have z1:W1.heap.size=wC.heap.size+1:=by rw[hW1,World.size_alloc]
    have own1:qBt W1 wC.heap.size 59 (.slice (some ⟨wC.heap.size,0,none⟩) 1 1) [spZ]:=by
     refine⟨rfl,.inr ⟨wC.heap.size,1,(coV spZ).toArray,rfl,Nat.le_refl _,?_,Nat.le_refl _,by unfold maxLen;decide,rfl,rfl⟩⟩
     rw[hW1];exact qAf _ _
    have st1:=ST.out.to bb1;have hlay:Lay W1 W1.heap.size (some ⟨g,0,none⟩) (colV s):=Lay.of_own st1.own (Nat.le_refl _);have dd9:=cell_of_block (i:=0) st1.b9 rfl
    have OWN1:=Lib.hid own1;have HLAY:=Lib.hid hlay;have BB1:=Lib.hid bb1;have Z1:=Lib.hid z1;have HONE:=Lib.hid (qCd s)
    have BC:=Lib.hid ST.out.bel;clear own1 hlay bb1 z1 a0 a1 a2 a3 a4 a5 a6 f0 f1 f2 f3 f4 f5 f6 h91 e91 ka st1;subst hW1
    go_wp2_with (at_builtin;refine qAk rfl (.tmp 140) (.tmp 142) _ rfl wC.heap.size 59 ic _ 7 72 qBl ci cz0 cz1 cz2 rfl (by omega) _ 1 _ rfl OWN1.out _ (some ⟨g,0,none⟩) s.length c9 (colV s) rfl (qEf s) HLAY.out HONE.out (by unfold maxLen;omega) (by omega) (by have:=Z1.out;omega) ?_;intro v2 w2 hown2 hg2;obtain⟨A2,N,c2,e2,hN⟩:∃A N c,v2=.slice A N c∧N=1+s.length:=(by obtain⟨A,c,e,-⟩:=qAg hown2;exact⟨A,_,c,e,rfl⟩);have hb2:=BB1.out.grown hg2 BB1.out.size (fun k hk=>by cases hk;exact Nat.le_refl _);have st2:=ST.out.to hb2;have i0:=qAa (i:=0) st2.b9;have j0:=cell_of_block (i:=0) st2.b9 rfl;have sp2:=ST.out.ahead (l:=spZ::s) BB1.out (show qBt w2 wC.heap.size 59 (.slice A2 N c2) (spZ::s) by (rw[←e2];unfold qBt;rw[show(spZ::s).length=1+s.length by rw[List.length_cons,Nat.add_comm]];exact hown2)) (fun k hk=>by cases hk;exact Nat.le_refl _) hg2 (by rw[hN,List.length_cons,Nat.add_comm]) (by decide);have HN2:=Lib.hid hN;subst e2;have SP2:=Lib.hid sp2;clear hown2 hg2 hb2 st2 sp2 hN)
    obtain⟨ga2,rfl⟩:=qP6 SP2.out.own (by rw[List.length_cons];omega);obtain⟨hzok,hno⟩:=qYd HOK.out HV7.out;have hstp:=(qNc (a:=(s,[0])) (b:=(qD8 s,[0])) ((qB6 _ _).2 (HOK.out.sc HV7.out)) hzok hno).1
    have ZOK:=Lib.hid hzok;have STP:=Lib.hid hstp;have L08:=Lib.hid ST.out.l0
    clear hzok hno hstp OWN1 HLAY BB1 Z1 HONE BC
    go_loopw [12] (fun i wr=> ∃q:Nat,i=.int .i64 q∧1≤q∧q≤N∧SpB 25 59 3 g8 g9 ⟨some ⟨ga,oa,none⟩,s.length,rc,rb,1,rd⟩ (s,[0]) (some ⟨ga2,0,none⟩) N c2 (.slice K9 1 d9) (qFd (q-1) s) [0] w wr) (fun i _=>N-(RowKit.intOf i).toNat)
    case atStart=>exact⟨1,rfl,by omega,by have:=HN2.out;omega,by rw[qQj];exact SP2.out⟩
    case round=>
     obtain⟨q,rfl,h1,h2,hs⟩:=hrel;have y9:=cell_of_block (i:=0) hs.b9 rfl
     by_cases hlt:q<N
     · have hki:(q:Int)<N:=by omega
       obtain⟨c,hc⟩:∃c,s[q-1]?=some c:=⟨_,List.getElem?_eq_getElem (by have:=HN2.out;omega)⟩
       have hat:(qFd (q-1) s)[q]?=some c:=by have:=qTx hc;rwa [Nat.sub_add_cancel h1] at this
       have hnx:(qFd (q-1) s).set q (c.1+1,c.2)=qFd q s:=by have:=qQh hc;rwa [Nat.sub_add_cancel h1] at this
       have hid:=HOK.out.le c (List.mem_of_getElem? hc);have hib:=HOK.out.ib;have hv7:=HV7.out;obtain⟨x0,-⟩:=qJd hs.own hat;have hgl:=(World.ownsRow.lt hs.own ga2 rfl).2;have hwq:IntKind.i64.wrap ((q:Int)+1)=(q:Int)+1:=IntWalk.i64_in _ (by have:=HN2.out;omega);have VA:=Lib.hid (IntWalk.i64_in (c.1+1) (by omega))
       have HS:=Lib.hid hs;have HAT:=Lib.hid hat;have HNX:=Lib.hid hnx;have X0:=Lib.hid x0;have HGL:=Lib.hid hgl
       clear hs hat hnx hid hib hv7 x0 hgl hc
       go_upto_region 32 with fail
       refine qDy (l:=[_,_,_,_,_,_,_,_,_,_,_,_]) (o:=_) (t:=[]) [isV (.pointer (some ⟨g9,0,none⟩)),isV (.slice (some ⟨ga2,0,none⟩) N c2),isV (.int .i64 (q:Nat)),isV (.pointer (some ⟨g9,0,none⟩)),isV (.slice (some ⟨ga2,0,none⟩) N c2),isV (.int .i64 (q:Nat)),isV (.pointer (some ⟨ga2,q*7,none⟩)),isV (.pointer (some ⟨ga2,q*7,none⟩)),isV (.int .i64 c.1),isV (.int .i64 (c.1+1)),isV (.pointer (some ⟨ga2,q*7,none⟩)),isV (.pointer (some ⟨ga2,q*7,none⟩))] (by kernel_rfl) (by kernel_rfl) (by kernel_rfl) (by kernel_rfl) (by kernel_rfl) (by kernel_rfl) (by kernel_rfl) ?_ ?_
       ·
         refine rf (fun ev wo E=>?_) ?_
         · have e9:ev (.tmp 9)=.pointer (some ⟨g9,0,none⟩):=(E.base 9 rfl).trans rfl;go_simp;exact rv
         refine rf (fun ev wo E=>?_) ?_
         · have e152:ev (.tmp 152)=.pointer (some ⟨g9,0,none⟩):=E.e 0;have hx:=cell_of_block (i:=0) (qAb HS.out.b9 E.bel) rfl;go_simp;exact rv
         refine Rel.rb ?_;refine rf (fun ev wo E=>?_) ?_
         · have e9:ev (.tmp 9)=.pointer (some ⟨g9,0,none⟩):=(E.base 9 rfl).trans rfl;go_simp;exact rv
         refine rf (fun ev wo E=>?_) ?_
         · have e155:ev (.tmp 155)=.pointer (some ⟨g9,0,none⟩):=E.e 0;have hx:=cell_of_block (i:=0) (qAb HS.out.b9 E.bel) rfl;go_simp;exact rv
         refine Rel.rb ?_;refine rf (fun ev wo E=>?_) ?_
         · have e156:ev (.tmp 156)=.slice (some ⟨ga2,0,none⟩) N c2:=E.e 0;have e157:ev (.tmp 157)=.int .i64 (q:Nat):=E.e 1;have h1:=hki;have h2:=hlt;go_simp;exact rv
         refine rf (fun ev wo E=>?_) ?_
         · have e158:ev (.tmp 158)=.pointer (some ⟨ga2,q*7,none⟩):=E.e 0;go_simp;exact rv
         refine rf (fun ev wo E=>?_) ?_
         · have e159:ev (.tmp 159)=.pointer (some ⟨ga2,q*7,none⟩):=E.e 0;have hx:=(E.bel.cell HGL.out).trans X0.out;go_simp;exact rv
         refine rf (fun ev wo E=>?_) ?_
         · have e160:ev (.tmp 160)=.int .i64 c.1:=E.e 0;have ec:=E.const;have hw:=VA.out;go_simp;exact rv
         refine rf (fun ev wo E=>?_) ?_
         · have e153:ev (.tmp 153)=.slice (some ⟨ga2,0,none⟩) N c2:=E.e 0;have e154:ev (.tmp 154)=.int .i64 (q:Nat):=E.e 1;have h1:=hki;have h2:=hlt;go_simp;exact rv
         refine rf (fun ev wo E=>?_) ?_
         · have e162:ev (.tmp 162)=.pointer (some ⟨ga2,q*7,none⟩):=E.e 0;go_simp;exact rv
         trivial
       intro wz bz
       (iterate 12 rintro _ rfl);have hz:=HS.out.to bz;have x0:=(qJd hz.own HAT.out).1;have f0:=(qJd hz.own HAT.out).2.2.2.2.2.2.2.1;have hn:=hz.id (by decide) (by decide) L08.out HAT.out (c.1+1);rw[HNX.out] at hn;have HNN:=Lib.hid hn;clear hz hn bz;simp only[qAq,qGp];unfold Oper.wp;go_simp
       go_wp2_with fail
       go_roundw
       case rel=>have hN:=HN2.out;exact⟨q+1,by go_num,by omega,by omega,by rw[Nat.add_sub_cancel];exact HNN.out⟩
       case measure=>have hN:=HN2.out;simp[RowKit.intOf];omega
     · obtain rfl:q=N:=by omega
       have hki:¬(q:Int)<q:=by omega
       have hN:=HN2.out;rw[show q-1=s.length by omega,qSm] at hs;have hf1:=ZOK.out;have hf2:=STP.out
       generalize qD8 s=bs at hs hf1 hf2
       have hbl:bs.length=q:=hs.len;obtain⟨K',dK',ekv,lb⟩:=hs.lb (by omega) (by decide)
       cases ekv
       have hbz:=qW6 hf1
       have SP:=Lib.hid hs;have LB:=Lib.hid lb;have G2:=Lib.hid hf2;have BZ:=Lib.hid hbz;have BL:=Lib.hid hbl
       clear hs lb hf1 hf2 hbz hbl ZOK STP y9 hN;have e8:=cell_of_block (i:=0) SP.out.b8 rfl;have e81:=cell_of_block (i:=1) SP.out.b8 rfl;have e9:=cell_of_block (i:=0) SP.out.b9 rfl;have e91:=cell_of_block (i:=1) SP.out.b9 rfl
       go_wp2_with fail
       have hst:=qFs (some ⟨ga,oa,none⟩) rb s.length rc 1 rd s [0] (some ⟨ga2,0,none⟩) K9 q c2 1 d9 bs [0] wr rfl rfl (by omega) (by omega) SP.out.aa.la SP.out.aa.lb HSZ.out BL.out.symm rfl (by have:=HN2.out;omega) (by omega) LB.out.la LB.out.lb BZ.out (HE.out.below SP.out.bel);rw[G2.out] at hst;refine hst.mono ?_;clear hst e8 e81 e9 e91;rintro en w12 ⟨rfl,b12⟩;have B14:=Lib.hid (SP.out.to b12).bel;clear b12
       go_wp2_with fail
       refine(qDn w12 (HE.out.below B14.out)).mono ?_;rintro en w15 ⟨rfl,b15⟩;have B15:=Lib.hid (B14.out.trans (b15.mono B14.out.size));clear b15
       go_wp2_with fail
       go_ret
       exact⟨rfl,B15.out⟩
  · -- no key
    go_wp2_with fail
    go_meet
    exact⟨_,_,(i0,s0,(t0,n0),n0,m0,v0),ST.out.nokey (by decide),qPo HOK.out HV7.out HCO.out⟩
  · -- wider
    by_cases ht:t0=2
    · subst ht;obtain⟨w1,w2',w3'⟩:=qSe HOK.out HV7.out HCO.out rfl;have hsw:qDi ((i0,s0,(2,n0),n0,m0,v0):Co)=(i0,s0,(3,n0),n0,m0,v0):=rfl;rw[hsw] at w1 w2' w3'
      have F1:=Lib.hid w1;have F2:=Lib.hid w2';have F3:=Lib.hid w3'
      clear w1 w2' w3' hsw
      go_upto_region 11 with fail
      obtain⟨W1,hW1⟩:∃W,W=wC.setCell ⟨g11,2,none⟩ (.int .i64 3):=⟨_,rfl⟩
      have q1:W1.heap[g11]?=some (.cells #[.int .i64 i0,.string s0,.int .i64 3,.bool n0,.bool n0,.int .i64 m0,.string v0] 59 (0,0)):=by rw[hW1];exact qGb QQ.out 2 _
      have st1:=ST.out.col (d':=(i0,s0,(3,n0),n0,m0,v0)) (by decide) (show wC.grownBy W1 (some g11) by rw[hW1];exact qAm _ _ _ _) q1;rw[←hW1]
      have Q1:=Lib.hid q1;have ST1:=Lib.hid st1
      clear hW1 q1 st1 a0 a1 a2 a3 a4 a5 a6 f0 f1 f2 f3 f4 f5 f6 e8 e9 e91 h9 h91 ka ST QQ;have e9:=cell_of_block (i:=0) ST1.out.b9 rfl;have a0:=cell_of_block (i:=0) Q1.out rfl;have a1:=cell_of_block (i:=1) Q1.out rfl;have a2:=cell_of_block (i:=2) Q1.out rfl;have a3:=cell_of_block (i:=3) Q1.out rfl;have a4:=cell_of_block (i:=4) Q1.out rfl;have a5:=cell_of_block (i:=5) Q1.out rfl;have a6:=cell_of_block (i:=6) Q1.out rfl;obtain⟨c0,c1,c2,c3,c4,c5,c6,f0,f1,f2,f3,f4,f5,f6⟩:=qJd ST1.out.own HCO.out
      have hsp:=ST1.out.put (by decide) hks ((i0,s0,(3,n0),n0,m0,v0):Co);simp only at c0 c1 c2 c3 c4 c5 c6;have SP0:=Lib.hid hsp;clear hsp
      go_upto_region 12 with fail
      obtain⟨W2,hW2⟩:∃W,W=((((((W1.setCell ⟨g,k*7,none⟩ (.int .i64 i0)).setCell ⟨g,k*7+1,none⟩ (.string s0)).setCell ⟨g,k*7+2,none⟩ (.int .i64 3)).setCell ⟨g,k*7+3,none⟩ (.bool n0)).setCell ⟨g,k*7+4,none⟩ (.bool n0)).setCell ⟨g,k*7+5,none⟩ (.int .i64 m0)).setCell ⟨g,k*7+6,none⟩ (.string v0):=⟨_,rfl⟩;have sp2:=SP0.out;simp only at sp2;rw[←hW2] at sp2 ⊢;clear hW2 a0 a1 a2 a3 a4 a5 a6 c0 c1 c2 c3 c4 c5 c6 f0 f1 f2 f3 f4 f5 f6 e9 SP0 ST1 Q1;have hf1:=F1.out;have hf2:=F2.out;have hf3:=F3.out
      generalize s.set k ((i0,s0,(3,n0),n0,m0,v0):Co)=bs at sp2 hf1 hf2 hf3
      have hbl:bs.length=s.length:=sp2.len;obtain⟨K',dK',ekv,lb⟩:=sp2.lb (by omega) (by decide)
      cases ekv
      have hbz:=qW6 hf1
      have SP:=Lib.hid sp2;have LB:=Lib.hid lb;have G2:=Lib.hid hf2;have G3:=Lib.hid hf3;have BZ:=Lib.hid hbz;have BL:=Lib.hid hbl
      clear sp2 lb hf1 hf2 hf3 hbz hbl F1 F2 F3;have e8:=cell_of_block (i:=0) SP.out.b8 rfl;have e81:=cell_of_block (i:=1) SP.out.b8 rfl;have e9:=cell_of_block (i:=0) SP.out.b9 rfl;have e91:=cell_of_block (i:=1) SP.out.b9 rfl
      go_wp2_with fail
      have hst:=qFs (some ⟨ga,oa,none⟩) rb s.length rc 1 rd s [0] (some ⟨g,0,none⟩) K9 s.length c9 1 d9 bs [0] W2 rfl rfl (by omega) (by omega) SP.out.aa.la SP.out.aa.lb HSZ.out BL.out.symm rfl (by omega) (by omega) LB.out.la LB.out.lb BZ.out (HE.out.below SP.out.bel);rw[G2.out] at hst;refine hst.mono ?_;clear hst e8 e81 e9 e91;rintro en w12 ⟨rfl,b12⟩
      have S12:=Lib.hid (SP.out.to b12);have L12:=Lib.hid (LB.out.to b12)
      clear b12 SP LB;have e8:=cell_of_block (i:=0) S12.out.b8 rfl;have e81:=cell_of_block (i:=1) S12.out.b8 rfl;have e9:=cell_of_block (i:=0) S12.out.b9 rfl;have e91:=cell_of_block (i:=1) S12.out.b9 rfl
      go_wp2_with fail
      have hst:=qFs (some ⟨g,0,none⟩) K9 s.length c9 1 d9 bs [0] (some ⟨ga,oa,none⟩) rb s.length rc 1 rd s [0] w12 BL.out.symm rfl (by omega) (by omega) L12.out.la L12.out.lb BZ.out rfl rfl (by omega) (by omega) S12.out.aa.la S12.out.aa.lb HSZ.out (HE.out.below S12.out.bel);rw[G3.out] at hst;refine hst.mono ?_;clear hst e8 e81 e9 e91;rintro en w14 ⟨rfl,b14⟩;have B14:=Lib.hid (S12.out.to b14).bel;clear b14
      go_wp2_with fail
      refine(qDn w14 (HE.out.below B14.out)).mono ?_;rintro en w15 ⟨rfl,b15⟩;have B15:=Lib.hid (B14.out.trans (b15.mono B14.out.size));clear b15
      go_wp2_with fail
      go_ret
      exact⟨rfl,B15.out⟩
    · have ht2:(t0==2)=false:=by simpa using ht
      go_wp2_with fail
      go_meet
      exact⟨_,_,qHa (i0,s0,(t0,n0),n0,m0,v0),ST.out.col (by decide) (qAm _ _ _ _) (qGb QQ.out _ _),qKo HOK.out HV7.out HCO.out⟩
 case rest=>
  obtain⟨kv,ks,⟨i1',s1',⟨t1',u1'⟩,n1',m1',v1'⟩,hst,hfin⟩:=hcut;obtain⟨K,dK,rfl,-,-⟩:=qAg hst.ki;have e9:=cell_of_block (i:=0) hst.b9 rfl;have qq:wc.heap[g11]?=some (.cells #[.int .i64 i1',.string s1',.int .i64 t1',.bool u1',.bool n1',.int .i64 m1',.string v1'] 59 (0,0)):=hst.b11;have a0:=cell_of_block (i:=0) qq rfl;have a1:=cell_of_block (i:=1) qq rfl;have a2:=cell_of_block (i:=2) qq rfl;have a3:=cell_of_block (i:=3) qq rfl;have a4:=cell_of_block (i:=4) qq rfl;have a5:=cell_of_block (i:=5) qq rfl
  have a6:=cell_of_block (i:=6) qq rfl;obtain⟨c0,c1,c2,c3,c4,c5,c6,f0,f1,f2,f3,f4,f5,f6⟩:=qJd hst.own HCO.out;have hsp:=hst.put (by decide) hks ((i1',s1',(t1',u1'),n1',m1',v1'):Co)
  have SP:=Lib.hid hsp;have HF:=Lib.hid hfin
  clear hst hfin qq hsp
  go_upto_region 37 with fail
  obtain⟨W2,hW2⟩:∃W,W=((((((wc.setCell ⟨g,k*7,none⟩ (.int .i64 i1')).setCell ⟨g,k*7+1,none⟩ (.string s1')).setCell ⟨g,k*7+2,none⟩ (.int .i64 t1')).setCell ⟨g,k*7+3,none⟩ (.bool u1')).setCell ⟨g,k*7+4,none⟩ (.bool n1')).setCell ⟨g,k*7+5,none⟩ (.int .i64 m1')).setCell ⟨g,k*7+6,none⟩ (.string v1'):=⟨_,rfl⟩;have sp2:=SP.out;simp only at sp2;rw[←hW2] at sp2 ⊢;clear hW2 a0 a1 a2 a3 a4 a5 a6 c0 c1 c2 c3 c4 c5 c6 f0 f1 f2 f3 f4 f5 f6 e9 SP;obtain⟨hf1,hf2,hf3⟩:=HF.out
  generalize s.set k ((i1',s1',(t1',u1'),n1',m1',v1'):Co)=bs at sp2 hf1 hf2 hf3
  have hbl:bs.length=s.length:=sp2.len;have hkl:ks.length≤8:=((qB6 _ _).1 hf1).keys;obtain⟨K',dK',ekv,lb⟩:=sp2.lb (by omega) (by omega)
  cases ekv
  have hbz:=qW6 hf1
  have SP:=Lib.hid sp2;have LB:=Lib.hid lb;have F1:=Lib.hid hf1;have F2:=Lib.hid hf2;have F3:=Lib.hid hf3;have BZ:=Lib.hid hbz;have BL:=Lib.hid hbl
  clear sp2 lb hf1 hf2 hf3 hbz hbl HF;have e8:=cell_of_block (i:=0) SP.out.b8 rfl;have e81:=cell_of_block (i:=1) SP.out.b8 rfl;have e9:=cell_of_block (i:=0) SP.out.b9 rfl;have e91:=cell_of_block (i:=1) SP.out.b9 rfl
  go_wp2_with fail
  have hck:=qEq W2 (some ⟨g,0,none⟩) K s.length c9 ks.length dK bs ks BZ.out (by omega) (by omega) BL.out.symm rfl LB.out.la LB.out.lb (HE.out.below SP.out.bel);rw[qBz F1.out,if_pos rfl] at hck;refine hck.mono ?_;clear hck e8 e81 e9 e91;rintro en w11 ⟨rfl,b11⟩
  have S11:=Lib.hid (SP.out.to b11);have L11:=Lib.hid (LB.out.to b11)
  clear b11 SP LB;have e8:=cell_of_block (i:=0) S11.out.b8 rfl;have e81:=cell_of_block (i:=1) S11.out.b8 rfl;have e9:=cell_of_block (i:=0) S11.out.b9 rfl;have e91:=cell_of_block (i:=1) S11.out.b9 rfl
  go_wp2_with fail
  have hst:=qFs ra rb s.length rc 1 rd s [0] (some ⟨g,0,none⟩) K s.length c9 ks.length dK bs ks w11 rfl rfl (by omega) (by omega) S11.out.aa.la S11.out.aa.lb HSZ.out BL.out.symm rfl (by omega) (by omega) L11.out.la L11.out.lb BZ.out (HE.out.below S11.out.bel);rw[F2.out] at hst;refine hst.mono ?_;clear hst e8 e81 e9 e91;rintro en w12 ⟨rfl,b12⟩
  have S12:=Lib.hid (S11.out.to b12);have L12:=Lib.hid (L11.out.to b12)
  clear b12 S11 L11;have e8:=cell_of_block (i:=0) S12.out.b8 rfl;have e81:=cell_of_block (i:=1) S12.out.b8 rfl;have e9:=cell_of_block (i:=0) S12.out.b9 rfl;have e91:=cell_of_block (i:=1) S12.out.b9 rfl;obtain⟨W3,hW3⟩:∃W,W=w12.alloc (.cells #[.slice ra s.length rc,.slice rb 1 rd,.slice (some ⟨g,0,none⟩) s.length c9,.slice K ks.length dK] 25):=⟨_,rfl⟩
  have b13:Below w12.heap.size w12 W3:=by rw[hW3];exact(Below.refl _ _).alloc (Nat.le_refl _) _
  have hlay:Lay W3 W3.heap.size (some ⟨w12.heap.size,0,none⟩) (scsV [⟨ra,s.length,rc,rb,1,rd⟩,⟨some ⟨g,0,none⟩,s.length,c9,K,ks.length,dK⟩]):=by rw[hW3];exact qBo w12 _ _
  have S13:=Lib.hid (S12.out.to b13);have L13:=Lib.hid (L12.out.to b13)
  have hscs:qDb W3 W3.heap.size (some ⟨w12.heap.size,0,none⟩) [⟨ra,s.length,rc,rb,1,rd⟩,⟨some ⟨g,0,none⟩,s.length,c9,K,ks.length,dK⟩] [(s,[0]),(bs,ks)]:=by
   refine⟨rfl,hlay,fun i r t h1 h2=>?_⟩
   match i,h1,h2 with
   |0,h1,h2=>cases h1;cases h2;exact S13.out.aa
   |1,h1,h2=>cases h1;cases h2;exact L13.out
  have hch:=qFb W3 (some ⟨w12.heap.size,0,none⟩) 2 2 _ _ (by omega) rfl hscs (fun t ht=>by
   rcases List.mem_cons.1 ht with rfl|ht
   · exact HSZ.out
   · rcases List.mem_cons.1 ht with rfl|ht
     · exact BZ.out
     · cases ht) (HE.out.below S13.out.bel)
  rw[F3.out] at hch;have HCH:=Lib.hid hch;clear hch hscs hlay b13 S12 L12
  go_wp2_with fail
  rw[←hW3];clear hW3 e8 e81 e9 e91;refine HCH.out.mono ?_;rintro en w14 ⟨rfl,b14⟩;have B14:=Lib.hid (S13.out.to b14).bel;clear b14
  go_wp2_with fail
  refine(qDn w14 (HE.out.below B14.out)).mono ?_;rintro en w15 ⟨rfl,b15⟩;have B15:=Lib.hid (B14.out.trans (b15.mono B14.out.size));clear b15
  go_wp2_with fail
  go_ret
  exact⟨rfl,B15.out⟩
end Go.Proofs.YtikpmmipopmjaaaGreatDoor
