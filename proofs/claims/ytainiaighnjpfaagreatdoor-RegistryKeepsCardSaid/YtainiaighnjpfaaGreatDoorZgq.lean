/- Registry's laws: RegistryKeeps, walked. -/
import Derived.Test.YtainiaighnjpfaaGreatDoorZgp
import Derived.Test.YtainiaighnjpfaaGreatDoorZgn
import Derived.Test.YtainiaighnjpfaaGreatDoorZQaf
set_option linter.unusedVariables false
set_option linter.unusedSimpArgs false
namespace Go.Proofs.YtainiaighnjpfaaGreatDoor
open Go.RowKit Go.Ms Go.Lib Go.Maps Go.WideMaps Go.Rel
abbrev KpS (Kp:Nat→Prop) (g kb:Nat) (G:Rg) (va vb:Value) (ra rb:List SRef) (la lb:List Sc) (w W:World):Prop:=KpSt Tryz.prog 9 87 71 33 45 3 Kp g kb G va vb ra rb la lb w W
structure qWo (Ks:Nat→Prop) (g kb bs lo hi:Nat) (r:SRef) (G:Rg) (Kp:Nat→Prop) (va vb:Value) (ra rb:List SRef) (l:List Co) (w W:World):Prop where
  st:KpS Kp g kb G va vb ra rb (rgAt G [97]) (rgAt G [98]) w W
  box:W.heap[kb]?=some (.cells #[va,vb] 83 (0,0))
  qa:∀q∈ra,RefK Ks q
  qb:∀q∈rb,RefK Ks q
  co:qEq W lo 45 (.slice r.a r.n r.c) l
  ln:l.length=r.n
  sb:W.heap[bs]?=some (.cells #[.slice r.a r.n r.c,.slice r.b r.m r.d] 33 (0,0))
  nk:∀b,lo≤b→b<hi→¬Kp b
  up:∀b,r.a=some b→b.block<hi
  lw:w.heap.size≤lo
theorem qWo.spoil {Ks:Nat→Prop} {g kb bs lo hi c:Nat} {r:SRef} {G:Rg} {Kp:Nat→Prop} {va vb:Value} {ra rb:List SRef} {l l':List Co} {w W W':World} {cs:Array Value} (h:qWo Ks g kb bs lo hi r G Kp va vb ra rb l w W)
    (hs:qVz c W W') (hq:W.heap[c]?=some (.cells cs 45 (0,0))) (hz:cs.size≠1) (hlo:lo≤c) (hhi:c<hi) (hd:¬Ks c) (ho:qEq W' lo 45 (.slice r.a r.n r.c) l') (hl:l'.length=r.n) :
    qWo Ks g kb bs lo hi r G Kp va vb ra rb l' w W':=by
 have he:EffT 45 W W':=⟨some c,hs.g,fun g' e=>by cases e;exact⟨_,_,hq⟩⟩;exact⟨h.st.spoil hs (h.nk c hlo hhi) hq hz (by decide) (Nat.le_trans h.lw hlo) hd h.qa h.qb,he.keep h.box (by decide),h.qa,h.qb,ho,hl,he.keep h.sb (by decide),h.nk,h.up,h.lw⟩
set_option maxRecDepth 100000 in
set_option maxHeartbeats 8000000 in
theorem qV6 (A : Option Addr) (n c:Nat) (V:List (Int×Int×Int)) (bits:Int) (w:World) (hs:qNe w A n V) (hx: -9223372036854775808≤bits∧bits≤9223372036854775807) (hE:Env w) :
    Calls Tryz.prog 8 #[.slice A n c,.int .i64 bits] w fun e w'=>e=.returned (.bool true)∧Below w.heap.size w w':=by
 obtain⟨sc,si,sz0,sz1,sz2⟩:=info_parts qHt
 have n1:(45:TypeId)≠33:=by decide
 have n2:(3:TypeId)≠33:=by decide
 have HS:=Lib.hid hs;have HE:=Lib.hid hE;have HX:=Lib.hid hx
 clear hs hE hx
 go_enter Tryz.func8,Tryz.ntmps8
 go_wp2_with fail
 refine(qKl w).mono ?_;rintro en w1 ⟨g,rfl,l1,b1,o1⟩;obtain⟨Y,hY⟩:∃Y,Y=w1.alloc (.cells #[.slice none 0 0,.slice none 0 0] 83):=⟨_,rfl⟩
 have bY:Below w1.heap.size w1 Y:=by rw[hY];exact(Below.refl _ _).alloc (Nat.le_refl _) _
 have qY:Y.heap[w1.heap.size]?=some (.cells #[.slice none 0 0,.slice none 0 0] 83 (0,0)):=by rw[hY];exact qAf _ _
 have zY:Y.heap.size=w1.heap.size+1:=by rw[hY];exact World.size_alloc _ _
 have K0:KpS (fun b=>b<w1.heap.size) g w1.heap.size [] (.slice none 0 0) (.slice none 0 0) [] [] [] [] w Y:=
   ⟨l1.below.to bY,World.ownsRow_nil _ _ _ _,World.ownsRow_nil _ _ _ _,fun i r s h=>by simp at h,fun i r s h=>by simp at h,rfl,rfl,fun b h=>by simp[Value.ownBlock] at h,fun b h=>by simp[Value.ownBlock] at h,fun b h=>by simp[Value.ownBlock] at h,b1.trans (bY.mono b1.size),o1,⟨b1.size,by omega⟩,Nat.lt_irrefl _⟩
 have KZ:=Lib.hid K0;have QY:=Lib.hid qY
 clear K0 l1 b1 o1 bY qY zY
 go_upto_region 3 with fail
 rw[←hY]
 generalize w1.heap.size=kb at KZ QY ⊢
 clear hY
 go_wp2_with fail
 go_loopw [7] (fun s7 wr=> ∃(k:Nat) (Kp:Nat→Prop) (G:Rg) (va vb:Value) (ra rb:List SRef),k≤n∧k≤12∧s7=.int .i64 k∧KpS Kp g kb G va vb ra rb (rgAt G [97]) (rgAt G [98]) w wr∧wr.heap[kb]?=some (.cells #[va,vb] 83 (0,0))∧(rgAt G [97]).length+(rgAt G [98]).length≤k) (fun s7 _=>12-(RowKit.intOf s7).toNat)
 case atStart=>exact⟨0,_,_,_,_,_,_,Nat.zero_le _,by omega,rfl,KZ.out,QY.out,Nat.le_refl _⟩
 case round=>
  obtain⟨k,Kp,G,va,vb,ra,rb,hk,hk12,rfl,hK,hQ,hlm⟩:=hrel
  have K:=Lib.hid hK;have Q:=Lib.hid hQ;have LM:=Lib.hid hlm
  clear hK hQ hlm KZ QY;have hnn:=HS.out.nn
  by_cases hk1:k<n
  · have tk : (k :Int)<n:=by omega
    have tk0:(0:Int)≤k:=by omega
    by_cases hk2:k<12
    · have tk2 : (k:Int)<12:=by omega
      obtain⟨ga,oa,⟨x0,x1,x2⟩,eA,-,hN,hx0,hx1,hx2⟩:=HS.out.at_ hk1;subst eA
      have HN:=Lib.hid hN;have HX0:=Lib.hid hx0;have HX1:=Lib.hid hx1;have HX2:=Lib.hid hx2
      clear hN hx0 hx1 hx2;simp only at HX0 HX1 HX2 HN
      go_wp2_with fail
      refine(qEc bits 4096 HX.out.1 HX.out.2 (by omega) (by omega) wr).mono ?_;rintro en w1 ⟨rfl,b1⟩
      have K1:=Lib.hid (K.out.to b1);have Q1:=Lib.hid (qAa Q.out b1)
      clear b1 K Q;obtain⟨q,hq⟩:∃q,q=bits%4096:=⟨_,rfl⟩
      have q0:0≤q∧q<4096:=by omega
      rw[←hq];clear hq;have hbit:=(qP2 q q0.1 (by omega) k).1;obtain⟨kk,hkk⟩:∃kk:Nat,(kk:Int)=(q/2^k)%2:=⟨((q/2^k)%2).toNat,by omega⟩
      have hkk2:kk<2:=by omega
      rw[←hkk] at hbit;clear hkk
      have tkk:(kk:Int)<2:=by omega
      have tkk0:(0:Int)≤kk:=by omega
      have wk1:IntKind.i64.wrap ((kk:Int)+1)=(kk:Int)+1:=IntWalk.i64_in _ (by omega)
      have h2:(kk:Int)+1≤2:=by omega
      have h3:(0:Int)≤(kk:Int)+1:=by omega
      have h4:((kk:Int)+1).toNat=kk+1:=by omega
      have h5:kk≤kk+1:=by omega
      have h6:kk+1≤2:=by omega
      have h7:(kk:Int)≤(kk:Int)+1:=by omega
      have h10:¬((kk:Int)+1<kk):=by omega
      have h11:¬((2:Int)<(kk:Int)+1):=by omega
      obtain⟨v1,v2,r1,r2,hKs,hQs⟩:=KpSt.kth hkk2 K1.out Q1.out;have hqa:=hKs.refs;have hqb:=hKs.swap.refs;obtain⟨lw,hlw⟩:∃lw,lw=w1.heap.size:=⟨_,rfl⟩
      have KS:=Lib.hid hKs;have QS:=Lib.hid hQs;have QA:=Lib.hid hqa;have QB:=Lib.hid hqb;have HLW:=Lib.hid hlw
      clear hKs hQs hqa hqb hlw K1 Q1;have y':=(HN.out _ KS.out.bel);have y0:=y'.c0;have y1:=y'.c1;have y2:=y'.c2;clear y'
      go_wp2_with fail
      refine(qFb (x0,x1,x2) _ HX0.out HX1.out HX2.out).mono ?_;rintro en w2 ⟨⟨a0,n0,c0,b0,m0,d0⟩,rfl,b2,hl2,ho2⟩;obtain⟨s,hs⟩:∃s,s=qBx (x0,x1,x2):=⟨_,rfl⟩
      have hsz:ScSz s.1:=by rw[hs];exact qFt _
      rw[←hs] at hl2 ho2;have SZ:=Lib.hid hsz;simp only at ho2;obtain⟨X,hX⟩:∃X,X=w2.alloc (.cells #[.slice a0 n0 c0,.slice b0 m0 d0] 33):=⟨_,rfl⟩
      have bX:Below w2.heap.size w2 X:=by rw[hX];exact(Below.refl _ _).alloc (Nat.le_refl _) _
      have qX:X.heap[w2.heap.size]?=some (.cells #[.slice a0 n0 c0,.slice b0 m0 d0] 33 (0,0)):=by rw[hX];exact qAf _ _
      have bb:=b2.trans (bX.mono b2.size)
      obtain⟨Ks,hKs⟩:∃Ks:Nat→Prop,Ks=fun b=>b<lw∨X.heap.size≤b:=⟨_,rfl⟩
      have hks1:∀b,X.heap.size≤b→Ks b:=fun b h=>by rw[hKs];exact .inr h
      have hks2:∀b,b<lw→Ks b:=fun b h=>by rw[hKs];exact .inl h
      have hks3:∀b,lw≤b→b<X.heap.size→¬Ks b:=fun b h1 h2=>by rw[hKs];show ¬(b<lw∨X.heap.size≤b);omega
      have hKX:=KS.out.fresh bb
      obtain⟨Kr,hKr⟩:∃Kr:Nat→Prop,Kr=fun b=>(Kp b∧b<w1.heap.size)∨X.heap.size≤b:=⟨_,rfl⟩
      rw[←hKr] at hKX
      have hkr1:∀b,X.heap.size≤b→Kr b:=fun b h=>by rw[hKr];exact .inr h
      have hkr3:∀b,lw≤b→b<X.heap.size→¬Kr b:=fun b h1 h2=>by rw[hKr];have:=HLW.out;show ¬((Kp b∧b<w1.heap.size)∨X.heap.size≤b);omega
      have hqa2:∀q∈r1,RefK Ks q:=fun q h=>(QA.out q h).weak (fun b hb=>hks2 b (by rw[HLW.out];exact hb))
      have hqb2:∀q∈r2,RefK Ks q:=fun q h=>(QB.out q h).weak (fun b hb=>hks2 b (by rw[HLW.out];exact hb))
      have hco:qEq X lw 45 (.slice a0 n0 c0) s.1:=by
       have h:=qB1 (own_below ho2 bX) (show lw≤w1.heap.size+2 by have:=HLW.out;omega);have hn:=hl2.n;simp only at hn;unfold qEq;rw[←hn];exact h
      have hup:∀b,a0=some b→b.block<X.heap.size:=fun b e=>(World.ownsRow.lt hco b.block (by rw[e];rfl)).2
      have KX:=Lib.hid hKX;have SX:=Lib.hid (hl2.to bX);have QX:=Lib.hid qX;have BXQ:=Lib.hid (qAa QS.out bb);have HKS:=Lib.hid hks1;have HKS3:=Lib.hid hks3;have HKR:=Lib.hid hkr1;have HKR3:=Lib.hid hkr3;have QA2:=Lib.hid hqa2;have QB2:=Lib.hid hqb2;have CO:=Lib.hid hco;have HUP:=Lib.hid hup
      have HLWX:=Lib.hid (show w.heap.size≤lw∧lw≤X.heap.size by have h1:=KS.out.bel.size;have h2:=bb.size;rw[HLW.out];exact⟨h1,h2⟩);have HNB:=Lib.hid (show n0≤100000 from hl2.nn);have HBS0:=Lib.hid (show lw≤w2.heap.size by rw[HLW.out];exact b2.size);have HOV:=Lib.hid (show ∀b,v1.ownBlock=some b→b<lw from fun b e=>by rw[HLW.out];exact(World.ownsRow.lt KS.out.oa b e).2);clear hKs hKr hks1 hks2 hks3 hkr1 hkr3 hqa2 hqb2 hco hup hKX b2 hl2 ho2 bX qX bb y0 y1 y2 hsz hs KS QS QA QB
      go_upto_region 9 with fail
      rw[←hX]
      generalize w2.heap.size=bs at QX HBS0 ⊢
      have HBS:=HBS0;clear hX;obtain⟨SS,hSS⟩:∃SS,SS=ByteArray.extract ⟨#[97,98]⟩ kk (kk+1):=⟨_,rfl⟩
      have hnm:SS.data.toList=qVy kk:=by rw[hSS];exact qWi hkk2
      have hss:SS.size≤100000:=by rw[hSS];exact qV9
      rw[←hSS];clear hSS;obtain⟨G',v,e,hgo⟩:∃G' v e,qBf G (qVy kk) s=(G',v,e):=⟨_,_,_,rfl⟩;have HGO:=Lib.hid hgo
      have HNM:=Lib.hid hnm;have HSS:=Lib.hid hss
      clear hgo hnm hss h2 h3 h4 h5 h6 h7 h10 h11 wk1;have z0:=cell_of_block (i:=0) (v:=.slice a0 n0 c0) QX.out rfl;have z1:=cell_of_block (i:=1) (v:=.slice b0 m0 d0) QX.out rfl
      go_wp2_with fail
      have had:=qV8 (Kp:=Kr) g G SS ⟨a0,n0,c0,b0,m0,d0⟩ s X HSS.out KX.out.rg SX.out SZ.out (HE.out.below KX.out.bel) HKR.out;rw[HNM.out,HGO.out] at had;refine had.mono ?_;rintro en w4 ⟨rfl,hl4,hg4⟩;have he4:=KX.out.rg.effT hg4
      have hs4:qCi w4 w4.heap.size ⟨a0,n0,c0,b0,m0,d0⟩ s:=by
       obtain⟨sp,mb,D,ha⟩:=KX.out.rg;exact SX.out.but hg4 ha.box
      have K4:=Lib.hid (KX.out.turn hl4 hg4 (by decide) (by decide) (by decide));have Q4:=Lib.hid (he4.keep BXQ.out (by decide));have SB4:=Lib.hid (he4.keep QX.out (by decide));have S4:=Lib.hid hs4;have CO4:=Lib.hid (show qEq w4 lw 45 (.slice a0 n0 c0) s.1 from EffT.row CO.out he4 (by decide));have HX4:=Lib.hid hg4.size
      clear had hl4 hg4 he4 hs4 z0 z1 KX BXQ QX SX CO;obtain⟨A1,c1,e1,-⟩:=K4.out.scs;subst e1;obtain⟨ln,hln⟩:∃ln,r1.length=ln:=⟨_,rfl⟩;have hna:(rgAt G (qVy kk)).length=ln:=K4.out.na.symm.trans hln;have hlm:=LM.out;rw[←qXf hkk2,hna] at hlm;have q4:=Q4.out;have o4:=K4.out.oa;rw[hln] at q4 o4
      have Q4:=Lib.hid q4;have O4:=Lib.hid o4;have HLN:=Lib.hid hln;have HNA:=Lib.hid hna
      have HLM:=Lib.hid hlm
      have hl12:ln≤12:=by omega
      clear q4 o4 hln hna
      obtain⟨bk,hway⟩:∃bk:Bool,(bk=true∧e=0∧v=(ln:Int)+1∧∀z,rgAt G' z=if z=qVy kk then rgAt G (qVy kk)++[s] else rgAt G z)∨(bk=false∧v≠(ln:Int)+1∧∀z,rgAt G' z=rgAt G z):=by
       have h:=qW5 HGO.out;rw[HNA.out] at h
       rcases h with⟨h1,h2,h3⟩|⟨h1,h2⟩
       · exact⟨true,.inl ⟨rfl,h2,h1,h3⟩⟩
       · exact⟨false,.inr ⟨rfl,h1,h2⟩⟩
      have HWAY:=Lib.hid hway;clear hway
      go_upto_region 10 with fail
      go_cut [61] (fun s61 wx=>s61=.bool bk∧wx=w4)
      case first=>
       have wl1:IntKind.i64.wrap ((ln:Int)+1)=(ln:Int)+1:=IntWalk.i64_in _ (by omega);have y0:=cell_of_block (i:=kk) (v:=.slice A1 ln c1) Q4.out (qWb hkk2 _ _)
       rcases HWAY.out with⟨hb0,he0,hv,-⟩|⟨hb0,hv,-⟩
       · subst hb0;subst he0;subst hv;clear HWAY
         go_wp2_with fail
         go_meet
         exact⟨rfl,rfl⟩
       · subst hb0
         have tv:(v==(ln:Int)+1)=false:=by rw[beq_eq_false_iff_ne];exact hv
         clear HWAY hv
         by_cases he0:e=0
         · subst he0
           go_wp2_with fail
           go_meet
           exact⟨rfl,rfl⟩
         · have te:(e==0)=false:=by rw[beq_eq_false_iff_ne];exact he0
           clear he0
           go_wp2_with fail
           go_meet
           exact⟨rfl,rfl⟩
      case rest=>
      obtain⟨rfl,hw⟩:=hcut;replace hw:=hw.symm;subst hw
      go_upto_if 61 with fail
      go_cut [] (fun wx=> ∃(Kq:Nat→Prop) (va vb:Value) (ra rb:List SRef) (l:List Co),qWo Ks g kb bs lw X.heap.size ⟨a0,n0,c0,b0,m0,d0⟩ G' Kq va vb ra rb l w wx∧(rgAt G' [97]).length+(rgAt G' [98]).length≤k+1)
      case first=>
       rcases HWAY.out with⟨hb0,-,-,hat⟩|⟨hb0,-,hat⟩
       · subst hb0;have HAT:=Lib.hid hat;clear hat;have hd:Below w4.heap.size w4 w4.drew:=qAc (Below.refl _ w4) 1;have hcp:=qF8 ⟨a0,n0,c0,b0,m0,d0⟩ s w4.drew (S4.out.to hd)
         have HCP:=Lib.hid hcp;have HDR:=Lib.hid hd
         clear hd hcp;have y0:=cell_of_block (i:=kk) (v:=.slice A1 ln c1) Q4.out (qWb hkk2 _ _);have z0:=cell_of_block (i:=0) (v:=.slice a0 n0 c0) SB4.out rfl;have z1:=cell_of_block (i:=1) (v:=.slice b0 m0 d0) SB4.out rfl
         go_upto_region 11 with fail
         go_region_law (first
           | (refine qXp rfl (.tmp 65) (.tmp 68) 36 rfl w.heap.size 33 sc _ 2 48 qFu si sz0 sz1 sz2 rfl (by omega) (.slice A1 ln c1) ln (scsV r1) rfl OWN5.out _ (some ⟨w5.heap.size,0,none⟩) 1 1 rn.vs rfl rfl NEW5.out ONE5.out (by unfold maxLen;omega) (by omega) KZ5.out.bel.size ?_
              intro v8 w8 hown8 hg8 hnw8
              have FC8:=Lib.hid (And.intro hown8 (And.intro hg8 hnw8));clear hown8 hg8 hnw8;obtain⟨A8,c8,e8,-,-⟩:=qAh FC8.out.1;subst e8;have q8:=(EffT.own OWN5.out FC8.out.2.1).keep Q5.out (show(83:TypeId)≠33 by decide);have f8:=qAb (i:=kk) q8;have y8:=cell_of_block (i:=kk) q8 (qWb hkk2 _ _)
              clear q8)
           | (go_simp
              with_reducible refine HCP.out.mono ?_
              rintro e w5 ⟨rn,rfl,hb5,ht5,ho5,hi5⟩;unfold qEq at ho5;unfold OwnI at hi5;have b5:=HDR.out.trans (hb5.mono HDR.out.size);have bn5:=(Below.refl w5.heap.size w5).alloc (Nat.le_refl _) (.cells #[.slice rn.a rn.n rn.c,.slice rn.b rn.m rn.d] 33);have bb5:=b5.trans (bn5.mono b5.size);have y5:=cell_of_block (i:=kk) (v:=.slice A1 ln c1) (qAa Q4.out b5) (qWb hkk2 _ _);have y6:=cell_of_block (i:=kk) (v:=.slice A1 ln c1) (qAa Q4.out bb5) (qWb hkk2 _ _);have hz5:=HX4.out;have hz6:=HDR.out.size
              have HR5:=Lib.hid (show RefK Ks rn from⟨AtK.own ho5 (fun b h=>HKS.out b (by omega)) _,AtK.own hi5 (fun b h=>HKS.out b (by omega)) _⟩)
              have KZ5:=Lib.hid (K4.out.to bb5);have HT5:=Lib.hid (ht5.to bn5);have Q5:=Lib.hid (qAa Q4.out bb5);have SB5:=Lib.hid (qAa SB4.out bb5);have CO5:=Lib.hid (show qEq _ lw 45 (.slice a0 n0 c0) s.1 from own_below CO4.out bb5);have OWN5:=Lib.hid (own_below O4.out bb5);have NEW5:=Lib.hid (qDr w5 rn.vs 33);have ONE5:=Lib.hid (fun u hu=>qI9 [rn] u (by simpa[scsV] using hu):∀u∈rn.vs,u.oneCell'=true)
              clear hb5 ht5 ho5 hi5 b5 bn5 bb5 hz5 hz6))
         all_goals
          have hown8:=FC8.out.1;have hg8:=FC8.out.2.1;have hnw8:=FC8.out.2.2;have he8:=EffT.own OWN5.out hg8;have hpu:=KZ5.out.push n1 n2 HT5.out (by rw[HLN.out];exact hown8) (by rw[HLN.out];exact hg8) (by rw[HLN.out];exact hnw8);have q8:=he8.keep Q5.out (show(83:TypeId)≠33 by decide);have co8:qEq w8 lw 45 (.slice a0 n0 c0) s.1:=EffT.row CO5.out he8 n1;have sbz:=SB5.out
          have sb8:w8.heap[bs]?=some (.cells #[.slice a0 n0 c0,.slice b0 m0 d0] 33 (0,0)):=(hg8.block _ (Array.getElem?_eq_some_iff.1 sbz).1 (fun e=>by have:=HOV.out bs (by rw[HLN.out];exact e.symm);have:=HBS.out;omega)).trans sbz;have he9:EffT 83 w8 (w8.setCell ⟨kb,kk,none⟩ (.slice A8 (ln+1) c8)):=EffT.set q8 kk _;have kb9:=hpu.boxed (i:=kk) (u:=.slice A8 (ln+1) c8) q8 (by rw[qW4];decide) (by decide) (by decide) (by decide)
          have a1:rgAt G' (qVy kk)=rgAt G (qVy kk)++[s]:=by rw[HAT.out,if_pos rfl]
          have a2:rgAt G' (qVy (1-kk))=rgAt G (qVy (1-kk)):=by rw[HAT.out,if_neg (qWx hkk2)]
          rw[←a1,←a2] at kb9;have hstd:=KpSt.std hkk2 (P0:=RefK Ks) kb9 (qW8 hkk2 q8 _) (fun q hq=>(List.mem_append.1 hq).elim (QA2.out q) (fun e=>by rw[List.mem_singleton.1 e];exact HR5.out)) QB2.out
          have FIN:=Lib.hid (show ∃(Kq:Nat→Prop) (va vb:Value) (ra rb:List SRef) (l:List Co),qWo Ks g kb bs lw X.heap.size ⟨a0,n0,c0,b0,m0,d0⟩ G' Kq va vb ra rb l w (w8.setCell ⟨kb,kk,none⟩ (.slice A8 (ln+1) c8))∧(rgAt G' [97]).length+(rgAt G' [98]).length≤k+1 by
           obtain⟨va,vb,ra,rb,h1,h2,h3,h4⟩:=hstd;refine⟨_,va,vb,ra,rb,s.1,⟨h1,h2,h3,h4,EffT.row co8 he9 (by decide),S4.out.n.symm,he9.keep sb8 (by decide),fun b h1 h2 h3=>HKR3.out b h1 h2 h3.1,HUP.out,HLWX.out.1⟩,?_⟩;rw[←qXf hkk2,a1,a2,List.length_append,HNA.out,List.length_singleton];have:=HLM.out
           omega)
          have f8:=qAb (i:=kk) q8;have y8:=cell_of_block (i:=kk) q8 (qWb hkk2 _ _);clear hown8 hg8 hnw8 he8 hpu q8 co8 sbz sb8 he9 kb9 a1 a2 hstd f8 y8
          go_wp2_with fail
          go_meet
          exact FIN.out
       · subst hb0
         have FIN:=Lib.hid (show ∃(Kq:Nat→Prop) (va vb:Value) (ra rb:List SRef) (l:List Co),qWo Ks g kb bs lw X.heap.size ⟨a0,n0,c0,b0,m0,d0⟩ G' Kq va vb ra rb l w w4∧(rgAt G' [97]).length+(rgAt G' [98]).length≤k+1 by
          have k4:=K4.out;rw[←hat (qVy kk),←hat (qVy (1-kk))] at k4;obtain⟨va,vb,ra,rb,h1,h2,h3,h4⟩:=KpSt.std hkk2 (P0:=RefK Ks) k4 (by rw[HLN.out];exact Q4.out) QA2.out QB2.out;refine⟨_,va,vb,ra,rb,s.1,⟨h1,h2,h3,h4,CO4.out,S4.out.n.symm,SB4.out,HKR3.out,HUP.out,HLWX.out.1⟩,?_⟩;rw[hat,hat];have:=LM.out
          omega)
         clear hat
         go_wp2_with fail
         go_meet
         exact FIN.out
      case rest =>
       obtain⟨Kq,va',vb',ra',rb',l,hmid,hlm'⟩:=hcut
       have MID:=Lib.hid hmid;have LM2:=Lib.hid hlm'
       clear hmid hlm' HKR HKR3 QA2 QB2 HUP
       go_wp2_with fail
       go_loopw [13] (fun s13 wr=> ∃(j:Nat) (l:List Co),j≤n0∧s13=.int .i64 j∧qWo Ks g kb bs lw X.heap.size ⟨a0,n0,c0,b0,m0,d0⟩ G' Kq va' vb' ra' rb' l w wr) (fun s13 _=>n0-(RowKit.intOf s13).toNat)
       case atStart=>exact⟨0,l,Nat.zero_le _,rfl,MID.out⟩
       case round =>
        obtain⟨j,l',hj,rfl,hm⟩:=hrel;have z0:=cell_of_block (i:=0) (v:=.slice a0 n0 c0) hm.sb rfl
        by_cases hjn:j<n0
        · have tj:(j:Int)<n0:=by omega
          have tj0:(0:Int)≤j:=by omega
          have hnb:=HNB.out;have hln':l'.length=n0:=hm.ln
          have hjl:j<l'.length:=by omega
          have hco:=hm.co;obtain⟨gc,cs,ea,hlo,hq,hz⟩:=qWz hco (by omega);have hhi:=hm.up _ ea;simp only at hhi ea;subst ea;obtain⟨x,hx⟩:∃x,l'[j]?=some x:=⟨_,List.getElem?_eq_getElem hjl⟩;obtain⟨j0,j1,j2,j3,j4,j5,j6,f0,f1,f2,f3,f4,f5,f6⟩:=qXk hco hx;have hput:=qXc hco hjl (0,⟨#[115,112,111,105,108,116]⟩,(0,false),(false,0,⟨#[]⟩));have hse:=qVz.seven wr gc (j*7) (.int .i64 0) (.string ⟨#[115,112,111,105,108,116]⟩) (.int .i64 0) (.bool false) (.bool false) (.int .i64 0) (.string ⟨#[]⟩)
          have hmid2:=hm.spoil hse hq hz hlo hhi (HKS3.out gc hlo hhi) hput (by rw[List.length_set];exact hln')
          have HM2:=Lib.hid hmid2;have HJN:=Lib.hid hjn
          clear hmid2 hse hput hco hm hq hz hx hlo hhi
          go_wp2_with fail
          go_roundw
          case rel=>exact⟨j+1,_,HJN.out,by go_num,HM2.out⟩
          case measure=>simp[RowKit.intOf];have:=HJN.out;omega
        · have tj :¬((j:Int)<n0):=by omega
          have KM:=Lib.hid hm.st;have QM:=Lib.hid hm.box
          clear hm MID
          go_wp2_with fail
          go_loopw [14] (fun s14 wr=> ∃(m:Nat) (va vb:Value) (ra rb:List SRef),m≤2∧s14=.int .i64 m∧KpS Kq g kb G' va vb ra rb (rgAt G' [97]) (rgAt G' [98]) w wr∧wr.heap[kb]?=some (.cells #[va,vb] 83 (0,0))) (fun s14 _=>2-(RowKit.intOf s14).toNat)
          case atStart=>exact⟨0,_,_,_,_,by omega,rfl,KM.out,QM.out⟩
          case round=>
           obtain⟨m,va,vb,ra,rb,hm,rfl,hKa,hQa⟩:=hrel
           by_cases hm2:m<2
           · obtain⟨v1,v2,r1,r2,hKs,hQs⟩:=KpSt.kth hm2 hKa hQa;obtain⟨A1,c1,e1,-⟩:=hKs.scs;subst e1;obtain⟨ln,hln⟩:∃ln,r1.length=ln:=⟨_,rfl⟩;obtain⟨L,hL⟩:∃L,L=rgAt G' (qVy m):=⟨_,rfl⟩
             have hna:L.length=ln:=by rw[hL];exact hKs.na.symm.trans hln
             have hl12:ln≤20:=by
              have h:=LM2.out;rw[←qXf hm2,←hL,hna] at h;omega
             have KS:=Lib.hid hKs;have QS:=Lib.hid (show wr.heap[kb]?=some (.cells (boxK m (.slice A1 ln c1) v2) 83 (0,0)) by rw[←hln];exact hQs);have HLN:=Lib.hid hln;have HL:=Lib.hid hL;have HNA:=Lib.hid hna
             clear hKa hQa hKs hQs hln hL hna KM QM
             have tm:(m:Int)<2:=by omega
             have tm0:(0:Int)≤m:=by omega
             have wk1:IntKind.i64.wrap ((m:Int)+1)=(m:Int)+1:=IntWalk.i64_in _ (by omega)
             have h2:(m:Int)+1≤2:=by omega
             have h3:(0:Int)≤(m:Int)+1:=by omega
             have h4:((m:Int)+1).toNat=m+1:=by omega
             have h5:m≤m+1:=by omega
             have h6:m+1≤2:=by omega
             have h7:(m:Int)≤(m:Int)+1:=by omega
             have h10:¬((m:Int)+1<m):=by omega
             have h11:¬((2:Int)<(m:Int)+1):=by omega
             have hnm:(ByteArray.extract ⟨#[97,98]⟩ m (m+1)).data.toList=qVy m:=qWi hm2;have hss:(ByteArray.extract ⟨#[97,98]⟩ m (m+1)).size≤100000:=qV9
             have HNM:=Lib.hid hnm;have HSS:=Lib.hid hss
             clear hnm hss
             go_wp2_with fail
             have hch:=qV1 g G' _ wr HSS.out KS.out.rg;rw[HNM.out,←HL.out] at hch;refine hch.mono ?_;clear hch;rintro en w3 ⟨v',rs,rfl,hlen,hst⟩;obtain⟨A5,c5,rfl,-,-,hscs⟩:=hst.scs hlen;have hrl:rs.length=ln:=hlen.trans HNA.out;rw[hrl]
             have K3:=Lib.hid (KS.out.to hst.bel);have Q3:=Lib.hid (qAa QS.out hst.bel);have N3:=Lib.hid hscs;have HRL:=Lib.hid hrl
             clear hst hscs hlen hrl KS QS;have y0:=cell_of_block (i:=m) (v:=.slice A1 ln c1) Q3.out (qWb hm2 _ _)
             have hne:((ln:Int) != ln)=false:=by simp
             go_wp2_with fail
             clear y0 hne h2 h3 h4 h5 h6 h7 h10 h11 wk1
             go_loopw [16] (fun s16 wr=> ∃j:Nat,j≤ln∧s16=.int .i64 j∧KpS Kq g kb G' (.slice A1 r1.length c1) v2 r1 r2 (rgAt G' (qVy m)) (rgAt G' (qVy (1-m))) w wr∧wr.heap[kb]?=some (.cells (boxK m (.slice A1 ln c1) v2) 83 (0,0))∧qBl wr wr.heap.size A5 rs L) (fun s16 _=>ln-(RowKit.intOf s16).toNat)
             case atStart=>exact⟨0,Nat.zero_le _,rfl,K3.out,Q3.out,N3.out⟩
             case round=>
              obtain⟨j,hj,rfl,hK5,hQ5,hN5⟩:=hrel
              by_cases hjl:j<ln
              · have tj:(j:Int)<ln:=by omega
                have tj0:(0:Int)≤j:=by omega
                have wj1:IntKind.i64.wrap ((j:Int)+1)=(j:Int)+1:=IntWalk.i64_in _ (by omega);obtain⟨t,ht⟩:∃t,L[j]?=some t:=⟨_,List.getElem?_eq_getElem (by rw[HNA.out];exact hjl)⟩;obtain⟨rn,hrn⟩:∃t,rs[j]?=some t:=⟨_,List.getElem?_eq_getElem (by rw[HRL.out];exact hjl)⟩;obtain⟨rk,hrk⟩:∃t,r1[j]?=some t:=⟨_,List.getElem?_eq_getElem (by rw[HLN.out];exact hjl)⟩;obtain⟨g5,o5,e5,tn⟩:=hN5.at_ hrn;obtain⟨A1',c1',e1,hsc1⟩:=hK5.scs;obtain⟨g1,o1,e1',tk'⟩:=hsc1.at_ hrk
                have hgt:qHj G' (qVy m) ((j:Int)+1)=(t,0):=by
                 rw[qWh (by rw[←HL.out];intro e;have:=HNA.out;rw[e] at this;simp at this;omega) (by omega) (by rw[←HL.out,HNA.out];omega),←HL.out,show((j:Int)+1-1).toNat=j by omega,List.getD_eq_getElem?_getD,ht];rfl
                have hlk:=hsc1.each j rk t hrk (by rw[←HL.out];exact ht);have hlnn:=hN5.each j rn t hrn ht
                cases e1
                subst e5;subst e1'
                have TN0:=Lib.hid tn;have TK0:=Lib.hid tk';have HGT:=Lib.hid hgt;have LK0:=Lib.hid hlk;have LN0:=Lib.hid hlnn;have K5:=Lib.hid hK5;have Q5:=Lib.hid hQ5;have N5:=Lib.hid hN5
                clear tn tk' hgt hlk hlnn hK5 hQ5 hN5 ht hrn hrk hsc1 K3 Q3 N3;have wk1:IntKind.i64.wrap ((m:Int)+1)=(m:Int)+1:=IntWalk.i64_in _ (by omega)
                have h2:(m:Int)+1≤2:=by omega
                have h3:(0:Int)≤(m:Int)+1:=by omega
                have h4:((m:Int)+1).toNat=m+1:=by omega
                have h5:m≤m+1:=by omega
                have h6:m+1≤2:=by omega
                have h7:(m:Int)≤(m:Int)+1:=by omega
                have h10:¬((m:Int)+1<m):=by omega
                have h11:¬((2:Int)<(m:Int)+1):=by omega
                go_wp2_with fail
                have hget:=qHb g G' _ ((j:Int)+1) wr HSS.out K5.out.rg (by omega);rw[HNM.out,HGT.out] at hget;refine hget.mono ?_;clear hget;rintro en w6 ⟨rg,rfl,b6,t6,-,-⟩;obtain⟨X6,hX6⟩:∃X,X=w6.alloc (.cells #[.slice rg.a rg.n rg.c,.slice rg.b rg.m rg.d] 33):=⟨_,rfl⟩
                have bX6:Below w6.heap.size w6 X6:=by rw[hX6];exact(Below.refl _ _).alloc (Nat.le_refl _) _
                have qX6:X6.heap[w6.heap.size]?=some (.cells #[.slice rg.a rg.n rg.c,.slice rg.b rg.m rg.d] 33 (0,0)):=by rw[hX6];exact qAf _ _
                have bb6:=b6.trans (bX6.mono b6.size)
                have K8:=Lib.hid (K5.out.to bb6);have Q8:=Lib.hid (qAa Q5.out bb6);have N8:=Lib.hid (N5.out.to bb6);have QG:=Lib.hid qX6;have LG:=Lib.hid (t6.lay.to bX6);have LK:=Lib.hid (LK0.out.to bb6);have LN:=Lib.hid (LN0.out.to bb6);have TN:=Lib.hid ((TN0.out.below bb6).more bb6.size);have TK:=Lib.hid ((TK0.out.below bb6).more bb6.size)
                clear b6 t6 bX6 qX6 bb6 K5 Q5 N5 LK0 LN0 TN0 TK0 h2 h3 h4 h5 h6 h7 h10 h11 wk1 wj1
                go_upto_region 26 with fail
                rw[←hX6]
                generalize w6.heap.size=bg at QG ⊢
                clear hX6
                refine qAk [isV (.slice (some ⟨g5,o5,none⟩) ln c5),isV (.int .i64 (j:Nat)),isV (.pointer (some ⟨g5,o5+j*2,none⟩)),isV (.agg #[.slice rn.a rn.n rn.c,.slice rn.b rn.m rn.d]),isV (.int .i64 (m:Nat)),isV (.pointer (some ⟨kb,m,none⟩)),isV (.slice (some ⟨g1,o1,none⟩) ln c1),isV (.int .i64 (j:Nat)),isV (.pointer (some ⟨g1,o1+j*2,none⟩)),isV (.agg #[.slice rk.a rk.n rk.c,.slice rk.b rk.m rk.d]),isV (.bool true),isV (.bool false),isV (.bool false),isV (.int .i64 0),isV (.bool false),isV (.bool false),isV (.bool false),isV (.agg #[.slice rg.a rg.n rg.c,.slice rg.b rg.m rg.d]),isV (.slice (some ⟨g5,o5,none⟩) ln c5),isV (.int .i64 (j:Nat)),isV (.pointer (some ⟨g5,o5+j*2,none⟩)),isV (.agg #[.slice rn.a rn.n rn.c,.slice rn.b rn.m rn.d]),isV (.bool true),isV (.bool false),isV (.bool false)] (by kernel_rfl) (by kernel_rfl) ?_ ?_
                ·
                  refine Rel.rb ?_;refine Rel.rb ?_;refine rf (fun ev wo E=>?_) ?_
                  · have e117:ev (.tmp 117)=.slice (some ⟨g5,o5,none⟩) ln c5:=E.e 0;have e118:ev (.tmp 118)=.int .i64 (j:Nat):=E.e 1;have h1:=tj0;have h2:=tj;have h3:=hjl;go_simp;exact rv
                  refine rf (fun ev wo E=>?_) ?_
                  · have e119:ev (.tmp 119)=.pointer (some ⟨g5,o5+j*2,none⟩):=E.e 0;have hx0:=(E.bel.cell TN.out.lt).trans TN.out.c0;have hx1:=(E.bel.cell TN.out.lt).trans TN.out.c1;go_simp;exact rv
                  refine Rel.rb ?_;refine rf (fun ev wo E=>?_) ?_
                  · have e6:ev (.tmp 6)=.pointer (some ⟨kb,0,none⟩):=(E.base 6 rfl).trans rfl;have e121:ev (.tmp 121)=.int .i64 (m:Nat):=E.e 0;have h1:=tm;have h2:=hm2;go_simp;exact rv
                  refine rf (fun ev wo E=>?_) ?_
                  · have e122:ev (.tmp 122)=.pointer (some ⟨kb,m,none⟩):=E.e 0;have hx0:=cell_of_block (i:=m) (qAa Q8.out E.bel) (qWb hm2 _ _);go_simp;exact rv
                  refine Rel.rb ?_;refine rf (fun ev wo E=>?_) ?_
                  · have e123:ev (.tmp 123)=.slice (some ⟨g1,o1,none⟩) ln c1:=E.e 0;have e124:ev (.tmp 124)=.int .i64 (j:Nat):=E.e 1;have h1:=tj0;have h2:=tj;have h3:=hjl;go_simp;exact rv
                  refine rf (fun ev wo E=>?_) ?_
                  · have e125:ev (.tmp 125)=.pointer (some ⟨g1,o1+j*2,none⟩):=E.e 0;have hx0:=(E.bel.cell TK.out.lt).trans TK.out.c0;have hx1:=(E.bel.cell TK.out.lt).trans TK.out.c1;go_simp;exact rv
                  refine rf (fun ev wo E=>?_) ?_
                  · have e120:ev (.tmp 120)=.agg #[.slice rn.a rn.n rn.c,.slice rn.b rn.m rn.d]:=E.e 0;have e126:ev (.tmp 126)=.agg #[.slice rk.a rk.n rk.c,.slice rk.b rk.m rk.d]:=E.e 1;have ef:=E.func;have hsm:=qWc rn rk t t true ⟨fun _=>rfl,fun _=>rfl⟩ wo (LN.out.to E.bel) (LK.out.to E.bel);go_simp;refine qAe (hsm.mono ?_);rintro e w' ⟨rfl,hb⟩;exact⟨_,rfl,hb,rfl⟩
                  refine rf (fun ev wo E=>?_) ?_
                  · have e127:ev (.tmp 127)=.bool true:=E.e 0;go_simp;exact rv
                  refine rc 0 ?_;refine rbq 0 ?_;refine rq 1 (fun ev wo E=>?_) ?_
                  · have e130:ev (.tmp 130)=.int .i64 0:=E.e 0;have ec:=E.const;go_simp;exact rv
                  refine rf (fun ev wo E=>?_) ?_
                  · have e129:ev (.tmp 129)=.bool false:=E.e 0;have e131:ev (.tmp 131)=.bool false:=E.e 1;have ec:=E.const;go_simp;exact rv
                  refine rc 0 ?_;refine rq 0 (fun ev wo E=>?_) ?_
                  · have e17:ev (.tmp 17)=.pointer (some ⟨bg,0,none⟩):=(E.base 17 rfl).trans rfl;have hx0:=cell_of_block (i:=0) (qAa QG.out E.bel) rfl;have hx1:=cell_of_block (i:=1) (qAa QG.out E.bel) rfl;go_simp;exact rv
                  refine rbq 0 ?_;refine rbq 0 ?_;refine rq 2 (fun ev wo E=>?_) ?_
                  · have e135:ev (.tmp 135)=.slice (some ⟨g5,o5,none⟩) ln c5:=E.e 0;have e136:ev (.tmp 136)=.int .i64 (j:Nat):=E.e 1;have h1:=tj0;have h2:=tj;have h3:=hjl;go_simp;exact rv
                  refine rq 1 (fun ev wo E=>?_) ?_
                  · have e137:ev (.tmp 137)=.pointer (some ⟨g5,o5+j*2,none⟩):=E.e 0;have hx0:=(E.bel.cell TN.out.lt).trans TN.out.c0;have hx1:=(E.bel.cell TN.out.lt).trans TN.out.c1;go_simp;exact rv
                  refine rq 2 (fun ev wo E=>?_) ?_
                  · have e134:ev (.tmp 134)=.agg #[.slice rg.a rg.n rg.c,.slice rg.b rg.m rg.d]:=E.e 0;have e138:ev (.tmp 138)=.agg #[.slice rn.a rn.n rn.c,.slice rn.b rn.m rn.d]:=E.e 1;have ef:=E.func;have hsm:=qWc rg rn t t true ⟨fun _=>rfl,fun _=>rfl⟩ wo (LG.out.to E.bel) (LN.out.to E.bel);go_simp;refine qAe (hsm.mono ?_);rintro e w' ⟨rfl,hb⟩;exact⟨_,rfl,hb,rfl⟩
                  refine rq 1 (fun ev wo E=>?_) ?_
                  · have e139:ev (.tmp 139)=.bool true:=E.e 0;go_simp;exact rv
                  refine rf (fun ev wo E=>?_) ?_
                  · have e133:ev (.tmp 133)=.bool false:=E.e 0;have e140:ev (.tmp 140)=.bool false:=E.e 1;have ec:=E.const;go_simp;exact rv
                  trivial
                · intro wz bz
                  (iterate 25 rintro _ rfl)
                  have K9:=Lib.hid (K8.out.to bz);have Q9:=Lib.hid (qAa Q8.out bz);have N9:=Lib.hid (N8.out.to bz)
                  clear bz K8 Q8 N8 QG LG LK LN TN TK;simp only[qA1];go_simp
                  go_wp2_with fail
                  exact⟨⟨j+1,by omega,by go_num,K9.out,Q9.out,N9.out⟩,by simp[RowKit.intOf];omega⟩
              · have tj:¬((j:Int)<ln):=by omega
                obtain⟨va2,vb2,ra2,rb2,hs1,hs2,-,-⟩:=KpSt.std hm2 (P0:=fun _=>True) hK5 (by rw[HLN.out];exact hQ5) (fun _ _=>trivial) (fun _ _=>trivial)
                have S1:=Lib.hid hs1;have S2:=Lib.hid hs2
                clear hs1 hs2 hK5 hQ5 hN5 K3 Q3 N3
                go_wp2_with fail
                exact⟨⟨m+1,va2,vb2,ra2,rb2,by omega,by go_num,S1.out,S2.out⟩,by simp[RowKit.intOf];omega⟩
           · have tm:¬((m:Int)<2):=by omega
             have KE:=Lib.hid hKa;have QE:=Lib.hid hQa
             clear hKa hQa KM QM
             go_wp2_with fail
             exact⟨⟨k+1,Kq,G',va,vb,ra,rb,by omega,by omega,by go_num,KE.out,QE.out,LM2.out⟩,by simp[RowKit.intOf];omega⟩
    · have tk2:¬((k:Int)<12):=by omega
      go_wp2_with fail
      refine(qHc wr (HE.out.below K.out.bel)).mono ?_;rintro en w8 ⟨rfl,b8⟩;have K8:=Lib.hid (K.out.to b8);clear b8
      go_wp2_with fail
      go_ret
      exact⟨rfl,K8.out.bel⟩
  · have tk:¬((k:Int)<n):=by omega
    go_wp2_with fail
    refine(qHc wr (HE.out.below K.out.bel)).mono ?_;rintro en w8 ⟨rfl,b8⟩;have K8:=Lib.hid (K.out.to b8);clear b8
    go_wp2_with fail
    go_ret
    exact⟨rfl,K8.out.bel⟩
end Go.Proofs.YtainiaighnjpfaaGreatDoor
