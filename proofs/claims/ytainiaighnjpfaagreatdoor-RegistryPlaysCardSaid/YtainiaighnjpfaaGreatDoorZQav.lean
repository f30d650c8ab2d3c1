/- Registry's laws: RegistryPlays, walked. The laid variables, as the cells' contracts ask them; a world for the witness. -/
import Derived.Test.YtainiaighnjpfaaGreatDoorZQar
import Derived.Test.YtainiaighnjpfaaGreatDoorZQau
import Derived.Lib.LaidU8
import Derived.Lib.LaidTab
import Derived.Stop.LaidErr
import Derived.Deep.DeepHandedRow
import Derived.ShutString
import Derived.ProofKit
set_option linter.unusedVariables false
set_option linter.unusedSimpArgs false
namespace Go.Ms
open Go.RowKit Go.Lib Go.Maps
theorem qN9 {w:World} {B:Nat} {A:Option Addr} {xs:List Value} (h:Lay w B A xs):Ext w B A xs:=fun j u hu=>by
 obtain⟨g,o,e,hl,hc⟩:=h j u hu;exact⟨⟨g,o,none⟩,e,hl,by rw[Addr.add_lit];exact hc⟩
structure qL7 (tD tC tI tE:TypeId) (bs lo:Nat) (kd fr tt:Int) (T:ByteArray) (rd:SRef) (sd:Sc) (E:Option Addr) (p c:Nat) (row:List Cl) (W:World):Prop where
  box:W.heap[bs]?=some (.cells #[.int .i64 kd,.int .i64 fr,.int .i64 tt,.string T,.slice rd.a rd.n rd.c,.slice rd.b rd.m rd.d,.slice E p c] tD (0,0))
  sc:ScO tC tI lo W rd sd
  rw':OwnC W lo tE (.slice E p c) row
section
variable {tD tC tI tE T':TypeId} {bs lo p c:Nat} {kd fr tt:Int} {T:ByteArray} {rd:SRef} {sd:Sc} {E:Option Addr} {row:List Cl} {W W':World}
theorem qL7.to (h:qL7 tD tC tI tE bs lo kd fr tt T rd sd E p c row W) (hb:Below W.heap.size W W'):qL7 tD tC tI tE bs lo kd fr tt T rd sd E p c row W':=⟨bk_ h.box hb,h.sc.to hb,own_below h.rw' hb⟩
theorem qL7.eff (h:qL7 tD tC tI tE bs lo kd fr tt T rd sd E p c row W) (he:EffT T' W W') (n1:tD≠T') (n2:tC≠T') (n3:tI≠T') (n4:tE≠T'):qL7 tD tC tI tE bs lo kd fr tt T rd sd E p c row W':=⟨he.keep h.box n1,h.sc.eff he n2 n3,EffT.row h.rw' he n4⟩
theorem qL7.rowl (h:qL7 tD tC tI tE bs lo kd fr tt T rd sd E p c row W) (hp:p≤40) (hz:∀c∈row,c.2.2.size≤100000):qIm W E p row:=⟨h.rw'.lay.1,by omega,h.rw'.lay.2,hz⟩
end
structure PlZ (P:Program) (tS tN tR uR uC:TypeId) (g m B:Nat) (G:Rg) (w W:World):Prop where
  pl:∃(Kr Km:Nat→Prop) (vn vc:Value) (H:List ChR),PlX P tS tN tR uR uC Kr Km g m B vn vc H G G W
  bel:Below w.heap.size w W
  sz:∀p∈G,∀s∈p.2,ScR s.1
theorem PlZ.to {P:Program} {tS tN tR uR uC:TypeId} {g m B:Nat} {G:Rg} {w W W':World} (h:PlZ P tS tN tR uR uC g m B G w W) (hb:Below W.heap.size W W'):PlZ P tS tN tR uR uC g m B G w W':=by
 obtain⟨Kr,Km,vn,vc,H,hp⟩:=h.pl;exact⟨⟨Kr,Km,vn,vc,H,hp.to hb⟩,h.bel.trans (hb.mono h.bel.size),h.sz⟩
theorem PlX.belM {P:Program} {tS tN tR uR uC:TypeId} {Kr Km:Nat→Prop} {g m B c:Nat} {vn vc:Value} {H:List ChR} {G G':Rg} {w W W':World} (h:PlX P tS tN tR uR uC Kr Km g m B vn vc H G G' W) (hb:Below w.heap.size w W) (hB:w.heap.size≤B) (hg:W.grownBy W' (some c)) (hw:c=m∨vc.ownBlock=some c):Below w.heap.size w W':=by
 refine hb.grown hg hb.size (fun k e=>?_);cases e;rcases hw with rfl|e
 · exact Nat.le_trans hB h.lm.hB
 · exact Nat.le_trans hB (World.ownsRow.lt h.lm.co _ e).1
end Go.Ms
namespace Go.Proofs.YtainiaighnjpfaaGreatDoor
open Go.RowKit Go.Ms Go.Lib Go.Maps Go.WideMaps Go.Rel
abbrev PlW (g m B:Nat) (G:Rg) (w W:World):Prop:=PlZ Tryz.prog 9 87 71 112 36 g m B G w W
abbrev zA7 (bs lo:Nat) (kd fr tt:Int) (T:ByteArray) (rd:SRef) (sd:Sc) (E:Option Addr) (p c:Nat) (row:List Cl) (W:World):Prop:=qL7 56 45 3 43 bs lo kd fr tt T rd sd E p c row W
set_option maxRecDepth 100000 in
set_option maxHeartbeats 8000000 in
theorem qD3 (A :Option Addr) (n c:Nat) (L:List DoV) (w:World) (hs:qF9 w A n L) (hE:Env w) :
    Calls Tryz.prog 6 #[.slice A n c] w fun e w'=>e=.returned (.bool true)∧Below w.heap.size w w':=by
 have HS:=hh_ hs;have HE:=hh_ (fun (W:World) (hb:Below w.heap.size w W)=>hE.below hb);clear hs hE;go_enter Tryz.func6,Tryz.ntmps6;go_wp2_with fail
 refine(qJx w).mono ?_;rintro en w1 ⟨g,rfl,l1,b1,o1⟩;have L1:=hh_ l1;have B1:=hh_ b1;have O1:=hh_ o1;clear l1 b1 o1;go_wp2_with fail
 refine(qSl (fun _=>False) w1).mono ?_;rintro en w2 ⟨m,rfl,l2,b2,hm⟩;obtain⟨B,hB⟩:∃B,B=w1.heap.size:=⟨_,rfl⟩;have hP:PlW g m B [] w w2:=⟨⟨fun b=>b<w1.heap.size,fun _=>False,_,_,[],L1.out.below.to b2,by rw[hB];exact l2,by omega,fun b e=>by simp[Value.ownBlock] at e,fun e=>e,fun b e=>by simp[Value.ownBlock] at e,fun e=>e⟩,B1.out.trans (b2.mono B1.out.size),fun p hp=>by cases hp⟩;have PZ:=hh_ hP;have HLO:=hh_ (show w.heap.size≤B by rw[hB];exact B1.out.size);clear hP l2 b2 hm hB L1 B1;go_wp2_with fail
 go_loopw [5] (fun s5 wr=> ∃(k:Nat) (G:Rg),k≤n∧k≤90∧s5=.int .i64 k∧PlW g m B G w wr) (fun s5 _=>90-(RowKit.intOf s5).toNat)
 case atStart=>exact⟨0,_,Nat.zero_le _,by omega,rfl,PZ.out⟩
 case round =>
  obtain⟨k,G,hk,hk90,rfl,hK⟩:=hrel;have K:=hh_ hK;clear hK PZ;have hnn:=HS.out.nn;by_cases hk1:k<n
  · have tk : (k:Int)<n:=by omega
    have tk0:(0:Int)≤k:=by omega
    by_cases hk2:k<90
    · have tk2 :(k:Int)<90:=by omega
      obtain⟨ga,oa,⟨kd,fr,tt,S0,r0,s0,E0,p0,c0,row0⟩,eA,hd,ha⟩:=(HS.out.to K.out.bel).at_ hk1;subst eA;have a0:=ha.c0;have a1:=ha.c1;have a2:=ha.c2;have a3:=ha.c3;have a4:=ha.c4;have a5:=ha.c5;have a6:=ha.c6;have HKD:=hh_ hd.kd;have HFR:=hh_ hd.fr;have HTT:=hh_ hd.tt;simp only at a0 a1 a2 a3 a4 a5 a6 HKD HFR HTT;have hfw:=qR4 wr kd fr tt S0 r0.a r0.b E0 r0.n r0.c r0.m r0.d p0 c0 s0.1 s0.2 row0 hd.S hd.sc.nc hd.sc.cm hd.sc.ln hd.sc.la hd.sc.md hd.sc.dm hd.sc.lm hd.sc.lb hd.rw'.nc hd.rw'.cm hd.rw'.ln hd.rw'.la;have hzr:ScR ((s0.1.take 34).map qEp):=qY9 (ks:=s0.2) hd.sc.ok;have hrow:=qU9 hd.rw'.ok;have hln:min r0.n 34=((s0.1.take 34).map qEp).length:=by have:=hd.sc.ln;simp only at this;rw[List.length_map,List.length_take];omega
      have hlm:min r0.m 10=(s0.2.take 10).length:=by have:=hd.sc.lm;simp only at this;rw[List.length_take];omega
      have HFW:=hh_ hfw;have HZR:=hh_ hzr;have HROW:=hh_ hrow;have HLN:=hh_ hln;have HLM:=hh_ hlm;clear hfw hzr hrow hln hlm hd ha;obtain⟨tS,tn,tc,tB,tm,td⟩:=r0;simp only at a4 a5 HFW HLN HLM;go_wp2_with fail
      refine HFW.out.mono ?_;clear HFW a0 a1 a2 a3 a4 a5 a6;rintro en w3 ⟨A',c',B',d',E',f',rfl,o1,o2,o3,b3⟩;obtain⟨T,hT⟩:∃T,T=S0.extract 0 (min S0.size 40):=⟨_,rfl⟩;have hT40:T.size≤100000:=by rw[hT,ByteArray.size_extract];omega
      obtain⟨N,hN⟩:∃N,N=min tn 34:=⟨_,rfl⟩;obtain⟨M,hM⟩:∃M,M=min tm 10:=⟨_,rfl⟩;obtain⟨Q,hQ⟩:∃Q,Q=min p0 40:=⟨_,rfl⟩;have hN34:N≤34:=by omega
      have hM10:M≤10:=by omega
      have hQ40:Q≤40:=by omega
      rw[←hN] at o1 HLN;rw[←hM] at o2 HLM;rw[←hQ] at o3;rw[←hT,←hN,←hM,←hQ];obtain⟨sd,hsd⟩:∃sd:Sc,sd=((s0.1.take 34).map qEp,s0.2.take 10):=⟨_,rfl⟩;obtain⟨row,hrow⟩:∃row,row=(row0.take 40).map qIp:=⟨_,rfl⟩
      have hsc3:ScO 45 3 wr.heap.size w3 ⟨A',N,c',B',M,d'⟩ sd:=by
       rw[hsd];exact⟨o1,o2,qYw o1 o2 HLN.out HLM.out (by show N≤100000;omega) (by show M≤100000;omega)⟩
      rw[←hrow] at o3;obtain⟨X,hX⟩:∃X,X=w3.alloc (.cells #[.int .i64 kd,.int .i64 fr,.int .i64 tt,.string T,.slice A' N c',.slice B' M d',.slice E' Q f'] 56):=⟨_,rfl⟩;have bX:Below w3.heap.size w3 X:=by rw[hX];exact br_.alloc le_ _
      have qX:X.heap[w3.heap.size]?=some (.cells #[.int .i64 kd,.int .i64 fr,.int .i64 tt,.string T,.slice A' N c',.slice B' M d',.slice E' Q f'] 56 (0,0)):=by rw[hX];exact qAd _ _
      have HD:=hh_ (show zA7 w3.heap.size wr.heap.size kd fr tt T ⟨A',N,c',B',M,d'⟩ sd E' Q f' row X from⟨qX,hsc3.to bX,own_below o3 bX⟩);have KX:=hh_ (K.out.to (b3.trans (bX.mono b3.size)));have HZS:=hh_ (show ScR sd.1 by rw[hsd];exact HZR.out);have HRO:=hh_ (show CsOk row∧∀c∈row,c.2.2.size≤100000 by rw[hrow];exact HROW.out);have HT:=hh_ hT40;have HLB:=hh_ (show w.heap.size≤wr.heap.size from K.out.bel.size);clear bX qX hsc3 o1 o2 o3 b3 hT hN hM hQ hsd hrow hT40 HZR HROW HLN HLM K;go_upto_region 6 with fail
      rw[←hX];generalize w3.heap.size=bs at HD ⊢;clear hX;generalize wr.heap.size=lo at HD HLB ⊢;have y0:=cb_ 0 (v:=.int .i64 kd) HD.out.box rfl;go_wp2_with fail
      refine(qQp kd 4 HKD.out.1 HKD.out.2 (by omega) (by omega) X).mono ?_;rintro en w4 ⟨rfl,b4⟩;obtain⟨q,hq⟩:∃q,q=kd%4:=⟨_,rfl⟩;have q0:0≤q∧q<4:=by omega
      rw[←hq];clear hq y0;have H4:=hh_ (HD.out.to b4);have K4:=hh_ (KX.out.to b4);clear b4 HD KX;go_upto_block 2 with fail
      go_cut [] (fun wx=> ∃G',PlW g m B G' w wx∧wx.heap[bs]?=some (.cells #[.int .i64 kd,.int .i64 fr,.int .i64 tt,.string T,.slice A' N c',.slice B' M d',.slice E' Q f'] 56 (0,0)))
      case first=>
       by_cases hq1:q=0∨q=1
       · go_upto_if 101 with fail
         go_cut [101] (fun s101 wx=>s101=.bool true∧wx=w4)
         case first=>
          rcases hq1 with rfl|rfl
          · go_wp2_with fail
            go_meet;exact⟨rfl,rfl⟩
          · go_wp2_with fail
            go_meet;exact⟨rfl,rfl⟩
         case rest=>
         obtain⟨rfl,hw⟩:=hcut;replace hw:=hw.symm;subst hw;clear hq1;have y4:=cb_ 4 (v:=.slice A' N c') H4.out.box rfl;have y5:=cb_ 5 (v:=.slice B' M d') H4.out.box rfl;have HCP:=hh_ (qEg ⟨A',N,c',B',M,d'⟩ sd w4 H4.out.sc.ty.lay);go_wp2_with fail
         refine HCP.out.mono ?_;rintro en w5 ⟨⟨Ar,nr,cr,Br,mr,dr⟩,rfl,b5,t5,o51,o52⟩;simp only at o51 o52;obtain⟨Y,hY⟩:∃Y,Y=w5.alloc (.cells #[.slice Ar nr cr,.slice Br mr dr] 33):=⟨_,rfl⟩;have bY:Below w5.heap.size w5 Y:=by rw[hY];exact br_.alloc le_ _
         have qY:Y.heap[w5.heap.size]?=some (.cells #[.slice Ar nr cr,.slice Br mr dr] 33 (0,0)):=by rw[hY];exact qAd _ _
         have bb:=b5.trans (bY.mono b5.size);have hsr:ScO 45 3 w4.heap.size Y ⟨Ar,nr,cr,Br,mr,dr⟩ sd:=(ScO.mk o51 o52 t5).to bY;obtain⟨Kr,Km,vn,vc,H,hpl⟩:=K4.out.pl;have hfr:=hpl.fresh bb;obtain⟨Kq,hKq⟩:∃Kq:Nat→Prop,Kq=fun b=>(Kr b∧b<w4.heap.size)∨Y.heap.size≤b:=⟨_,rfl⟩
         obtain⟨Kn,hKn⟩:∃Kn:Nat→Prop,Kn=fun b=>(Km b∧b<w4.heap.size)∨Y.heap.size≤b:=⟨_,rfl⟩
         rw[←hKq,←hKn] at hfr;have hk1:∀b,Y.heap.size≤b→Kq b:=fun b h=>by rw[hKq];exact .inr h
         have hk2:∀b,Y.heap.size≤b→Kn b:=fun b h=>by rw[hKn];exact .inr h
         have hk3:∀b,w4.heap.size≤b→b<Y.heap.size→¬Kq b∧¬Kn b:=fun b h1 h2=>by
          rw[hKq,hKn];refine⟨fun k=>?_,fun k=>?_⟩ <;> (rcases k with k|k <;> omega)
         have hsa:∀x,(Value.slice Ar nr cr).ownBlock=some x→¬Kq x∧¬Kn x:=fun x e=>hk3 x (hsr.ge.1 x e) (hsr.lt.1 x e)
         have hsb:∀x,(Value.slice Br mr dr).ownBlock=some x→¬Kq x∧¬Kn x:=fun x e=>hk3 x (hsr.ge.2 x e) (hsr.lt.2 x e)
         have PX:=hh_ hfr;have SR:=hh_ hsr;have QY:=hh_ qY;have HK1:=hh_ hk1;have HK2:=hh_ hk2;have HSA:=hh_ hsa;have HSB:=hh_ hsb;have H5:=hh_ (H4.out.to bb);have BL5:=hh_ (K4.out.bel.trans (bb.mono K4.out.bel.size));have HSZ:=hh_ K4.out.sz;have HLW:=hh_ (show w.heap.size≤w4.heap.size from K4.out.bel.size);clear b5 t5 o51 o52 bY qY bb hsr hpl hfr hKq hKn hk1 hk2 hk3 hsa hsb y4 y5 HCP H4 K4;go_upto_region 21 with fail
         rw[←hY];generalize w5.heap.size=b7 at QY ⊢;generalize w4.heap.size=lo4 at SR HLW ⊢;clear hY;have y3:=cb_ 3 (v:=.string T) H5.out.box rfl;have z0:=cb_ 0 (v:=.slice Ar nr cr) QY.out rfl;have z1:=cb_ 1 (v:=.slice Br mr dr) QY.out rfl;go_wp2_with fail
         obtain⟨G',v,e,hgo⟩:∃G' v e,qBf G T.data.toList sd=(G',v,e):=⟨_,_,_,rfl⟩;have had:=qK4 (Kp:=Kq) g G T ⟨Ar,nr,cr,Br,mr,dr⟩ sd Y HT.out PX.out.lr SR.out.ty.lay HZS.out.sz (HE.out _ BL5.out) HK1.out;rw[hgo] at had;refine had.mono ?_;rintro en w6 ⟨rfl,hl6,hg6⟩;have he6:=PX.out.effR hg6;have HG6:=hh_ hg6.size;have P6:=hh_ (PX.out.addR hl6 hg6 (by decide) (by decide) (by decide));have H6:=hh_ (H5.out.eff he6 (by decide) (by decide) (by decide) (by decide));have SR6:=hh_ (SR.out.eff he6 (by decide) (by decide));have Q6:=hh_ (he6.keep QY.out (by decide));have BL6:=hh_ (qFp BL5.out hg6 BL5.out.size O1.out);have HGO:=hh_ hgo;clear had hl6 hg6 he6 hgo y3 z0 z1 PX H5 SR QY BL5;have y3:=cb_ 3 (v:=.string T) H6.out.box rfl;have y4:=cb_ 4 (v:=.slice A' N c') H6.out.box rfl;have y5:=cb_ 5 (v:=.slice B' M d') H6.out.box rfl;go_wp2_with fail
         have had:=qTd (Kp:=Kn) B m vn vc H G T ⟨A',N,c',B',M,d'⟩ sd w6 HT.out P6.out.lm H6.out.sc.ty.lay HZS.out (qIx HSZ.out _) (fun b h=>HK2.out b (Nat.le_trans HG6.out h)) P6.out.mm P6.out.mc;rw[HGO.out] at had;refine had.mono ?_;rintro en w7 ⟨rfl,Km',vn',vc',H',cx,hk',hl7,hm7,hc7,hg7,hw7,hn7⟩;have he7:=P6.out.effM hg7 hw7;have P7:=hh_ (P6.out.addM hk' hl7 hm7 hc7 hg7 hw7 hn7 (by decide) (by decide) (by decide) (by decide));have H7:=hh_ (show zA7 bs lo kd fr tt T ⟨A',N,c',B',M,d'⟩ sd E' Q f' row w7 from by rcases he7 with he|he <;> exact H6.out.eff he (by decide) (by decide) (by decide) (by decide));have SR7:=hh_ (show ScO 45 3 lo4 w7 ⟨Ar,nr,cr,Br,mr,dr⟩ sd from by rcases he7 with he|he <;> exact SR6.out.eff he (by decide) (by decide));have Q7:=hh_ (show w7.heap[b7]?=some (.cells #[.slice Ar nr cr,.slice Br mr dr] 33 (0,0)) from by rcases he7 with he|he <;> exact he.keep Q6.out (by decide));have BL7:=hh_ (P6.out.belM BL6.out HLO.out hg7 hw7);have HKM:=hh_ hk';clear had hk' hl7 hm7 hc7 hg7 hw7 hn7 he7 y3 y4 y5 P6 H6 SR6 Q6 BL6;have y4:=cb_ 4 (v:=.slice A' N c') H7.out.box rfl;have y5:=cb_ 5 (v:=.slice B' M d') H7.out.box rfl;have z0:=cb_ 0 (v:=.slice Ar nr cr) Q7.out rfl;have z1:=cb_ 1 (v:=.slice Br mr dr) Q7.out rfl;go_wp2_with fail
         refine(qEj ⟨Ar,nr,cr,Br,mr,dr⟩ ⟨A',N,c',B',M,d'⟩ sd sd true ⟨fun _=>rfl,fun _=>rfl⟩ w7 SR7.out.ty.lay H7.out.sc.ty.lay).mono ?_;rintro en w8 ⟨rfl,b8⟩;have P8:=hh_ (P7.out.to b8);have H8:=hh_ (H7.out.to b8);have SR8:=hh_ (SR7.out.to b8);have BL8:=hh_ (BL7.out.trans (b8.mono BL7.out.size));have z0:=cb_ 0 (v:=.slice Ar nr cr) (bk_ Q7.out b8) rfl;have z1:=cb_ 1 (v:=.slice Br mr dr) (bk_ Q7.out b8) rfl;clear b8 y4 y5 P7 H7 SR7 Q7 BL7;go_wp2_with fail
         refine(qGf w8 lo4 lo4 ⟨Ar,nr,cr,Br,mr,dr⟩ sd.1 sd.2 SR8.out.co SR8.out.ki SR8.out.ty.lay.nn SR8.out.ty.lay.mm).mono ?_;rintro en w9 ⟨rfl,wm,g1,g2⟩;have e1:=EffT.own SR8.out.co g1;have oi:=EffT.row SR8.out.ki e1 (by decide);have e2:=EffT.own oi g2;have p1:=P8.out.spoil SR8.out.co g1 (fun x e k=>(HSA.out x e).1 k.1) (fun x e k=>(HSA.out x e).2 (HKM.out x k)) (by decide) (by decide) (by decide) (by decide) (by decide);have p2:=p1.spoil oi g2 (fun x e k=>(HSB.out x e).1 k.1) (fun x e k=>(HSB.out x e).2 (HKM.out x k)) (by decide) (by decide) (by decide) (by decide) (by decide);have bm:=qAh SR8.out.co BL8.out BL8.out.size HLW.out g1;have b9:=qAh oi bm bm.size HLW.out g2;have hall:=qSw HSZ.out (x:=T.data.toList) HZS.out;rw[HGO.out] at hall;have FIN:=hh_ (show ∃G',PlW g m B G' w w9∧w9.heap[bs]?=some (.cells #[.int .i64 kd,.int .i64 fr,.int .i64 tt,.string T,.slice A' N c',.slice B' M d',.slice E' Q f'] 56 (0,0)) from⟨G',⟨⟨_,_,_,_,_,p2⟩,b9,hall⟩,e2.keep (e1.keep H8.out.box (by decide)) (by decide)⟩);clear g1 g2 e1 oi e2 p1 p2 bm b9 hall z0 z1 P8 H8 SR8 BL8;go_wp2_with fail
         go_meet;exact FIN.out
       · obtain⟨Kr,Km,vn,vc,H,hpl⟩:=K4.out.pl;have PX:=hh_ hpl;have HSZ:=hh_ K4.out.sz;have BL4:=hh_ K4.out.bel;clear hpl;by_cases hq2:q=2
         · subst hq2;clear hq1;have y1:=cb_ 1 (v:=.int .i64 fr) H4.out.box rfl;have y3:=cb_ 3 (v:=.string T) H4.out.box rfl;obtain⟨sg,eg,hgg⟩:∃sg eg,qEc G T.data.toList fr=(sg,eg):=⟨_,_,rfl⟩;have hge:=qG6 g G T fr w4 HT.out PX.out.lr HFR.out;rw[hgg] at hge;have HGE:=hh_ hge;have HGG:=hh_ hgg;clear hge hgg;go_wp2_with fail
           refine HGE.out.mono ?_;rintro en w5 ⟨⟨Ar,nr,cr,Br,mr,dr⟩,rfl,b5,t5,o51,o52⟩;simp only at o51 o52;obtain⟨Y,hY⟩:∃Y,Y=w5.alloc (.cells #[.slice Ar nr cr,.slice Br mr dr] 33):=⟨_,rfl⟩;have bY:Below w5.heap.size w5 Y:=by rw[hY];exact br_.alloc le_ _
           have qY:Y.heap[w5.heap.size]?=some (.cells #[.slice Ar nr cr,.slice Br mr dr] 33 (0,0)):=by rw[hY];exact qAd _ _
           have bb:=b5.trans (bY.mono b5.size);have SR:=hh_ (show ScO 45 3 w4.heap.size Y ⟨Ar,nr,cr,Br,mr,dr⟩ sg from(ScO.mk o51 o52 t5).to bY);have QY:=hh_ qY;have BB:=hh_ bb;have H5:=hh_ (H4.out.to bb);clear b5 t5 o51 o52 bY qY bb y1 y3 HGE;go_upto_region 28 with fail
           rw[←hY];generalize w5.heap.size=b12 at QY ⊢;clear hY;have y1:=cb_ 1 (v:=.int .i64 fr) H5.out.box rfl;have y3:=cb_ 3 (v:=.string T) H5.out.box rfl;have hge:=qR6 B m vn vc H G T fr Y (PX.out.lm.to BB.out) HFR.out;rw[HGG.out] at hge;have HGE:=hh_ hge;clear hge;go_wp2_with fail
           refine HGE.out.mono ?_;rintro en w6 ⟨⟨Aq,nq,cq,Bq,mq,dq⟩,rfl,b6,t6,-,-⟩;obtain⟨Z,hZ⟩:∃Z,Z=w6.alloc (.cells #[.slice Aq nq cq,.slice Bq mq dq] 33):=⟨_,rfl⟩;have bZ:Below w6.heap.size w6 Z:=by rw[hZ];exact br_.alloc le_ _
           have qZ:Z.heap[w6.heap.size]?=some (.cells #[.slice Aq nq cq,.slice Bq mq dq] 33 (0,0)):=by rw[hZ];exact qAd _ _
           have bz:=b6.trans (bZ.mono b6.size);have SZ:=hh_ (SR.out.to bz);have QZ:=hh_ (bk_ QY.out bz);have BZ:=hh_ (BB.out.trans (bz.mono BB.out.size));have H6:=hh_ (H5.out.to bz);have TZ:=hh_ (t6.to bZ);have QZ2:=hh_ qZ;clear b6 t6 bZ qZ bz y1 y3 HGE SR QY BB H5;go_upto_region 29 with fail
           rw[←hZ];generalize w6.heap.size=b14 at QZ2 ⊢;clear hZ;have z0:=cb_ 0 (v:=.slice Ar nr cr) QZ.out rfl;have z1:=cb_ 1 (v:=.slice Br mr dr) QZ.out rfl;have z2:=cb_ 0 (v:=.slice Aq nq cq) QZ2.out rfl;have z3:=cb_ 1 (v:=.slice Bq mq dq) QZ2.out rfl;go_wp2_with fail
           refine(qEj ⟨Ar,nr,cr,Br,mr,dr⟩ ⟨Aq,nq,cq,Bq,mq,dq⟩ sg sg true ⟨fun _=>rfl,fun _=>rfl⟩ Z SZ.out.ty.lay TZ.out.lay).mono ?_;rintro en w8 ⟨rfl,b8⟩;have bb:=BZ.out.trans (b8.mono BZ.out.size);have hfr:=PX.out.fresh bb;have hsr:=SZ.out.to b8;have PF:=hh_ hfr;have S8:=hh_ hsr;have H8:=hh_ (H6.out.to b8);have BL8:=hh_ (BL4.out.trans (bb.mono BL4.out.size));have HLA:=hh_ (show ∀x,(Value.slice Ar nr cr).ownBlock=some x→w4.heap.size≤x∧x<w8.heap.size from fun x e=>⟨hsr.ge.1 x e,hsr.lt.1 x e⟩);have HLBB:=hh_ (show ∀x,(Value.slice Br mr dr).ownBlock=some x→w4.heap.size≤x∧x<w8.heap.size from fun x e=>⟨hsr.ge.2 x e,hsr.lt.2 x e⟩);have z0:=cb_ 0 (v:=.slice Ar nr cr) (bk_ QZ.out b8) rfl;have z1:=cb_ 1 (v:=.slice Br mr dr) (bk_ QZ.out b8) rfl;clear b8 bb hfr hsr z2 z3 SZ QZ BZ H6 TZ QZ2;go_wp2_with fail
           refine(qGf w8 w4.heap.size w4.heap.size ⟨Ar,nr,cr,Br,mr,dr⟩ sg.1 sg.2 S8.out.co S8.out.ki S8.out.ty.lay.nn S8.out.ty.lay.mm).mono ?_;rintro en w9 ⟨rfl,wm,g1,g2⟩;have e1:=EffT.own S8.out.co g1;have oi:=EffT.row S8.out.ki e1 (by decide);have e2:=EffT.own oi g2;have hno:∀(Kx:Nat→Prop) x,w4.heap.size≤x∧x<w8.heap.size→¬((Kx x∧x<w4.heap.size)∨w8.heap.size≤x):=fun Kx x h k=>by rcases k with k|k <;> omega
           have p1:=PF.out.spoil S8.out.co g1 (fun x e=>hno Kr x (HLA.out x e)) (fun x e=>hno Km x (HLA.out x e)) (by decide) (by decide) (by decide) (by decide) (by decide);have p2:=p1.spoil oi g2 (fun x e=>hno Kr x (HLBB.out x e)) (fun x e=>hno Km x (HLBB.out x e)) (by decide) (by decide) (by decide) (by decide) (by decide);have bm:=qAh S8.out.co BL8.out BL8.out.size BL4.out.size g1;have b9:=qAh oi bm bm.size BL4.out.size g2;have FIN:=hh_ (show ∃G',PlW g m B G' w w9∧w9.heap[bs]?=some (.cells #[.int .i64 kd,.int .i64 fr,.int .i64 tt,.string T,.slice A' N c',.slice B' M d',.slice E' Q f'] 56 (0,0)) from⟨G,⟨⟨_,_,_,_,_,p2⟩,b9,HSZ.out⟩,e2.keep (e1.keep H8.out.box (by decide)) (by decide)⟩);clear g1 g2 e1 oi e2 p1 p2 bm b9 hno z0 z1 PF S8 H8 BL8 HLA HLBB;go_wp2_with fail
           go_meet;exact FIN.out
         · obtain rfl:q=3:=by omega
           clear hq1 hq2;have y6:=cb_ 6 (v:=.slice E' Q f') H4.out.box rfl;have hrl:row.length=Q:=H4.out.rw'.lay.1.symm;have HCP:=hh_ (qGo w4 E' Q f' row (by omega) hrl (qN9 H4.out.rw'.lay.2));have HRL:=hh_ hrl;clear hrl;go_wp2_with fail
           refine HCP.out.mono ?_;rintro en w5 ⟨v5,rfl,o5,b5⟩;obtain⟨Aw,cw,e5,-,-⟩:=qAf o5;rw[HRL.out] at e5;subst e5;have O5:=hh_ o5;have B5:=hh_ b5;have H5:=hh_ (H4.out.to b5);clear o5 b5 y6 HCP;have y1:=cb_ 1 (v:=.int .i64 fr) H5.out.box rfl;have y2:=cb_ 2 (v:=.int .i64 tt) H5.out.box rfl;have y3:=cb_ 3 (v:=.string T) H5.out.box rfl;obtain⟨R,hR⟩:∃R,R=(if (qAp G T.data.toList).isSome=true then (qBz (rgAt G T.data.toList) fr tt row).1 else []):=⟨_,rfl⟩;obtain⟨er,her⟩:∃er,er=(if (qAp G T.data.toList).isSome=true then (qBz (rgAt G T.data.toList) fr tt row).2 else 130):=⟨_,rfl⟩;have hmv:=qH0 g G T fr tt Aw Q cw row w5 HT.out (PX.out.lr.to B5.out) (fun s hs=>(qIx HSZ.out _ s hs).sz) HFR.out HTT.out ⟨HRL.out.symm,by omega,O5.out.lay.2,HRO.out.2⟩ (HE.out _ (BL4.out.trans (B5.out.mono BL4.out.size)));have hmv2:=fun (W:World) (hb:Below w4.heap.size w4 W) (hw:qIm W E' Q row)=>qQt B m vn vc H G T fr tt E' Q f' row W (PX.out.lm.to hb) (qIx HSZ.out _) HFR.out HTT.out hw HRO.out.1
           rw[←hR,←her] at hmv hmv2;have HMV:=hh_ hmv;have HMV2:=hh_ hmv2;clear hmv hmv2 hR her;go_wp2_with fail
           refine HMV.out.mono ?_;rintro en w6 ⟨v6,rfl,o6,b6⟩;obtain⟨A6,c6,e6,hc6,hm6⟩:=qAf o6;obtain⟨nR,hnR⟩:∃nR,R.length=nR:=⟨_,rfl⟩;rw[hnR] at e6 hc6;subst e6;have O6:=hh_ o6;have B6:=hh_ b6;have H6:=hh_ (H5.out.to b6);have HNR:=hh_ hnR;have HNM:=hh_ (show nR≤maxLen from Nat.le_trans hc6 hm6);clear o6 b6 hc6 hm6 hnR y1 y2 y3 HMV H5;have y1:=cb_ 1 (v:=.int .i64 fr) H6.out.box rfl;have y2:=cb_ 2 (v:=.int .i64 tt) H6.out.box rfl;have y3:=cb_ 3 (v:=.string T) H6.out.box rfl;have y6:=cb_ 6 (v:=.slice E' Q f') H6.out.box rfl;have HM2:=hh_ (HMV2.out w6 (B5.out.trans (B6.out.mono B5.out.size)) (H6.out.rowl hQ40 HRO.out.2));clear HMV2;go_wp2_with fail
           refine HM2.out.mono ?_;rintro en w7 ⟨v7,rfl,o7,b7⟩;obtain⟨A7,c7,e7,-,-⟩:=qAf o7;rw[HNR.out] at e7;subst e7;have B7:=hh_ (B6.out.trans (b7.mono B6.out.size));have O7:=hh_ (show OwnC w7 w5.heap.size 43 (.slice A6 nR c6) R from own_below O6.out b7);have L7:=hh_ o7.lay.2;clear o7 b7 y1 y2 y3 y6 HM2 O6 H6;go_wp2_with fail
           refine(qHz w7 A6 A7 nR c6 nR c7 R R HNM.out HNM.out HNR.out.symm HNR.out.symm O7.out.lay.2 L7.out).mono ?_;rintro en w8 ⟨rfl,b8⟩;have B8:=hh_ (B7.out.trans (b8.mono B7.out.size));have O8:=hh_ (show OwnC w8 w5.heap.size 43 (.slice A6 nR c6) R from own_below O7.out b8);clear b8 B7 O7 L7;have td:decide (R=R)=true:=decide_eq_true rfl;first|rw[td]|rw[decide_true]
           clear td;have B58:=hh_ (B5.out.trans (B8.out.mono B5.out.size));have H8:=hh_ (H4.out.to B58.out);have OR8:=hh_ (own_below O5.out B8.out);have y6:=cb_ 6 (v:=.slice E' Q f') H8.out.box rfl;have HER:=hh_ (fun (W:World) (hb:Below w5.heap.size w5 W)=>qHz W Aw E' Q cw Q f' row row ml_ ml_ HRL.out.symm HRL.out.symm (show OwnC W w4.heap.size 43 (.slice Aw Q cw) row from own_below O5.out hb).lay.2 (H4.out.to (B5.out.trans (hb.mono B5.out.size))).rw'.lay.2);go_wp2_with fail
           refine(HER.out w8 B8.out).mono ?_;rintro en w9 ⟨rfl,b9⟩;have B9:=hh_ (B8.out.trans (b9.mono B8.out.size));have O9:=hh_ (show OwnC w9 w5.heap.size 43 (.slice A6 nR c6) R from own_below O8.out b9);have td:decide (row=row)=true:=decide_eq_true rfl;first|rw[td]|rw[decide_true]
           clear td b9 y6 B8 O8 B58 H8 OR8;go_wp2_with fail
           go_loopw [21] (fun s21 wx=> ∃(j:Nat) (ys:List Value),j≤nR∧s21=.int .i64 j∧wx.ownsRow w5.heap.size 43 3 (.slice A6 nR c6) nR ys∧Below w5.heap.size w5 wx) (fun s21 _=>nR-(RowKit.intOf s21).toNat)
           case atStart=>exact⟨0,_,Nat.zero_le _,rfl,by have h:=O9.out;unfold OwnC at h;rw[HNR.out] at h;exact h,B9.out⟩
           case round=>
            obtain⟨j,ys,hj,rfl,ho,hb⟩:=hrel;by_cases hj2:j<nR
            · have tj:(j:Int)<nR:=by omega
              have tj0:(0:Int)≤j:=by omega
              have wj:=iw_ ((j:Int)+1) (by have:=HNM.out;unfold maxLen at this;omega)
              obtain⟨gB,rfl⟩:∃gB,A6=some ⟨gB,0,none⟩:=by
               rcases ho.2 with⟨e,_⟩|⟨g',cap,cur,e,_⟩
               · cases e;omega
               · cases e;exact⟨_,rfl⟩
              have s1:=World.ownsRow.stored ho (j*3) (.bool false);have s2:=World.ownsRow.stored s1.1 (j*3+1) (.int .i64 (-9));have s3:=World.ownsRow.stored s2.1 (j*3+2) (.string ⟨#[]⟩);have f0:=World.ownsRow.frozenAt ho (j*3);have f1:=World.ownsRow.frozenAt ho (j*3+1);have f2:=World.ownsRow.frozenAt ho (j*3+2);have y0:wr.cell? ⟨gB,j*3,none⟩=ys[j*3]?:=World.ownsRow.cellAt ho (j*3) (by omega);have y1:wr.cell? ⟨gB,j*3+1,none⟩=ys[j*3+1]?:=World.ownsRow.cellAt ho (j*3+1) (by omega);have y2:wr.cell? ⟨gB,j*3+2,none⟩=ys[j*3+2]?:=World.ownsRow.cellAt ho (j*3+2) (by omega);obtain⟨u0,hu0⟩:∃u,ys[j*3]?=some u:=⟨_,List.getElem?_eq_getElem (by have:=ho.1;omega)⟩;rw[hu0] at y0;obtain⟨u1,hu1⟩:∃u,ys[j*3+1]?=some u:=⟨_,List.getElem?_eq_getElem (by have:=ho.1;omega)⟩;rw[hu1] at y1;obtain⟨u2,hu2⟩:∃u,ys[j*3+2]?=some u:=⟨_,List.getElem?_eq_getElem (by have:=ho.1;omega)⟩;rw[hu2] at y2;clear hu0 hu1 hu2;have b1:=qAh ho hb hb.size le_ s1.2;have b2:=qAh s1.1 b1 b1.size le_ s2.2;have Z1:=hh_ s3.1;have Z2:=hh_ (qAh s2.1 b2 b2.size le_ s3.2);clear s1 s2 s3 b1 b2 ho hb B9 O9;go_wp2_with fail
              go_roundw
              case rel=>exact⟨j+1,_,by omega,by go_num,Z1.out,Z2.out⟩
              case measure=>simp[RowKit.intOf];omega
            · obtain rfl:j=nR:=by omega
              have BE:=hh_ hb;clear ho hb B9 O9;have B4E:=hh_ (B5.out.trans (BE.out.mono B5.out.size));have HX:=hh_ (H4.out.to B4E.out);have y6:=cb_ 6 (v:=.slice E' Q f') HX.out.box rfl;go_wp2_with fail
              refine(HER.out _ BE.out).mono ?_;rintro en w10 ⟨rfl,b10⟩;have td:decide (row=row)=true:=decide_eq_true rfl;first|rw[td]|rw[decide_true]
              have FIN:=hh_ (show ∃G',PlW g m B G' w w10∧w10.heap[bs]?=some (.cells #[.int .i64 kd,.int .i64 fr,.int .i64 tt,.string T,.slice A' N c',.slice B' M d',.slice E' Q f'] 56 (0,0)) from⟨G,K4.out.to (B4E.out.trans (b10.mono B4E.out.size)),(HX.out.to b10).box⟩);clear td b10 y6 HX B4E;go_wp2_with fail
              go_meet;exact FIN.out
      case rest=>
       obtain⟨G',hP,hq⟩:=hcut;have P5:=hh_ hP;have Q5:=hh_ hq;clear hP hq H4 K4;obtain⟨w5,hw5⟩:∃w5,w5=wc:=⟨_,rfl⟩;rw[←hw5] at P5 Q5 ⊢;clear hw5;have y3:=cb_ 3 (v:=.string T) Q5.out rfl;go_wp2_with fail
       obtain⟨Kr,Km,vn,vc,H,hpl⟩:=P5.out.pl;refine(qN6 g m B vn vc H G' T w5 HT.out hpl).mono ?_;rintro en w6 ⟨rfl,b6⟩;have P6:=hh_ (P5.out.to b6);clear b6 hpl P5 Q5 y3;go_wp2_with fail
       go_roundw
       case rel=>exact⟨k+1,G',by omega,by omega,by go_num,P6.out⟩
       case measure=>simp[RowKit.intOf];omega
    · have tk2:¬((k:Int)<90):=by omega
      go_wp2_with fail
      refine(qGg wr (HE.out _ K.out.bel)).mono ?_;rintro en w8 ⟨rfl,b8⟩;have K8:=hh_ (K.out.to b8);clear b8;go_wp2_with fail
      go_ret;exact⟨rfl,K8.out.bel⟩
  · have tk:¬((k:Int)<n):=by omega
    go_wp2_with fail
    refine(qGg wr (HE.out _ K.out.bel)).mono ?_;rintro en w8 ⟨rfl,b8⟩;have K8:=hh_ (K.out.to b8);clear b8;go_wp2_with fail
    go_ret;exact⟨rfl,K8.out.bel⟩
theorem own:ownKnob Tryz.prog.godebug=none:=by kernel_rfl
theorem laidOut:laidOutB Tryz.prog=true:=by kernel_rfl
theorem qYy:U8Extra Tryz.prog Tryz.lays260_ren:={
  n3:=by kernel_rfl
  n4:=by kernel_rfl
  y3:=by kernel_rfl
  y4:=by kernel_rfl
  c5:=by kernel_rfl
  c119:=by kernel_rfl
  c138:=by kernel_rfl }
theorem qNp:Rows.laid_unicode_utf8_first=firstData:=by kernel_rfl
theorem qMb:(Rows.laid_unicode_utf8_acceptRanges:DataW Unit)=acceptData:=by kernel_rfl
theorem qRx:(Rows.laid_internal_strconv_uint64pow10:DataW Unit)=Lib.tabData .u64 Lib.pow10Tab:=by kernel_rfl
theorem qUf: "*errors.errorString"= "*"++ "errors.errorString":=by decide
theorem qX6 (u:TypeId) (h:Tryz.prog.typeName? 3 u=some "*errors.errorString"):u=287:=
  typeName_ptr_named (nm:= "errors.errorString") (by rw[←qUf];kernel_rfl) (by kernel_rfl) (by decide) u (by rw[←qUf];exact h)
def qV0:List (String×DataW Unit):=[("math/bits.deBruijn32tab",Rows.laid_math_bits_deBruijn32tab),("math/bits.deBruijn64tab",Rows.laid_math_bits_deBruijn64tab),("internal/strconv.uint64pow10",Rows.laid_internal_strconv_uint64pow10),("unicode/utf8.acceptRanges",Rows.laid_unicode_utf8_acceptRanges),("strconv.ErrRange",Rows.laid_strconv_ErrRange),("strconv.ErrSyntax",Rows.laid_strconv_ErrSyntax),("unicode/utf8.first",Rows.laid_unicode_utf8_first)]
theorem qXw {W:World} (h:laidMetH Tryz.prog qV0 W) (hsh:W.ShapedOpen Tryz.prog):Env W:=by
 have h':laidMet Tryz.prog [("math/bits.deBruijn32tab",Rows.laid_math_bits_deBruijn32tab),("math/bits.deBruijn64tab",Rows.laid_math_bits_deBruijn64tab),("internal/strconv.uint64pow10",Rows.laid_internal_strconv_uint64pow10),("unicode/utf8.acceptRanges",Rows.laid_unicode_utf8_acceptRanges),("strconv.ErrRange",Rows.laid_strconv_ErrRange),("strconv.ErrSyntax",Rows.laid_strconv_ErrSyntax),("unicode/utf8.first",Rows.laid_unicode_utf8_first)] W:=h;have h2:=h'.tail.tail;have h4:=h2.tail.tail;refine⟨?_,?_,?_,?_,?_⟩
 · have h3:=laidMet.reads h' (n:= "unicode/utf8.first") (d:=Rows.laid_unicode_utf8_first) (by simp);have h5:=laidMet.reads h' (n:= "unicode/utf8.acceptRanges") (d:=Rows.laid_unicode_utf8_acceptRanges) (by simp);rw[qNp] at h3;rw[qMb] at h5;exact utf8Tabs_of_reads Tryz.lays260 qYy h3 h5
 · rw[qRx] at h2;exact Lib.tabIs_of_head (g:=5) (t:=291) (e:=224) (n:=20) (by kernel_rfl) (by kernel_rfl) (by kernel_rfl) (by kernel_rfl) (by kernel_rfl) (by kernel_rfl) h2
 · obtain⟨a,s,hv,_⟩:=laid_sentinel (ti:=179) (tp:=287) (te:=289) (ts:=9) (g:=3) h4.tail (by kernel_rfl) (by kernel_rfl) Tryz.underlying179 qX6 Tryz.underlying287 Tryz.underlying289 rfl rfl Tryz.underlying9 (by kernel_rfl) (by kernel_rfl);exact⟨_,_,hv⟩
 · obtain⟨a,s,hv,_⟩:=laid_sentinel (ti:=179) (tp:=287) (te:=289) (ts:=9) (g:=4) h4 (by kernel_rfl) (by kernel_rfl) Tryz.underlying179 qX6 Tryz.underlying287 Tryz.underlying289 rfl rfl Tryz.underlying9 (by kernel_rfl) (by kernel_rfl);exact⟨_,_,hv⟩
 · obtain⟨m,hm⟩:=Go.Proofs.cell_of_shapedOpen_int (P:=Tryz.prog) (g:=0) (zero:=#[.int .i64 0]) (t:=3) hsh (of_decide_eq_true (by kernel_rfl)) (by kernel_rfl) rfl (by kernel_rfl) (by kernel_rfl) Tryz.underlying3;exact⟨m,hm⟩
def putCells (cs:Array Value):Obj→Obj
  | .cells _ t frozen=>.cells cs t frozen
  |o=>o
def qSt:DataW Unit→Array Value
  | .agg l=>(l.map fun
    | .lit (.int k z)=>Value.int k z
    |_=>undef).toArray
  |_=>#[]
noncomputable def qUe:Nat:=(World.holding Tryz.prog default ⟨#[],#[],[]⟩).heap.size
def qZd:ByteArray:=⟨#[105,110,118,97,108,105,100,32,115,121,110,116,97,120]⟩
def qZf:ByteArray:=⟨#[118,97,108,117,101,32,111,117,116,32,111,102,32,114,97,110,103,101]⟩
noncomputable def qEm (os:Os):World:=
  let w0:=World.holding Tryz.prog os ⟨#[.cells #[.string qZd] 289,.cells #[.string qZf] 289],#[],[]⟩
  { w0 with heap:=((((((w0.heap.modify 1 (putCells (firstTab.map (Value.int .u8)).toArray)).modify 2 (putCells ((List.range 16).flatMap fun i=>[Value.int .u8 (accLo i),Value.int .u8 (accHi i)]).toArray)).modify 5 (putCells (qSt Rows.laid_internal_strconv_uint64pow10))).modify 6 (putCells (qSt Rows.laid_math_bits_deBruijn32tab))).modify 7 (putCells (qSt Rows.laid_math_bits_deBruijn64tab))).modify 3 (putCells #[.iface 287 (.pointer (some ⟨qUe,0,none⟩))])).modify 4 (putCells #[.iface 287 (.pointer (some ⟨qUe+1,0,none⟩))]) }
end Go.Proofs.YtainiaighnjpfaaGreatDoor
