/- A number brought to be from 0 to below another one. Registry's laws: a schema that is offered, walked. Registries: turn, Add. Registry's laws: a schema read of a text; the examples' texts; adds. Registry's laws: two lists of the same names are the same. -/
import Derived.Test.YtainiaighnjpfaaGreatDoorZQah
set_option maxHeartbeats 2000000
set_option maxRecDepth 100000
set_option linter.unusedVariables false
set_option linter.unusedSimpArgs false
namespace Go.Proofs.YtainiaighnjpfaaGreatDoor
open Go.RowKit Go.Ms Go.Lib
theorem qQp (i n:Int) (h0: -9223372036854775808≤i) (h1:i≤9223372036854775807) (hn:0<n) (hn2:n≤4611686018427387904) (w:World) :
    Calls Tryz.prog 13 #[.int .i64 i,.int .i64 n] w fun e w'=>e=.returned (.int .i64 (i%n))∧Below w.heap.size w w':=by
 have hz:(n==0)=false:=by simp;omega
 have hz2:¬n=0:=by omega
 have hb1:i.tmod n<n:=Int.tmod_lt_of_pos _ hn
 have hb2: -n<i.tmod n:=by
  exact Int.lt_tmod_of_pos i hn
 have hw:=iw_ (i.tmod n) ⟨by omega,by omega⟩;by_cases hneg:i.tmod n<0
 · have he:i%n=i.tmod n+n:=by
     have h:=Int.tmod_eq_emod (a:=i) (b:=n);split at h
     · have:=Int.emod_nonneg i (b:=n) (by omega);omega
     · omega
   have hw2:=iw_ (i.tmod n+n) ⟨by omega,by omega⟩;rw[he];clear he;go_enter Tryz.func13,Tryz.ntmps13;go_wp2_with fail
   go_ret;exact⟨rfl,Below.refl _ _⟩
 · have he:i%n=i.tmod n:=by
     have h:=Int.tmod_eq_emod (a:=i) (b:=n);split at h
     · omega
     · have:=Int.emod_lt_of_pos i hn;omega
   rw[he];clear he;go_enter Tryz.func13,Tryz.ntmps13;go_wp2_with fail
   go_ret;exact⟨rfl,Below.refl _ _⟩
end Go.Proofs.YtainiaighnjpfaaGreatDoor
namespace Go.Ms
open Go.RowKit Go.Lib
section
end
end Go.Ms
namespace Go.Proofs.YtainiaighnjpfaaGreatDoor
open Go.RowKit Go.Ms Go.Lib Go.Rel
open Go.Maps Go.WideMaps
theorem qUc (g sp sp2 mb mb2:Nat) (w:World) (hg:w.heap[g]?=some (.cells #[.pointer (some ⟨sp,0,none⟩)] 71 (0,0))) (hs:w.heap[sp]?=some (.cells #[.map (some mb)] 87 (0,0))) (hs2:w.heap[sp2]?=some (.cells #[.map (some mb2)] 87 (0,0))) :
    Calls Tryz.prog 83 #[.pointer (some ⟨g,0,none⟩),.pointer (some ⟨sp,0,none⟩),.pointer (some ⟨sp2,0,none⟩)] w fun e w'=>e=.returned (.bool true)∧w'=w.setCell ⟨g,0,none⟩ (.pointer (some ⟨sp2,0,none⟩)):=by
 have hst:=qLy (P:=Tryz.prog) Tryz.func117 (by kernel_rfl) (by kernel_rfl) (by kernel_rfl) (by kernel_rfl) (y:=some ⟨sp2,0,none⟩) (cb_ 0 hg rfl) (by simp[World.frozen?,hg]);have hcv:=run_convert_to_unsafe (P:=Tryz.prog) (src:=63) (dst:=67) Tryz.underlying63 Tryz.underlying67 (by kernel_rfl) (cb_ 0 hs rfl);have hcv2:=run_convert_to_unsafe (P:=Tryz.prog) (src:=63) (dst:=67) Tryz.underlying63 Tryz.underlying67 (by kernel_rfl) (cb_ 0 hs2 rfl);clear hg hs hs2;go_enter Tryz.func83,Tryz.ntmps83;go_wp2_with fail
 go_ret;exact⟨rfl,rfl⟩
def qMg (Kp:Nat→Prop) (w:World) (g:Nat) (G':Rg) (n e:Int) (en:Ending) (w':World):Prop:=en=.returned (.tuple #[.int .i64 n,.int .i64 e])∧RgLK Kp g G' w'∧w.grownBy w' (some g)
abbrev qYp (w:World) (g:Nat) (G':Rg) (n e:Int) (en:Ending) (w':World):Prop:=qMg (fun _=>True) w g G' n e en w'
theorem qQi {Kp:Nat→Prop} (g sp mb b1 b2:Nat) (D:DataW Value) (G G':Rg) (n e:Int) (w:World) (h:RgA Kp g sp mb D G w)
    (hc:Calls Tryz.prog 40 #[.pointer (some ⟨sp,0,none⟩),.pointer (some ⟨b1,0,none⟩),.pointer (some ⟨b2,0,none⟩)] w (RgS Kp w G G' n e)) :
    Calls Tryz.prog 39 #[.pointer (some ⟨g,0,none⟩),.func (.func 40) #[] #[.pointer (some ⟨b1,0,none⟩),.pointer (some ⟨b2,0,none⟩)]] w (qMg Kp w g G' n e):=by
 have hl:=qFv g sp mb D G w h;have HL:=hh_ hl;have HC:=hh_ hc;have HA:=hh_ h;clear hl hc h;go_enter Tryz.func39,Tryz.ntmps39;go_wp2_with fail
 go_loopw [] (fun wr=>wr=w) (fun _=>0)
 case atStart=>rfl
 case round=>
  obtain rfl:=hrel;go_wp2_with fail
  refine HL.out.mono ?_;rintro en w1 ⟨rfl,hw⟩;rw[hw];clear hw;go_wp2_with fail
  refine HC.out.mono ?_;rintro en w2 ⟨hb,hr⟩;rcases hr with⟨rfl,hG⟩|⟨sp2,mb2,D2,rfl,hs2,hm2,hi2,ho2⟩
  · have A2:=hh_ (HA.out.to hb);have B2:=hh_ hb;have HG:=hh_ hG;clear hb hG;go_wp2_with fail
    go_ret2;refine⟨rfl,?_,B2.out.os,B2.out.tape,B2.out.output,B2.out.size,fun k hk _=>B2.out.block k hk⟩;rw[HG.out];exact⟨sp,mb,D,A2.out⟩
  · have a2:=HA.out.to hb;have hcas:=qUc g sp sp2 mb mb2 w2 a2.box a2.snap hs2
    have hx:RgLK Kp g G' (w2.setCell ⟨g,0,none⟩ (.pointer (some ⟨sp2,0,none⟩)))∧wr.grownBy (w2.setCell ⟨g,0,none⟩ (.pointer (some ⟨sp2,0,none⟩))) (some g):=by
     have hgs:=qBb w2 g 0 (.pointer (some ⟨sp2,0,none⟩));have n1:sp2≠g:=fun e=>by rw[e,a2.box] at hs2;cases hs2
     have n2:mb2≠g:=fun e=>by
      obtain⟨es,clock,hb',_⟩:=hm2;rw[e,a2.box] at hb';cases hb'
     refine⟨⟨sp2,mb2,D2,ms_one_set a2.box _,qAj hs2 n1 _,hm2.setCell (by simpa using n2) _,hi2.but hgs a2.box,ho2⟩,?_⟩;exact⟨hgs.os.trans hb.os,hgs.tape.trans hb.tape,hgs.output.trans hb.output,Nat.le_trans hb.size hgs.size,fun k hk hne=>(hgs.block k (Nat.lt_of_lt_of_le hk hb.size) hne).trans (hb.block k hk)⟩
    have HX:=hh_ hx;have HCAS:=hh_ hcas;clear hb hs2 hm2 hi2 ho2 a2 hcas hx;go_wp2_with fail
    refine HCAS.out.mono ?_;rintro en w3 ⟨rfl,hw⟩;rw[hw];clear hw;go_wp2_with fail
    go_ret2;exact⟨rfl,HX.out.1,HX.out.2⟩
theorem qK4 {Kp:Nat→Prop} (g:Nat) (G:Rg) (S:ByteArray) (r:SRef) (s:Sc) (w:World) (hS:S.size≤100000) (h:RgLK Kp g G w) (hr:qBv w w.heap.size r s) (hz:ScSz s.1) (hE:Env w) (hkp:∀b,w.heap.size≤b→Kp b) :
    Calls Tryz.prog 10 #[.pointer (some ⟨g,0,none⟩),.string S,.agg #[.slice r.a r.n r.c,.slice r.b r.m r.d]] w (qMg Kp w g (qBf G S.data.toList s).1 (qBf G S.data.toList s).2.1 (qBf G S.data.toList s).2.2):=by
 obtain⟨G',N',E',hres⟩:∃G' N' E',qBf G S.data.toList s=(G',N',E'):=⟨_,_,_,rfl⟩;rw[hres];obtain⟨X,hX⟩:∃X,X=(w.alloc (.cells #[.string S] 9)).alloc (.cells #[.slice r.a r.n r.c,.slice r.b r.m r.d] 33):=⟨_,rfl⟩;have hz1:(w.alloc (.cells #[.string S] 9)).heap.size=w.heap.size+1:=World.size_alloc _ _;have bX:Below w.heap.size w X:=by rw[hX];exact((Below.refl _ w).alloc le_ _).alloc (by rw[hz1];omega) _
 have q1:X.heap[w.heap.size]?=some (.cells #[.string S] 9 (0,0)):=by rw[hX];exact bx_ (qAd _ _) _
 have q2:X.heap[w.heap.size+1]?=some (.cells #[.slice r.a r.n r.c,.slice r.b r.m r.d] 33 (0,0)):=by
  have h:=qAd (w.alloc (.cells #[.string S] 9)) (.cells #[.slice r.a r.n r.c,.slice r.b r.m r.d] 33);rw[hz1] at h;rw[hX];exact h
 obtain⟨sp,mb,D,ha⟩:=h.to bX;have hl:=qFv g sp mb D G X ha;have hnm:=fun (W:World)=>qHv S W hS
 have hck:=fun (W:World) (hb:Below X.heap.size X W)=>qGn W r.a r.b r.n r.c r.m r.d s.1 s.2 hz hr.nn hr.mm hr.n hr.m ((hr.to bX).to hb).la ((hr.to bX).to hb).lb ((hE.below bX).below hb)
 have hlm:r.m=s.2.length:=hr.m;have HL:=hh_ hl;have HA:=hh_ ha;have HNM:=hh_ hnm;have HCK:=hh_ hck;have BX:=hh_ bX;have Q1:=hh_ q1;have Q2:=hh_ q2;have HR:=hh_ (hr.to bX);have HE:=hh_ (hE.below bX);have HS:=hh_ hS;have HRES:=hh_ hres;have HLM:=hh_ hlm;have c0:=cb_ 0 (v:=.string S) q1 rfl;clear hl ha hnm hck bX q1 q2 hr hE hS hres h hz1 hlm
 have fin:∀W,Below X.heap.size X W→G'=G→RgLK Kp g G' W∧w.grownBy W (some g):=fun W hb e=>by
  refine⟨by rw[e];exact⟨sp,mb,D,HA.out.to hb⟩,?_⟩;have b:=BX.out.trans (hb.mono BX.out.size);exact⟨b.os,b.tape,b.output,b.size,fun k hk _=>b.block k hk⟩
 have FIN:=hh_ fin;have HKP:=hh_ hkp;clear fin hkp
 cases hn:isNm S.data.toList with
 |false=>
  have e:qBf G S.data.toList s=(G,0,130):=by unfold qBf;rw[if_pos hn]
  have HGO:=hh_ (HRES.out.symm.trans e);rw[hn] at HNM;clear e hn;go_enter Tryz.func10,Tryz.ntmps10;go_wp2_with fail
  rw[←hX];clear hX;refine HL.out.mono ?_;rintro en w1 ⟨rfl,hw⟩;rw[hw];clear hw;go_wp2_with fail
  refine(HNM.out X).mono ?_;rintro en w2 ⟨rfl,b2⟩;have B2:=hh_ b2;clear b2;go_wp2_with fail
  go_ret2;have e:=HGO.out;cases e;exact⟨rfl,FIN.out _ B2.out rfl⟩
 |true=>
  rw[hn] at HNM;have en1:¬(isNm S.data.toList=false):=by rw[hn];decide
  by_cases hbad:scOk s.1 s.2=false∨s.2=[]
  · have e:qBf G S.data.toList s=(G,0,2):=by unfold qBf;rw[if_neg en1,if_pos hbad]
    have HGO:=hh_ (HRES.out.symm.trans e);clear e hn en1
    cases hok:scOk s.1 s.2 with
    |false=>
     have hc2:qAm s.1 s.2=2:=by unfold qAm;rw[if_neg (by rw[hok];decide)]
     rw[hc2] at HCK;clear hc2 hok hbad;go_enter Tryz.func10,Tryz.ntmps10;go_wp2_with fail
     rw[←hX];clear hX;refine HL.out.mono ?_;rintro en w1 ⟨rfl,hw⟩;rw[hw];clear hw;go_wp2_with fail
     refine(HNM.out X).mono ?_;rintro en w2 ⟨rfl,b2⟩;have B2:=hh_ b2;have z0:=cb_ 0 (v:=.slice r.a r.n r.c) (bk_ Q2.out b2) rfl;have z1:=cb_ 1 (v:=.slice r.b r.m r.d) (bk_ Q2.out b2) rfl;clear b2;go_wp2_with fail
     refine(HCK.out w2 B2.out).mono ?_;rintro en w3 ⟨rfl,b3⟩;have B3:=hh_ (B2.out.trans (b3.mono B2.out.size));clear b3;go_wp2_with fail
     go_ret2;have e:=HGO.out;cases e;exact⟨rfl,FIN.out _ B3.out rfl⟩
    |true=>
     have hk:s.2=[]:=hbad.resolve_left (by rw[hok];decide);have hc0:qAm s.1 s.2=0:=by unfold qAm;rw[if_pos hok]
     have hm0:((r.m:Int)==0)=true:=by rw[HLM.out,hk];rfl
     rw[hc0] at HCK;clear hc0 hok hbad hk;go_enter Tryz.func10,Tryz.ntmps10;go_wp2_with fail
     rw[←hX];clear hX;refine HL.out.mono ?_;rintro en w1 ⟨rfl,hw⟩;rw[hw];clear hw;go_wp2_with fail
     refine(HNM.out X).mono ?_;rintro en w2 ⟨rfl,b2⟩;have B2:=hh_ b2;have z0:=cb_ 0 (v:=.slice r.a r.n r.c) (bk_ Q2.out b2) rfl;have z1:=cb_ 1 (v:=.slice r.b r.m r.d) (bk_ Q2.out b2) rfl;clear b2;go_wp2_with fail
     refine(HCK.out w2 B2.out).mono ?_;rintro en w3 ⟨rfl,b3⟩;have B3:=hh_ (B2.out.trans (b3.mono B2.out.size));have y1:=cb_ 1 (v:=.slice r.b r.m r.d) (bk_ Q2.out B3.out) rfl;clear b3;go_wp2_with fail
     go_ret2;have e:=HGO.out;cases e;exact⟨rfl,FIN.out _ B3.out rfl⟩
  · have hok:scOk s.1 s.2=true:=by
      cases h:scOk s.1 s.2 with
      |true=>rfl
      |false=>exact absurd (.inl h) hbad
    have hk:s.2≠[]:=fun e=>hbad (.inr e)
    have hc0:qAm s.1 s.2=0:=by unfold qAm;rw[if_pos hok]
    have hm0:((r.m:Int)==0)=false:=by
     rw[beq_eq_false_iff_ne,HLM.out];have:=List.length_pos_iff.2 hk;omega
    have hst:=fun (W:World) (hb:Below X.heap.size X W)=>qQi g sp mb w.heap.size (w.heap.size+1) D G G' N' E' W (HA.out.to hb) (by
      have h:=qQh g sp mb w.heap.size (w.heap.size+1) D G S r s W HS.out (HA.out.to hb) (bk_ Q1.out hb) (bk_ Q2.out hb) (HR.out.to hb) hn hok hk (HE.out.below hb) (fun b h=>HKP.out b (by have:=BX.out.size;have:=hb.size;omega));rw[HRES.out] at h
      exact h)
    rw[hc0] at HCK;have HST:=hh_ hst;clear hc0 hok hbad hk hn en1 hst;go_enter Tryz.func10,Tryz.ntmps10;go_wp2_with fail
    rw[←hX];clear hX;refine HL.out.mono ?_;rintro en w1 ⟨rfl,hw⟩;rw[hw];clear hw;go_wp2_with fail
    refine(HNM.out X).mono ?_;rintro en w2 ⟨rfl,b2⟩;have B2:=hh_ b2;have z0:=cb_ 0 (v:=.slice r.a r.n r.c) (bk_ Q2.out b2) rfl;have z1:=cb_ 1 (v:=.slice r.b r.m r.d) (bk_ Q2.out b2) rfl;clear b2;go_wp2_with fail
    refine(HCK.out w2 B2.out).mono ?_;rintro en w3 ⟨rfl,b3⟩;have B3:=hh_ (B2.out.trans (b3.mono B2.out.size));have y1:=cb_ 1 (v:=.slice r.b r.m r.d) (bk_ Q2.out B3.out) rfl;clear b3 z0 z1;go_wp2_with fail
    refine(HST.out w3 B3.out).mono ?_;rintro en w4 ⟨rfl,hl4,hg4⟩;have L4:=hh_ hl4;have G4:=hh_ hg4;clear hl4 hg4;go_wp2_with fail
    go_ret2;have b:=BX.out.trans (B3.out.mono BX.out.size);exact⟨rfl,L4.out,G4.out.os.trans b.os,G4.out.tape.trans b.tape,G4.out.output.trans b.output,Nat.le_trans b.size G4.out.size,fun k hk hne=>(G4.out.block k (Nat.lt_of_lt_of_le hk b.size) hne).trans (b.block k hk)⟩
theorem qEn (g:Nat) (G:Rg) (S:ByteArray) (r:SRef) (s:Sc) (w:World) (hS:S.size≤100000) (h:RgL g G w) (hr:qBv w w.heap.size r s) (hz:ScSz s.1) (hE:Env w) :
    Calls Tryz.prog 10 #[.pointer (some ⟨g,0,none⟩),.string S,.agg #[.slice r.a r.n r.c,.slice r.b r.m r.d]] w (qYp w g (qBf G S.data.toList s).1 (qBf G S.data.toList s).2.1 (qBf G S.data.toList s).2.2):=
  qK4 g G S r s w hS h hr hz hE (fun _ _=>trivial)
end Go.Proofs.YtainiaighnjpfaaGreatDoor
namespace Go.Ms
open Go.RowKit Go.Lib
def rS1:Sc:=([(1,⟨#[105,100]⟩,(2,false),(false,0,⟨#[]⟩))],[0])
def rT1:ByteArray:=⟨#[49,32,105,100,32,105,110,116,51,50,42,32,48,47]⟩
theorem zBa:qCo [49,32,105,100,32,105,110,116,51,50,42,32,48,10]=(rS1.1,rS1.2,0,0):=by kernel_rfl
theorem zBh:Lib.replaceAll rT1.data.toList [47] [10]=[49,32,105,100,32,105,110,116,51,50,42,32,48,10]:=by kernel_rfl
def rS2:Sc:=([(1,⟨#[105,100]⟩,(3,false),(false,0,⟨#[]⟩))],[0])
def rT2:ByteArray:=⟨#[49,32,105,100,32,105,110,116,54,52,42,32,48,47]⟩
theorem zAq:qCo [49,32,105,100,32,105,110,116,54,52,42,32,48,10]=(rS2.1,rS2.2,0,0):=by kernel_rfl
theorem zAh:Lib.replaceAll rT2.data.toList [47] [10]=[49,32,105,100,32,105,110,116,54,52,42,32,48,10]:=by kernel_rfl
def rS3:Sc:=([(1,⟨#[105,100]⟩,(3,false),(false,0,⟨#[]⟩)),(2,⟨#[118]⟩,(1,false),(false,0,⟨#[]⟩))],[0])
def rT3:ByteArray:=⟨#[49,32,105,100,32,105,110,116,54,52,42,32,48,47,50,32,118,32,98,111,111,108,32,102,97,108,115,101,47]⟩
theorem qZ5:qCo [49,32,105,100,32,105,110,116,54,52,42,32,48,10,50,32,118,32,98,111,111,108,32,102,97,108,115,101,10]=(rS3.1,rS3.2,0,0):=by kernel_rfl
theorem zAl:Lib.replaceAll rT3.data.toList [47] [10]=[49,32,105,100,32,105,110,116,54,52,42,32,48,10,50,32,118,32,98,111,111,108,32,102,97,108,115,101,10]:=by kernel_rfl
def rS4:Sc:=([(1,⟨#[118]⟩,(1,false),(false,0,⟨#[]⟩))],[])
def rT4:ByteArray:=⟨#[49,32,118,32,98,111,111,108,32,102,97,108,115,101,47]⟩
theorem zAi:qCo [49,32,118,32,98,111,111,108,32,102,97,108,115,101,10]=(rS4.1,rS4.2,0,0):=by kernel_rfl
theorem zAg:Lib.replaceAll rT4.data.toList [47] [10]=[49,32,118,32,98,111,111,108,32,102,97,108,115,101,10]:=by kernel_rfl
theorem qLs:ScSz rS1.1∧ScSz rS2.1∧ScSz rS3.1∧ScSz rS4.1:=by unfold ScSz;refine⟨?_,?_,?_,?_⟩ <;> decide
def rA:Bs:=[97]
def rB:Bs:=[98]
def rG1:Rg:=[(rA,[rS1])]
def rG2:Rg:=[(rA,[rS1,rS2])]
def rG3:Rg:=[(rA,[rS1,rS2]),(rB,[rS3])]
theorem zCa {a b:Sc} (f:Sc→List Int) (h:f a≠f b):a≠b:=fun e=>h (by rw[e])
def qZk (s:Sc):List Int:=s.1.map fun c=>c.2.2.1.1
theorem rs12:rS1≠rS2:=zCa qZk (by decide)
theorem qSm {l:List Sc} {s t:Sc} (h:l.getLast?=some t) (hn:t≠s):l.getLast?≠some s:=fun e=>hn (Option.some.inj (h.symm.trans e))
theorem ra_1:qBf [] rA rS1=(rG1,1,0):=(qCb (G:=[]) (x:=rA) (s:=rS1) (by decide) (by kernel_rfl) (by decide)).2.2.2 (by simp[rgAt,qAp]) (by simp[rgAt,qAp]) (by kernel_rfl)
theorem ra_2:qBf rG1 rA rS1=(rG1,1,0):=(qCb (G:=rG1) (x:=rA) (s:=rS1) (by decide) (by kernel_rfl) (by decide)).1 rfl
theorem ra_3:qBf rG1 rA rS2=(rG2,2,0):=(qCb (G:=rG1) (x:=rA) (s:=rS2) (by decide) (by kernel_rfl) (by decide)).2.2.2 (qSm (t:=rS1) rfl rs12) (fun h=>h.elim (fun h=>absurd (show(1:Nat)=64 from h) (by decide)) (fun h=>by cases h.1)) (by kernel_rfl)
theorem ra_4:qBf rG2 rA rS1=(rG2,0,120):=(qCb (G:=rG2) (x:=rA) (s:=rS1) (by decide) (by kernel_rfl) (by decide)).2.2.1 (qSm (t:=rS2) rfl rs12.symm) (fun h=>h.elim (fun h=>absurd (show(2:Nat)=64 from h) (by decide)) (fun h=>by cases h.1)) (by rw[show qAs (rgAt rG2 rA++[rS1])=120 by kernel_rfl];decide)
theorem ra_5:qBf rG2 rA rS4=(rG2,0,2):=by unfold qBf;rw[if_neg (by decide),if_pos (.inr rfl)]
theorem ra_6:qBf rG2 [65] rS1=(rG2,0,130):=by unfold qBf;rw[if_pos (by decide)]
theorem ra_7:qBf rG2 rB rS3=(rG3,1,0):=(qCb (G:=rG2) (x:=rB) (s:=rS3) (by decide) (by kernel_rfl) (by decide)).2.2.2 (by rw[show rgAt rG2 rB=[] by kernel_rfl];simp) (fun h=>h.elim (fun h=>absurd (show(0:Nat)=64 from h) (by decide)) (fun h=>absurd (show(1:Nat)=16 from h.2) (by decide))) (by kernel_rfl)
end Go.Ms
namespace Go.Proofs.YtainiaighnjpfaaGreatDoor
open Go.RowKit Go.Ms Go.Lib Go.Maps Go.WideMaps
theorem qLe {S:ByteArray} {s:Sc} (hs:S.size≤1000) (h1:s.1.length≤100000) (h2:s.2.length≤100000) (hr:(Lib.replaceAll S.data.toList [47] [10]).length≤20000) (hp:qCo (Lib.replaceAll S.data.toList [47] [10])=(s.1,s.2,0,0)) (w:World) (hE:Env w) :
    Calls Tryz.prog 18 #[.string S] w fun e w'=> ∃r:SRef,(r.n≤r.c∧r.c≤maxLen∧r.m≤r.d∧r.d≤maxLen)∧e=.returned (.agg #[.slice r.a r.n r.c,.slice r.b r.m r.d])∧r.n=s.1.length∧r.m=s.2.length∧qBv w' w'.heap.size r s∧Below w.heap.size w w':=by
 obtain⟨X,hX⟩:∃X,X=w.alloc (.cells #[.slice none 0 0,.slice none 0 0] 33):=⟨_,rfl⟩;have bX:Below w.heap.size w X:=by rw[hX];exact(Below.refl _ w).alloc le_ _
 have qX:X.heap[w.heap.size]?=some (.cells #[.slice none 0 0,.slice none 0 0] 33 (0,0)):=by rw[hX];exact qAd _ _
 obtain⟨m,hm⟩:=(hE.below bX).maxl;have hcb:=Lib.countB_le ⟨#[47]⟩ (by decide) S.size S le_
 have cr:=Tryz.strings_ReplaceAll S ⟨#[47]⟩ ⟨#[10]⟩ m X (by omega) hm (by decide) (by
   have h2:(⟨#[10]⟩:ByteArray).size=1:=rfl
   rw[h2];omega)
 rw[show(⟨#[47]⟩:ByteArray).data.toList=[47] from rfl,show(⟨#[10]⟩:ByteArray).data.toList=[10] from rfl] at cr;generalize Lib.replaceAll S.data.toList [47] [10]=L at cr hr hp;have hpar:=fun (W:World) (hb:Below X.heap.size X W)=>qTl (S:=⟨L.toArray⟩) (w:=W) (D:=(s.1,s.2,0,0)) (by show L.toArray.size≤20000;rw[List.size_toArray];omega) ((hE.below bX).below hb) hp rfl rfl rfl
 have HR:=hh_ cr;have HP:=hh_ hpar;have BX:=hh_ bX;have QX:=hh_ qX;clear cr hpar bX qX hm hcb hE hp;go_enter Tryz.func18,Tryz.ntmps18;go_wp2_with fail
 rw[←hX];clear hX;refine HR.out.mono ?_;rintro en w1 ⟨rfl,b1⟩;have B1:=hh_ (BX.out.trans (b1.mono BX.out.size));have Q1:=hh_ (bk_ QX.out b1);have HP1:=hh_ (HP.out w1 b1);clear b1;go_wp2_with fail
 refine HP1.out.mono ?_;rintro en w2 ⟨A,B,c,d,hcp,rfl,l1,l2,b2⟩;have HC:=hh_ hcp;have q2:=bk_ Q1.out b2;have q3:=bx_ q2 (.cells #[.slice A s.1.length c,.slice B s.2.length d] 33);have f0:=fz_ 0 q3;have f1:=fz_ 1 q3;have y0:=cb_ 0 q3 rfl;have y1:=cb_ 1 q3 rfl;have Q3:=hh_ q3;have B2:=hh_ (B1.out.trans (b2.mono B1.out.size));have L1:=hh_ l1;have L2:=hh_ l2;clear b2 q2 q3 l1 l2 hcp;go_wp2_with fail
 have B3:=B2.out.alloc B2.out.size (.cells #[.slice A s.1.length c,.slice B s.2.length d] 33);have bl:=(Below.refl w2.heap.size w2).alloc le_ (.cells #[.slice A s.1.length c,.slice B s.2.length d] 33);have hq4:=qGd Q3.out (.slice A s.1.length c) (.slice B s.2.length d);refine bodyPost_ret (results_cell_row (P:=Tryz.prog) rfl _ _ w.heap.size 33 _ (0,0) _ rfl hq4 Tryz.underlying33 rfl (by kernel_rfl)) rfl ?_;have q5:=Go.Ms.two_set0 Q3.out (.slice A s.1.length c);refine⟨⟨A,s.1.length,c,B,s.2.length,d⟩,HC.out,rfl,rfl,rfl,⟨rfl,rfl,h1,h2,?_,?_⟩,(B3.setCell (p:=⟨w.heap.size,0,none⟩) le_ _).setCell (p:=⟨w.heap.size,1,none⟩) le_ _⟩
 · simp only[World.size_setCell];exact(((L1.out.below bl).more bl.size).off Q3.out (qH7 _) _).off q5 (qH7 _) _
 · simp only[World.size_setCell];exact(((L2.out.below bl).more bl.size).off Q3.out (qIf _) _).off q5 (qIf _) _
def qLc (w:World) (s:Sc) (e:Ending) (w':World):Prop:= ∃r:SRef,e=.returned (.agg #[.slice r.a r.n r.c,.slice r.b r.m r.d])∧qBv w' w'.heap.size r s∧Below w.heap.size w w'
theorem qG1 {T:ByteArray} {s:Sc} {L:List UInt8} (hs:T.size≤1000) (h1:s.1.length≤100000) (h2:s.2.length≤100000) (hr:Lib.replaceAll T.data.toList [47] [10]=L) (hl:L.length≤20000) (hp:qCo L=(s.1,s.2,0,0)) (w:World) (hE:Env w):Calls Tryz.prog 18 #[.string T] w (qLc w s):=by
 subst hr;exact(qLe hs h1 h2 hl hp w hE).mono fun e w' ⟨r,_,h3,_,_,h4,h5⟩=>⟨r,h3,h4,h5⟩
theorem qHp (w:World) (hE:Env w):Calls Tryz.prog 18 #[.string ⟨#[49,32,105,100,32,105,110,116,51,50,42,32,48,47]⟩] w (qLc w rS1):=qG1 (T:=rT1) (by decide) (by decide) (by decide) zBh (by decide) zBa w hE
theorem qVy (w:World) (hE:Env w):Calls Tryz.prog 18 #[.string ⟨#[49,32,105,100,32,105,110,116,54,52,42,32,48,47]⟩] w (qLc w rS2):=qG1 (T:=rT2) (by decide) (by decide) (by decide) zAh (by decide) zAq w hE
theorem qXk (w:World) (hE:Env w):Calls Tryz.prog 18 #[.string ⟨#[49,32,105,100,32,105,110,116,54,52,42,32,48,47,50,32,118,32,98,111,111,108,32,102,97,108,115,101,47]⟩] w (qLc w rS3):=qG1 (T:=rT3) (by decide) (by decide) (by decide) zAl (by decide) qZ5 w hE
theorem qVx (w:World) (hE:Env w):Calls Tryz.prog 18 #[.string ⟨#[49,32,118,32,98,111,111,108,32,102,97,108,115,101,47]⟩] w (qLc w rS4):=qG1 (T:=rT4) (by decide) (by decide) (by decide) zAg (by decide) zAi w hE
def qP1 (w:World) (g:Nat) (G':Rg) (w':World):Prop:=RgL g G' w'∧w.grownBy w' (some g)
theorem qC0 (g:Nat) (G G':Rg) (S T:ByteArray) (s:Sc) (n e:Int) (w:World) (hS:S.size≤100000) (h:RgL g G w) (hz:ScSz s.1) (hE2:∀W,Below w.heap.size w W→Env W)
    (hrd:Calls Tryz.prog 18 #[.string T] w (qLc w s)) (hres:qBf G S.data.toList s=(G',n,e)) :
    Calls Tryz.prog 47 #[.pointer (some ⟨g,0,none⟩),.string S,.string T,.int .i64 n,.int .i64 e] w fun en w'=>en=.returned (.bool true)∧qP1 w g G' w':=by
 have had:=fun (r:SRef) (W:World) (hb:Below w.heap.size w W) (hr:qBv W W.heap.size r s)=>qEn g G S r s W hS (h.to hb) hr hz (hE2 W hb)
 rw[hres] at had;have HR:=hh_ hrd;have HA:=hh_ had;clear hrd had hres h hE2 hz hS;go_enter Tryz.func47,Tryz.ntmps47;go_wp2_with fail
 refine HR.out.mono ?_;rintro en w1 ⟨r,rfl,hr,hb⟩;have R1:=hh_ hr;have B1:=hh_ hb;clear hr hb;go_wp2_with fail
 refine(HA.out r w1 B1.out R1.out).mono ?_;rintro en w2 ⟨rfl,hl,hg⟩;have L2:=hh_ hl;have G2:=hh_ hg;clear hl hg;go_wp2_with fail
 go_ret;have b:=B1.out;exact⟨by simp,L2.out,G2.out.os.trans b.os,G2.out.tape.trans b.tape,G2.out.output.trans b.output,Nat.le_trans b.size G2.out.size,fun k hk hne=>(G2.out.block k (Nat.lt_of_lt_of_le hk b.size) hne).trans (b.block k hk)⟩
end Go.Proofs.YtainiaighnjpfaaGreatDoor
namespace Go.Ms
open Go.RowKit Go.Lib
theorem Lay.name {W:World} {B:Nat} {A:Option Addr} {l:List Bs} {i:Nat} {c:Bs} (h:Lay W B A (l.map Go.Proofs.encStr)) (hi:l[i]?=some c):∃g o,A=some ⟨g,o,none⟩∧g<B∧W.cell? ⟨g,o+i,none⟩=some (.string ⟨c.toArray⟩):=
  h i _ (by rw[List.getElem?_map,hi];rfl)
end Go.Ms
namespace Go.Proofs.YtainiaighnjpfaaGreatDoor
open Go.RowKit Go.Ms Go.Lib
theorem qFd (w:World) (A B:Option Addr) (n cap capm:Nat) (xs:List Bs) (hn':n≤100000) (hn:n=xs.length) (hA:Lay w w.heap.size A (xs.map encStr)) (hB:Lay w w.heap.size B (xs.map encStr)) :
    Calls Tryz.prog 48 #[.slice A n cap,.slice B n capm] w fun e w'=>e=.returned (.bool true)∧Below w.heap.size w w':=by
 have HA:=hh_ hA;have HB:=hh_ hB;have HN:=hh_ hn;clear hA hB hn;go_enter Tryz.func48,Tryz.ntmps48;go_wp2_with fail
 go_loopw [5] (fun id wr=> ∃k:Nat,k≤n∧id=.int .i64 k∧Below w.heap.size w wr) (fun id _=>n-(RowKit.intOf id).toNat)
 case atStart=>exact⟨0,by omega,rfl,Below.refl _ _⟩
 case round=>
  obtain⟨k,hk,rfl,hb⟩:=hrel;by_cases hlk:k<n
  · have hki:(k:Int)<n:=by omega
    obtain⟨c,hc⟩:∃c,xs[k]?=some c:=⟨_,List.getElem?_eq_getElem (by rw[←HN.out];omega)⟩;obtain⟨g,o,rfl,hg,h1⟩:=HA.out.name hc;obtain⟨g',o',rfl,hg',k1⟩:=HB.out.name hc;have g1:=(hb.cell hg).trans h1;have j1:=(hb.cell hg').trans k1;clear h1 k1 hc hg hg';have HBW:=hh_ hb;clear hb;obtain⟨C,hC⟩:∃C:ByteArray,C=⟨c.toArray⟩:=⟨_,rfl⟩;rw[←hC] at g1 j1;clear hC;have he:(C.toList==C.toList)=true:=beq_self_eq_true _;have hf:(C.toList != C.toList)=false:=by simp[bne]
    go_wp2_with fail
    go_quiet (fail)
    go_wp2_with fail
    go_roundw
    case rel=>exact⟨k+1,by omega,by go_num,qAa HBW.out _⟩
    case measure=>simp[RowKit.intOf];omega
  · have hki:¬(k:Int)<n:=by omega
    obtain rfl:k=n:=by omega
    have HBW:=hh_ hb;clear hb;go_wp2_with fail
    go_ret;exact⟨rfl,HBW.out⟩
end Go.Proofs.YtainiaighnjpfaaGreatDoor
