/- Registries by definition: Add, to a subject that is there. Registries: Chain, whose copies lie apart. Registry's laws: two registries of the same subjects, side by side. -/
import Derived.Test.YtainiaighnjpfaaGreatDoorZQap
set_option maxHeartbeats 8000000
set_option maxRecDepth 100000
set_option linter.unusedVariables false
set_option linter.unusedSimpArgs false
namespace Go.Ms
open Go.RowKit Go.Lib Go.Maps
theorem qDn.zero {tR tN tC:TypeId} {Kp:Nat→Prop} {B m g o n c:Nat} {vn:Value} {H:List ChR} {G:Rg} {W:World} (h:qDn tR tN tC Kp B m vn (.slice (some ⟨g,o,none⟩) n c) H G W):o=0∧B≤g∧∃cs,W.heap[g]?=some (.cells cs tC (0,0)):=by
 rcases h.co.2 with⟨e,_⟩|⟨g',cap,cur,e,hb,hq,_⟩
 · cases e
 · cases e;exact⟨rfl,hb,cur,hq⟩
end Go.Ms
namespace Go.Proofs.YtainiaighnjpfaaGreatDoor
open Go.RowKit Go.Ms Go.Lib Go.Maps Go.WideMaps Go.Rel
theorem qEj (r q:SRef) (s t:Sc) (b:Bool) (hb:b=true↔s=t) (w:World) (hr:qBv w w.heap.size r s) (hq:qBv w w.heap.size q t) :
    Calls Tryz.prog 27 #[.agg #[.slice r.a r.n r.c,.slice r.b r.m r.d],.agg #[.slice q.a q.n q.c,.slice q.b q.m q.d]] w fun e w'=>e=.returned (.bool b)∧Below w.heap.size w w':=by
 have h:=qN4 w r.a r.b q.a q.b r.n r.c r.m r.d q.n q.c q.m q.d s.1 t.1 s.2 t.2 (by have:=hr.nn;unfold maxLen;omega) (by have:=hr.mm;unfold maxLen;omega) (by have:=hq.nn;unfold maxLen;omega) (by have:=hq.mm;unfold maxLen;omega) hr.n hr.m hq.n hq.m hr.la hr.lb hq.la hq.lb
 have e:(decide (s.1=t.1)&&decide (s.2=t.2))=b:=by
  cases b with
  |true=>
   have h2:=hb.1 rfl;rw[h2];simp
  |false=>
   rw[Bool.and_eq_false_iff];by_cases h1:s.1=t.1
   · exact .inr (decide_eq_false (fun e=>by have:=hb.2 (Prod.ext h1 e);cases this))
   · exact .inl (decide_eq_false h1)
 rw[e] at h;exact h
def qCl (Kp:Nat→Prop) (B m:Nat) (vc:Value) (w:World) (G':Rg) (n e:Int) (en:Ending) (w':World):Prop:=
  en=.returned (.tuple #[.int .i64 n,.int .i64 e])∧∃(Kp':Nat→Prop) (vn' vc':Value) (H':List ChR) (c:Nat),(∀b,Kp' b→Kp b)∧RrL Kp' B m vn' vc' H' G' w'∧¬Kp' m∧(∀b,vc'.ownBlock=some b→¬Kp' b)∧
    w.grownBy w' (some c)∧(c=m∨vc.ownBlock=some c)∧∀b,vc'.ownBlock=some b→vc.ownBlock=some b∨w.heap.size≤b
theorem qCl.same {Kp:Nat→Prop} {B m:Nat} {vn vc:Value} {H:List ChR} {G:Rg} {w w':World} {n e:Int} (h:RrL Kp B m vn vc H G w) (hm:¬Kp m) (hc:∀b,vc.ownBlock=some b→¬Kp b) (hb:Below w.heap.size w w') :
    qCl Kp B m vc w G n e (.returned (.tuple #[.int .i64 n,.int .i64 e])) w':=
  ⟨rfl,Kp,vn,vc,H,m,fun _ h=>h,h.to hb,hm,hc,qBi hb _,.inl rfl,fun b e=>.inl e⟩
theorem qTt {Kp:Nat→Prop} (B m:Nat) (vn vc:Value) (H:List ChR) (G:Rg) (S:ByteArray) (r:SRef) (s:Sc) (w:World) (hS:S.size≤100000) (h:RrL Kp B m vn vc H G w) (hr:qBv w w.heap.size r s) (hz:ScR s.1) (hzg:∀t∈rgAt G S.data.toList,ScR t.1)
    (hkp:∀b,w.heap.size≤b→Kp b) (hkm:¬Kp m) (hkc:∀b,vc.ownBlock=some b→¬Kp b) (hb:qDd G S.data.toList=true) (hn:isNm S.data.toList=true) (ho:scOk s.1 s.2=true) (hk:s.2≠[]) :
    Calls Tryz.prog 26 #[.pointer (some ⟨m,0,none⟩),.string S,.agg #[.slice r.a r.n r.c,.slice r.b r.m r.d]] w (qCl Kp B m vc w (qBf G S.data.toList s).1 (qBf G S.data.toList s).2.1 (qBf G S.data.toList s).2.2):=by
 obtain⟨sc,si,sz0,sz1,sz2⟩:=info_parts qCz;have n1:(45:TypeId)≠33:=by decide
 have n2:(3:TypeId)≠33:=by decide
 have hG:=qCb (G:=G) hn ho hk;have hok:=h.ok.add S.data.toList s;obtain⟨G',N',E',hres⟩:∃G' N' E',qBf G S.data.toList s=(G',N',E'):=⟨_,_,_,rfl⟩;rw[hres] at hok ⊢;obtain⟨X,hX⟩:∃X,X=w.alloc (.cells #[.slice r.a r.n r.c,.slice r.b r.m r.d] 33):=⟨_,rfl⟩;have bX:Below w.heap.size w X:=by rw[hX];exact(Below.refl _ w).alloc le_ _
 have qX:X.heap[w.heap.size]?=some (.cells #[.slice r.a r.n r.c,.slice r.b r.m r.d] 33 (0,0)):=by rw[hX];exact qAd _ _
 have hX':=h.to bX;have hsl:=hr.to bX;have hnm:=fun (W:World)=>qB0 S W hS
 rw[hn] at hnm;have hck:=fun (W:World) (hb:Below X.heap.size X W)=>qD4 W r.a r.b r.n r.c r.m r.d s.1 s.2 hz hr.nn hr.mm hr.n hr.m (hsl.to hb).la (hsl.to hb).lb
 have hc0:qAm s.1 s.2=0:=by unfold qAm;rw[if_pos ho]
 rw[hc0] at hck;have hpl:=fun (W:World) (hb:Below X.heap.size X W)=>qC1 B m vn vc H G S W (hX'.to hb)
 obtain⟨x,hx⟩:∃x,x=S.data.toList:=⟨_,rfl⟩;rw[←hx] at hG hpl hb hzg;rw[hb] at hpl
 have hm0:((r.m:Int)==0)=false:=by
  rw[beq_eq_false_iff_ne,hr.m];have:=List.length_pos_iff.2 hk;omega
 obtain⟨g,o,cc,A,n,c,rs,rfl,hHq,hit,hrk⟩:=hX'.hit hb;obtain⟨l,hlk,hGq,hat⟩:=qGx x h.ok.up hb;obtain⟨rfl,hBg,cs0,hq0⟩:=hX'.zero;have hmem:=qEi hlk;have hne:l≠[]:=h.ok.ne _ hmem;obtain⟨gl,hgl⟩:∃gl,G.length=gl:=⟨_,rfl⟩;obtain⟨ps,hps⟩:∃ps,qCq G x=ps:=⟨_,rfl⟩;rw[hgl,hps] at hit;rw[hps] at hpl hHq hGq;rw[hat] at hit hG hzg;obtain⟨L,hL⟩:∃L,l=L:=⟨_,rfl⟩;rw[hL] at hit hG hzg hGq hne hlk hat;have hn0:=hit.n;obtain⟨k,hk1⟩:∃k,n=k+1:=⟨n-1,by have:=List.length_pos_iff.2 hne;omega⟩;obtain⟨sl,hslk⟩:∃t,L[k]?=some t:=⟨_,List.getElem?_eq_getElem (by omega)⟩;obtain⟨rl,hrl⟩:∃t,rs[k]?=some t:=⟨_,List.getElem?_eq_getElem (by rw[(hit.at_ X br_).2.2.len];omega)⟩;have hlast:L.getLast?=some sl:=by rw[List.getLast?_eq_getElem?,←hn0,hk1];exact hslk
 have hlt:=hit.lt;have hnf:n≤64:=by rw[hn0];exact hit.few
 have tp:(ps:Int)<gl:=by omega
 have tp0:(0:Int)≤ps:=by omega
 have tl0:decide ((0:Int)<n)=true:=decide_eq_true (by omega);have tl0b:decide (0<n)=true:=decide_eq_true (by omega);have hwm:IntKind.i64.wrap ((n:Int)-1)=(k:Int):=by rw[show(n:Int)-1=k by omega];exact IntWalk.i64_in _ (by omega)
 have tm1:(k:Int)<n:=by omega
 have tm0:(0:Int)≤k:=by omega
 have hm2:k<n:=by omega
 have HB:=hh_ bX;have QX:=hh_ qX;have HH:=hh_ h;have SX:=hh_ hsl;have HNM:=hh_ hnm;have HCK:=hh_ hck;have HPL:=hh_ hpl;have HG:=hh_ hG;have HOK:=hh_ hok;have HRES:=hh_ hres;have HIT:=hh_ hit;have HRK:=hh_ hrk;have HGQ:=hh_ hGq;have HHQ:=hh_ hHq;have HLAST:=hh_ hlast;have HSLK:=hh_ hslk;have HRL:=hh_ hrl;have HN:=hh_ hn0;have HKP:=hh_ hkp;have HKM:=hh_ hkm;have HKC:=hh_ hkc;have HZ:=hh_ hz;have HZG:=hh_ hzg;have HQ0:=hh_ hq0;have HBG:=hh_ hBg;have HX':=hh_ hX';have HLK:=hh_ hlk;have HAT:=hh_ hat;have HPS:=hh_ hps;have HUP:=hh_ h.ok.up;have HBB:=hh_ hb;have HXX:=hh_ hx;clear bX qX h hsl hnm hck hpl hG hok hres hit hrk hGq hHq hlast hslk hrl hn0 hkp hkm hkc hz hzg hq0 hBg hX' hlk hat hps hr hS hn ho hk hc0 hb hmem hne hL hgl hx hk1;go_enter Tryz.func26,Tryz.ntmps26;go_wp2_with fail
 rw[←hX];generalize hbs:w.heap.size=bs at QX ⊢;have HBS:=hh_ hbs;clear hX hbs;refine(HNM.out X).mono ?_;rintro en w1 ⟨rfl,b1⟩;have z0:=cb_ 0 (v:=.slice r.a r.n r.c) (bk_ QX.out b1) rfl;have z1:=cb_ 1 (v:=.slice r.b r.m r.d) (bk_ QX.out b1) rfl;have B1:=hh_ b1;clear b1;go_wp2_with fail
 refine(HCK.out w1 B1.out).mono ?_;rintro en w2 ⟨rfl,b2⟩;have B2:=hh_ (B1.out.trans (b2.mono B1.out.size));have y1:=cb_ 1 (v:=.slice r.b r.m r.d) (bk_ QX.out B2.out) rfl;clear b2 z0 z1 B1;go_wp2_with fail
 refine(HPL.out w2 B2.out).mono ?_;rintro en w3 ⟨rfl,b3⟩;have B3:=hh_ (B2.out.trans (b3.mono B2.out.size));clear b3 y1 B2;obtain⟨c0,c1,hsc3⟩:=HIT.out.at_ w3 B3.out;rw[Nat.zero_add] at c1;have HSC3:=hh_ hsc3;clear hsc3;go_wp2_with (at_builtin;refine qAi rfl (.tmp 33) (.tmp 40) _ rfl w3.heap.size 33 sc _ 2 48 qC8 si sz0 sz1 sz2 rfl (by omega) (.slice none 0 0) 0 [] rfl (World.ownsRow_nil _ _ _ _) _ A n c (scsV rs) rfl (by rw[qFo,HSC3.out.len,←HN.out]) HSC3.out.lay (qD2 rs) ml_ (by omega) le_ ?_;intro v5 w5 hown5 hg5;rw[Nat.zero_add,List.nil_append] at hown5;have O5:=hh_ hown5;have G5:=hh_ hg5;clear hown5 hg5;obtain⟨A5,c5,hv5,-,-⟩:=qAf O5.out;subst hv5)
 have B5:=hh_ (B3.out.trans ((qBm G5.out).mono B3.out.size));have S35:=hh_ (show w3.heap.size≤w5.heap.size from G5.out.size);have HBX:=hh_ B3.out.size;clear c0 c1 HSC3 G5;have hsc5:qA0 w5 w5.heap.size A5 rs L:=⟨(HIT.out.at_ w5 B5.out).2.2.len,Lay.of_own O5.out le_,(HIT.out.at_ w5 B5.out).2.2.each⟩;obtain⟨gw,ow,ea,tl⟩:=hsc5.at_ HRL.out;subst ea;have RLS:=hh_ (hsc5.each k rl sl HRL.out HSLK.out);have TL:=hh_ tl;have SB:=hh_ (bk_ QX.out B5.out);have SL:=hh_ (SX.out.to B5.out);have HWX:=hh_ HB.out.size;clear hsc5 tl QX SX HSLK HRL;by_cases hsame:sl=s
 · have HSAME:=hh_ hsame;have hgo:=HG.out.1 (by rw[HLAST.out,hsame]);rw[←HN.out,HXX.out] at hgo;have HGO:=hh_ (HRES.out.symm.trans hgo);clear hsame hgo;go_upto_region 10 with fail
   refine qAe [isV (.int .i64 (n:Nat)),iT,iT,isV (.slice (some ⟨gw,ow,none⟩) n c5),isV (.int .i64 (n:Nat)),isV (.int .i64 (k:Nat)),isV (.pointer (some ⟨gw,ow+k*2,none⟩)),isV (.agg #[.slice rl.a rl.n rl.c,.slice rl.b rl.m rl.d]),isV (.agg #[.slice r.a r.n r.c,.slice r.b r.m r.d]),iT,iT] (by kernel_rfl) (by kernel_rfl) ?_ ?_
   ·
     refine rb ?_;refine rf (fun ev wo E=>?_) ?_
     · have e44:ev (.tmp 44)=.int .i64 (n:Nat):=E.e 0;have ec:=E.const;have h0:=tl0;have h1:=tl0b;go_simp;exact rv
     refine Rel.rc 0 ?_;refine rbq 0 ?_;refine rbq 0 ?_;refine rq 1 (fun ev wo E=>?_) ?_
     · have e48:ev (.tmp 48)=.int .i64 (n:Nat):=E.e 0;have ec:=E.const;have h0:=hwm;go_simp;exact rv
     refine rq 2 (fun ev wo E=>?_) ?_
     · have e47:ev (.tmp 47)=.slice (some ⟨gw,ow,none⟩) n c5:=E.e 0;have e49:ev (.tmp 49)=.int .i64 (k:Nat):=E.e 1;have h1:=tm1;have h2:=hm2;have h3:=tm0;go_simp;exact rv
     refine rq 1 (fun ev wo E=>?_) ?_
     · have e50:ev (.tmp 50)=.pointer (some ⟨gw,ow+k*2,none⟩):=E.e 0;have hx0:=(E.bel.cell TL.out.lt).trans TL.out.c0;have hx1:=(E.bel.cell TL.out.lt).trans TL.out.c1;go_simp;exact rv
     refine rq 0 (fun ev wo E=>?_) ?_
     · have e5:ev (.tmp 5)=.pointer (some ⟨bs,0,none⟩):=(E.base 5 rfl).trans rfl;have hx0:=cb_ 0 (bk_ SB.out E.bel) rfl;have hx1:=cb_ 1 (bk_ SB.out E.bel) rfl;go_simp;exact rv
     refine rq 2 (fun ev wo E=>?_) ?_
     · have e51:ev (.tmp 51)=.agg #[.slice rl.a rl.n rl.c,.slice rl.b rl.m rl.d]:=E.e 0;have e52:ev (.tmp 52)=.agg #[.slice r.a r.n r.c,.slice r.b r.m r.d]:=E.e 1;have ef:=E.func;have hsm:=qEj rl r sl s true ⟨fun _=>HSAME.out,fun _=>rfl⟩ wo (RLS.out.to E.bel) (SL.out.to E.bel);go_simp;refine qAb (hsm.mono ?_);rintro e w' ⟨rfl,hb⟩;exact⟨_,rfl,hb,rfl⟩
     refine rf (fun ev wo E=>?_) ?_
     · have e46:ev (.tmp 46)=.bool true:=E.e 0;have e53:ev (.tmp 53)=.bool true:=E.e 1;have ec:=E.const;go_simp;exact rv
     trivial
   · intro wz bz
     (iterate 11 rintro _ rfl);have BZ:=hh_ (HB.out.trans ((B5.out.trans (bz.mono B5.out.size)).mono HB.out.size));clear bz TL RLS SB SL;simp only[qAq];go_simp
     go_wp2_with fail
     go_ret2;have e:=HGO.out;cases e;exact qCl.same HH.out HKM.out HKC.out BZ.out
 · have HSAME :=hh_ hsame;have HNL:=hh_ (show L.getLast?≠some s from fun e=>hsame (by rw[HLAST.out] at e;exact Option.some.inj e));clear hsame;go_upto_region 10 with fail
   refine qAe [isV (.int .i64 (n:Nat)),iT,iT,isV (.slice (some ⟨gw,ow,none⟩) n c5),isV (.int .i64 (n:Nat)),isV (.int .i64 (k:Nat)),isV (.pointer (some ⟨gw,ow+k*2,none⟩)),isV (.agg #[.slice rl.a rl.n rl.c,.slice rl.b rl.m rl.d]),isV (.agg #[.slice r.a r.n r.c,.slice r.b r.m r.d]),iF,iF] (by kernel_rfl) (by kernel_rfl) ?_ ?_
   ·
     refine rb ?_;refine rf (fun ev wo E=>?_) ?_
     · have e44:ev (.tmp 44)=.int .i64 (n:Nat):=E.e 0;have ec:=E.const;have h0:=tl0;have h1:=tl0b;go_simp;exact rv
     refine Rel.rc 0 ?_;refine rbq 0 ?_;refine rbq 0 ?_;refine rq 1 (fun ev wo E=>?_) ?_
     · have e48:ev (.tmp 48)=.int .i64 (n:Nat):=E.e 0;have ec:=E.const;have h0:=hwm;go_simp;exact rv
     refine rq 2 (fun ev wo E=>?_) ?_
     · have e47:ev (.tmp 47)=.slice (some ⟨gw,ow,none⟩) n c5:=E.e 0;have e49:ev (.tmp 49)=.int .i64 (k:Nat):=E.e 1;have h1:=tm1;have h2:=hm2;have h3:=tm0;go_simp;exact rv
     refine rq 1 (fun ev wo E=>?_) ?_
     · have e50:ev (.tmp 50)=.pointer (some ⟨gw,ow+k*2,none⟩):=E.e 0;have hx0:=(E.bel.cell TL.out.lt).trans TL.out.c0;have hx1:=(E.bel.cell TL.out.lt).trans TL.out.c1;go_simp;exact rv
     refine rq 0 (fun ev wo E=>?_) ?_
     · have e5:ev (.tmp 5)=.pointer (some ⟨bs,0,none⟩):=(E.base 5 rfl).trans rfl;have hx0:=cb_ 0 (bk_ SB.out E.bel) rfl;have hx1:=cb_ 1 (bk_ SB.out E.bel) rfl;go_simp;exact rv
     refine rq 2 (fun ev wo E=>?_) ?_
     · have e51:ev (.tmp 51)=.agg #[.slice rl.a rl.n rl.c,.slice rl.b rl.m rl.d]:=E.e 0;have e52:ev (.tmp 52)=.agg #[.slice r.a r.n r.c,.slice r.b r.m r.d]:=E.e 1;have ef:=E.func;have hsm:=qEj rl r sl s false ⟨fun e=>(by cases e),fun e=>absurd e HSAME.out⟩ wo (RLS.out.to E.bel) (SL.out.to E.bel);go_simp;refine qAb (hsm.mono ?_);rintro e w' ⟨rfl,hb⟩;exact⟨_,rfl,hb,rfl⟩
     refine rf (fun ev wo E=>?_) ?_
     · have e46:ev (.tmp 46)=.bool true:=E.e 0;have e53:ev (.tmp 53)=.bool false:=E.e 1;have ec:=E.const;go_simp;exact rv
     trivial
   · intro wz bz
     (iterate 11 rintro _ rfl)
     have BXZ:=hh_ (B5.out.trans (bz.mono B5.out.size));have SBZ:=hh_ (bk_ SB.out bz);have SLZ:=hh_ (SL.out.to bz);have OZ:=hh_ (own_below O5.out bz);have B35:=hh_ (Nat.le_trans S35.out bz.size);clear bz TL RLS SB SL B5 O5 tl0 tl0b hwm tm1 tm0 hm2;simp only[qAq];go_simp;by_cases h64:n=64
     · have hgo:=HG.out.2.1 HNL.out (.inl (by rw[←HN.out];exact h64));rw[HXX.out] at hgo;have HGO:=hh_ (HRES.out.symm.trans hgo);have d1:decide ((64:Int)≤n)=true:=decide_eq_true (by omega);have d2:decide (64≤n)=true:=decide_eq_true (by omega);clear hgo h64;go_wp2_with fail
       go_ret2;have e:=HGO.out;cases e;exact qCl.same HH.out HKM.out HKC.out (HB.out.trans (BXZ.out.mono HB.out.size))
     · have d1:decide ((64:Int)≤n)=false:=decide_eq_false (by omega);have d2:decide (64≤n)=false:=decide_eq_false (by omega);have hn63:n≤63:=by omega
       have HLIM:=hh_ (show ¬(L.length=64∨(qAp G x=none∧G.length=16)) from fun h=>h.elim (fun e=>h64 (by rw[HN.out];exact e)) (fun e=>by rw[HLK.out] at e;cases e.1));have z0:=cb_ 0 (v:=.slice r.a r.n r.c) SBZ.out rfl;have z1:=cb_ 1 (v:=.slice r.b r.m r.d) SBZ.out rfl;clear h64;go_wp2_with fail
       refine(qEg r s wz SLZ.out).mono ?_;rintro en w6 ⟨r',rfl,b6,t6,o61,o62⟩;unfold qBw at o61;unfold OwnI at o62;have bn:=(Below.refl w6.heap.size w6).alloc le_ (.cells #[.slice r'.a r'.n r'.c,.slice r'.b r'.m r'.d] 33);have hz5:=HWX.out;have hz6:=BXZ.out.size;have RK6:=hh_ (show RefK Kp r' from⟨AtK.own o61 (fun b h=>HKP.out b (by omega)) _,AtK.own o62 (fun b h=>HKP.out b (by omega)) _⟩);have bb:=b6.trans (bn.mono b6.size);have B6:=hh_ (BXZ.out.trans (bb.mono BXZ.out.size));have T6:=hh_ (t6.to bn);have O6:=hh_ (own_below OZ.out bb);have HNW:=hh_ (qBs w6 r'.vs 33);have HONE:=hh_ (fun u hu=>qD2 [r'] u (by simpa[scsV] using hu):∀u∈r'.vs,u.oneCell'=true);have HSZ:=hh_ (show w3.heap.size≤(w6.alloc (.cells #[.slice r'.a r'.n r'.c,.slice r'.b r'.m r'.d] 33)).heap.size from Nat.le_trans B35.out bb.size);have HW3:=hh_ (show w.heap.size≤w3.heap.size from Nat.le_trans HB.out.size HBX.out);clear b6 t6 o61 o62 bn bb hz5 hz6 z0 z1 OZ;go_wp2_with (at_builtin;refine qAi rfl (.tmp 70) (.tmp 73) _ rfl w3.heap.size 33 sc _ 2 48 qC8 si sz0 sz1 sz2 rfl (by omega) (.slice (some ⟨gw,ow,none⟩) n c5) n (scsV rs) rfl O6.out _ (some ⟨w6.heap.size,0,none⟩) 1 1 r'.vs rfl rfl HNW.out HONE.out ml_ (by omega) HSZ.out ?_;intro v7 w7 hown7 hg7;have O7:=hh_ hown7;have G7:=hh_ hg7;clear hown7 hg7;obtain⟨A7,c7,hv7,-,-⟩:=qAf O7.out;subst hv7)
       have b7:Below X.heap.size X w7:=qAh O6.out B6.out B6.out.size HBX.out G7.out
       have l7:Lay w7 w7.heap.size A7 (scsV (rs++[r'])):=by
        have h:=Lay.of_own O7.out le_;rw[qHb,show scsV [r']=r'.vs by simp[scsV]];exact h
       have hsc7:qA0 w7 w7.heap.size A7 (rs++[r']) (L++[s]):=qA0.snoc (HIT.out.at_ w7 b7).2.2.len l7 (HIT.out.at_ w7 b7).2.2.each (T6.out.eff (EffT.own O6.out G7.out) n1 n2).lay;have hall:∀t∈L++[s],ScR t.1:=fun t ht=>(List.mem_append.1 ht).elim (HZG.out t) (fun e=>by rw[List.mem_singleton.1 e];exact HZ.out)
       have hch:=qHy w7 A7 (n+1) c7 (rs++[r']) (L++[s]) (by omega) (by rw[List.length_append,(HIT.out.at_ w7 b7).2.2.len,←HN.out];rfl) hsc7 hall;have RK7:=hh_ (show qDt Kp A7 (rs++[r']) from HRK.out.snoc (AtK.own O7.out (fun b h=>HKP.out b (by have:=HW3.out;omega)) _) RK6.out);obtain⟨K,hK⟩:∃K,qAs (L++[s])=K:=⟨_,rfl⟩;rw[hK] at hch;have HCH:=hh_ hch;have HK:=hh_ hK;have B7:=hh_ b7;have SC7:=hh_ hsc7;clear b7 l7 hsc7 hall hch hK T6 O6 G7 B6 O7;by_cases hk0:K=0
       · subst hk0;have hgo:=HG.out.2.2.2 HNL.out HLIM.out HK.out;have hres:=HRES.out;rw[←HXX.out] at hres;rw[←HN.out] at hgo;have HGO:=hh_ (hres.symm.trans hgo);have hok:=HOK.out;have hge:=congrArg Prod.fst HGO.out;simp only at hge;rw[hge] at hok;have HOK2:=hh_ (show RgOk (qBl G x (L++[s])) from hok);clear hgo hres hok hge;refine HCH.out.mono ?_;rintro en w9 ⟨rfl,b9⟩;have b9':=B7.out.trans (b9.mono B7.out.size);obtain⟨c0,c1,hsc9⟩:=HIT.out.at_ w9 b9';rw[Nat.zero_add] at c1;have h9:=HX'.out.to b9';have hco:=h9.co;have hst:=World.ownsRow.stored hco ps (.slice A7 (n+1) c7);have fz:w9.frozen? ⟨g,ps,none⟩=false:=World.ownsRow.frozenAt hco _;have hwn:=iw_ ((n:Int)+1) (by omega);obtain⟨-,-,cs9,hq9⟩:=h9.zero;have he:EffT 36 w9 (w9.setCell ⟨g,ps,none⟩ (.slice A7 (n+1) c7)):=EffT.set hq9 ps _;have hcg:¬Kp g:=HKC.out g rfl;have hput:qBl G x (L++[s])=G.set ps (x,L++[s]):=by rw[qJ9 x (L++[s]) HUP.out,if_pos HBB.out,HPS.out]
         have hsc9':=SC7.out.to b9
         have hnew:(n+1)=(L++[s]).length∧∃rs',qA0 (w9.setCell ⟨g,ps,none⟩ (.slice A7 (n+1) c7)) (w9.setCell ⟨g,ps,none⟩ (.slice A7 (n+1) c7)).heap.size A7 rs' (L++[s])∧qDt Kp A7 rs':=
           ⟨by rw[List.length_append,←HN.out];rfl,_,hsc9'.kwr hst.2 hcg RK7.out,RK7.out⟩
         have hlay:RrL Kp B m vn (.slice (some ⟨g,0,none⟩) G.length cc) (H.set ps (A7,n+1,c7)) (qBl G x (L++[s])) (w9.setCell ⟨g,ps,none⟩ (.slice A7 (n+1) c7)):=by
          have hok:=HOK2.out;rw[hput] at hok ⊢;refine⟨he.keep h9.box (by decide),?_,?_,by rw[List.length_set,List.length_set];exact h9.len,?_,hok,h9.hB⟩
          · rw[List.length_set,qXh HGQ.out];exact EffT.row h9.nm he (by decide)
          · rw[List.length_set,qUy];exact hst.1
          · exact qVd (Q:=fun (h:ChR) (p:Bs×List Sc)=>h.2.1=p.2.length∧∃rs',qA0 (w9.setCell ⟨g,ps,none⟩ (.slice A7 (n+1) c7)) (w9.setCell ⟨g,ps,none⟩ (.slice A7 (n+1) c7)).heap.size h.1 rs' p.2∧qDt Kp h.1 rs') (fun i h p e1 e2=>by
              obtain⟨e,rs',h4,h5⟩:=h9.each i h p e1 e2
              exact⟨e,rs',h4.kwr hst.2 hcg h5,h5⟩) hnew
         have bw:=HB.out.trans (b9'.mono HB.out.size)
         have FIN:=hh_ (show qCl Kp B m (.slice (some ⟨g,0,none⟩) G.length cc) w (qBl G x (L++[s])) ((n:Int)+1) 0 (.returned (.tuple #[.int .i64 ((n:Int)+1),.int .i64 0])) (w9.setCell ⟨g,ps,none⟩ (.slice A7 (n+1) c7)) from
           ⟨rfl,Kp,_,_,_,g,fun _ h=>h,hlay,HKM.out,HKC.out,qB1 (qBi bw _) hst.2,.inr rfl,fun b e=>.inl e⟩)
         clear b9 b9' h9 hco hst hq9 he hcg hput hsc9' hnew hlay bw hsc9 HCH;go_wp2_with fail
         go_ret2;have e:=HGO.out;cases e;exact FIN.out
       · have hgo:=HG.out.2.2.1 HNL.out HLIM.out (fun e=>hk0 (HK.out.symm.trans e));rw[HXX.out] at hgo;have HGO:=hh_ (HRES.out.symm.trans hgo);have hkn:(K != 0)=true:=by simpa using hk0
         clear hgo;refine HCH.out.mono ?_;rintro en w9 ⟨rfl,b9⟩;have BW:=hh_ (HB.out.trans ((B7.out.trans (b9.mono B7.out.size)).mono HB.out.size));clear b9;go_wp2_with fail
         go_ret2;have e:=HGO.out;cases e;exact qCl.same HH.out HKM.out HKC.out BW.out
end Go.Proofs.YtainiaighnjpfaaGreatDoor
namespace Go.Ms
open Go.RowKit Go.Lib Go.Maps
def OffB (r q:SRef):Prop:=(∀x,(Value.slice r.a r.n r.c).ownBlock=some x→(Value.slice q.a q.n q.c).ownBlock≠some x)∧(∀x,(Value.slice r.b r.m r.d).ownBlock=some x→(Value.slice q.b q.m q.d).ownBlock≠some x)
def LtB (B:Nat) (r:SRef):Prop:=(∀x,(Value.slice r.a r.n r.c).ownBlock=some x→x<B)∧(∀x,(Value.slice r.b r.m r.d).ownBlock=some x→x<B)
structure ScO (tC tI:TypeId) (B:Nat) (W:World) (r:SRef) (s:Sc):Prop where
  co:qBw W B tC (.slice r.a r.n r.c) s.1
  ki:OwnI W B tI (.slice r.b r.m r.d) s.2
  ty:ScT tC tI W r s
section
variable {tC tI tS:TypeId} {B B':Nat} {W W':World} {r:SRef} {s:Sc}
theorem ScO.to (h:ScO tC tI B W r s) (hb:Below W.heap.size W W'):ScO tC tI B W' r s:=⟨own_below h.co hb,own_below h.ki hb,h.ty.to hb⟩
theorem ScO.more (h:ScO tC tI B W r s) (hb:B'≤B):ScO tC tI B' W r s:=⟨qAv h.co hb,qAv h.ki hb,h.ty⟩
theorem ScO.eff (h:ScO tC tI B W r s) (he:EffT tS W W') (n1:tC≠tS) (n2:tI≠tS):ScO tC tI B W' r s:=⟨EffT.row h.co he n1,EffT.row h.ki he n2,h.ty.eff he n1 n2⟩
theorem ScO.lt (h:ScO tC tI B W r s):LtB W.heap.size r:=⟨fun x e=>(World.ownsRow.lt h.co x e).2,fun x e=>(World.ownsRow.lt h.ki x e).2⟩
theorem ScO.ge (h:ScO tC tI B W r s):(∀x,(Value.slice r.a r.n r.c).ownBlock=some x→B≤x)∧(∀x,(Value.slice r.b r.m r.d).ownBlock=some x→B≤x):=⟨fun x e=>(World.ownsRow.lt h.co x e).1,fun x e=>(World.ownsRow.lt h.ki x e).1⟩
end
structure ChO (tS tC tI:TypeId) (v:Value) (rs:List SRef) (ss:List Sc) (w W:World):Prop where
  own:W.ownsRow w.heap.size tS 2 v rs.length (scsV rs)
  each:∀(i:Nat) r s,rs[i]?=some r→ss[i]?=some s→ScO tC tI w.heap.size W r s
  apart:∀(i j:Nat) r q,i<j→rs[i]?=some r→rs[j]?=some q→OffB r q
  len:rs.length≤ss.length
  bel:Below w.heap.size w W
section
variable {tS tC tI:TypeId} {v:Value} {rs:List SRef} {ss:List Sc} {w W W':World}
theorem ChO.nil:ChO tS tC tI (.slice none 0 0) [] ss w w:=⟨World.ownsRow_nil _ _ _ _,fun i r s h=>by simp at h,fun i j r q _ h=>by simp at h,Nat.zero_le _,Below.refl _ _⟩
theorem ChO.to (h:ChO tS tC tI v rs ss w W) (hb:Below W.heap.size W W'):ChO tS tC tI v rs ss w W':=
  ⟨own_below h.own hb,fun i r s h1 h2=>(h.each i r s h1 h2).to hb,h.apart,h.len,h.bel.trans (hb.mono h.bel.size)⟩
theorem ChO.lt (h:ChO tS tC tI v rs ss w W):∀(i:Nat) r,rs[i]?=some r→LtB W.heap.size r:=fun i r hr=>by
 have hl:=(List.getElem?_eq_some_iff.1 hr).1;exact(h.each i r _ hr (List.getElem?_eq_getElem (Nat.lt_of_lt_of_le hl h.len))).lt
theorem ChO.push (h:ChO tS tC tI v rs ss w W) (n1:tC≠tS) (n2:tI≠tS) {v':Value} {r:SRef} {s:Sc} {base:Nat} (hs:ss[rs.length]?=some s) (hr:ScO tC tI base W r s) (hw:w.heap.size≤base) (hold:∀(i:Nat) q,rs[i]?=some q→LtB base q)
    (ho:W'.ownsRow w.heap.size tS 2 v' (rs.length+1) (scsV rs++r.vs)) (hg:W.grownBy W' v.ownBlock):ChO tS tC tI v' (rs++[r]) ss w W':=by
 have he:=EffT.own h.own hg;have hl:=(List.getElem?_eq_some_iff.1 hs).1;refine⟨?_,fun i r' s' h1 h2=>?_,fun i j p q hij h1 h2=>?_,by rw[List.length_append,List.length_singleton];omega,qAh h.own h.bel h.bel.size le_ hg⟩
 · rw[List.length_append,qHb,show scsV [r]=r.vs by simp[scsV]];exact ho
 · by_cases hi:i<rs.length
   · rw[List.getElem?_append_left hi] at h1;exact(h.each i r' s' h1 h2).eff he n1 n2
   · have h3:=(List.getElem?_eq_some_iff.1 h1).1;rw[List.length_append,List.length_singleton] at h3;obtain rfl:i=rs.length:=by omega
     rw[List.getElem?_append_right le_,Nat.sub_self] at h1;rw[hs] at h2;cases h1;cases h2;exact(hr.more hw).eff he n1 n2
 · have h3:=(List.getElem?_eq_some_iff.1 h2).1;rw[List.length_append,List.length_singleton] at h3;rw[List.getElem?_append_left (by omega)] at h1;by_cases hj:j<rs.length
   · rw[List.getElem?_append_left hj] at h2;exact h.apart i j p q hij h1 h2
   · obtain rfl:j=rs.length:=by omega
     rw[List.getElem?_append_right le_,Nat.sub_self] at h2;cases h2;have hp:=hold i p h1;have hq:=hr.ge;exact⟨fun x e1 e2=>Nat.lt_irrefl _ (Nat.lt_of_lt_of_le (hp.1 x e1) (hq.1 x e2)),fun x e1 e2=>Nat.lt_irrefl _ (Nat.lt_of_lt_of_le (hp.2 x e1) (hq.2 x e2))⟩
theorem ChO.scs (h:ChO tS tC tI v rs ss w W) (hl:rs.length=ss.length):∃A c,v=.slice A rs.length c∧rs.length≤c∧c≤maxLen∧qA0 W W.heap.size A rs ss:=by
 obtain⟨A,c,rfl,h1,h2⟩:=qAf h.own;exact⟨A,c,rfl,h1,h2,hl,Lay.of_own h.own le_,fun i r s h1 h2=>(h.each i r s h1 h2).ty.lay⟩
end
end Go.Ms
namespace Go.Proofs.YtainiaighnjpfaaGreatDoor
open Go.RowKit Go.Ms Go.Lib Go.Maps Go.WideMaps
def zBl (w:World) (L:List Sc) (e:Ending) (w':World):Prop:= ∃(v:Value) (rs:List SRef),e=.returned v∧rs.length=L.length∧ChO 33 45 3 v rs L w w'
theorem qM3 {Kp:Nat→Prop} (g:Nat) (G:Rg) (S:ByteArray) (w:World) (hS:S.size≤100000) (h:RgLK Kp g G w) :
    Calls Tryz.prog 12 #[.pointer (some ⟨g,0,none⟩),.string S] w (zBl w (rgAt G S.data.toList)):=by
 obtain⟨sc,si,sz0,sz1,sz2⟩:=info_parts qCz;have hf:=qFs g G S w hS h
 have hlen:(rgAt G S.data.toList).length≤64:=by
  obtain⟨_,_,_,ha⟩:=h;by_cases e:rgAt G S.data.toList=[]
  · rw[e];exact Nat.zero_le _
  · exact ha.ok.few _ (qEq e)
 generalize (if (qAp G S.data.toList).isSome=true then (0:Int) else 130)=E at hf;generalize rgAt G S.data.toList=L at hf hlen;have n1:(45:TypeId)≠33:=by decide
 have n2:(3:TypeId)≠33:=by decide
 have HF:=hh_ hf;clear hf h hS;obtain⟨n,hn⟩:∃n,L.length=n:=⟨_,rfl⟩;rw[hn] at HF hlen;have HN:=hh_ hn;clear hn;go_enter Tryz.func12,Tryz.ntmps12;go_wp2_with fail
 refine HF.out.mono ?_;rintro e w' ⟨⟨A,c,rs,rfl,hl⟩,hw⟩;rw[hw];clear hw HF;have HL:=hh_ hl;clear hl;go_wp2_with fail
 go_loopw [4,17] (fun s4 s17 wr=> ∃(k:Nat) (qs:List SRef),k≤n∧s17=.int .i64 k∧qs.length=k∧ChO 33 45 3 s4 qs L w wr) (fun _ s17 _=>n-(RowKit.intOf s17).toNat)
 case atStart=>exact⟨0,[],Nat.zero_le _,rfl,rfl,ChO.nil⟩
 case round=>
  obtain⟨k,qs,hk,rfl,hq,hst⟩:=hrel;by_cases hk2:k<n
  · have tk:(k:Int)<n:=by omega
    obtain⟨s,hs⟩:∃s,L[k]?=some s:=⟨_,List.getElem?_eq_getElem (by rw[HN.out];exact hk2)⟩;obtain⟨r,hr⟩:∃r,rs[k]?=some r:=⟨_,List.getElem?_eq_getElem (by rw[HL.out.len,HN.out];exact hk2)⟩;obtain⟨ga,oa,ea,ta⟩:=HL.out.at_ hr;subst ea;have ta2:=ta.below hst.bel;have y0:=ta2.c0;have y1:=ta2.c1;have hone:=(HL.out.each k r s hr hs).to hst.bel;have ST:=hh_ hst;have HS:=hh_ hs;have HO:=hh_ hone;have HQ:=hh_ hq;clear hst hs hone ta ta2 hr hq;go_upto_region 5 with fail
    obtain⟨Y,hY⟩:∃Y,Y=wr.alloc (.cells #[.slice r.a r.n r.c,.slice r.b r.m r.d] 33):=⟨_,rfl⟩;have bY:Below wr.heap.size wr Y:=by rw[hY];exact br_.alloc le_ _
    have qY:Y.heap[wr.heap.size]?=some (.cells #[.slice r.a r.n r.c,.slice r.b r.m r.d] 33 (0,0)):=by rw[hY];exact qAd _ _
    have z0:=cb_ 0 (v:=.slice r.a r.n r.c) qY rfl;have z1:=cb_ 1 (v:=.slice r.b r.m r.d) qY rfl;rw[←hY];have SY:=hh_ (ST.out.to bY);have OY:=hh_ (HO.out.to bY);clear hY bY qY ST HO y0 y1;go_wp2_with fail
    refine(qEe r s Y OY.out).mono ?_;rintro e w2 ⟨r',rfl,hb,ht,ho1,ho2⟩;have bn:=(Below.refl w2.heap.size w2).alloc le_ (.cells #[.slice r'.a r'.n r'.c,.slice r'.b r'.m r'.d] 33);have S2:=hh_ ((SY.out.to hb).to bn);have T2:=hh_ ((ScO.mk ho1 ho2 ht:ScO 45 3 Y.heap.size w2 r' s).to bn);have HOLD:=hh_ SY.out.lt;have HWY:=hh_ SY.out.bel.size;have HNW:=hh_ (qBs w2 r'.vs 33);have HONE:=hh_ (fun u hu=>qD2 [r'] u (by simpa[scsV] using hu):∀u∈r'.vs,u.oneCell'=true);have hsz:=S2.out.bel.size;have HSZ:=hh_ hsz;have hql:=HQ.out;clear hb ht ho1 ho2 bn SY z0 z1 hsz;go_wp2_with (at_builtin;refine qAi rfl (.tmp 21) (.tmp 24) _ rfl w.heap.size 33 sc _ 2 48 qC8 si sz0 sz1 sz2 rfl (by omega) _ _ _ rfl S2.out.own _ (some ⟨w2.heap.size,0,none⟩) 1 1 r'.vs rfl rfl HNW.out HONE.out ml_ (by omega) HSZ.out ?_;intro v8 w8 hown8 hg8;have S8:=hh_ (S2.out.push n1 n2 (by rw[hql];exact HS.out) T2.out HWY.out HOLD.out hown8 hg8);clear hown8 hg8)
    go_roundw
    case rel=>exact⟨k+1,_,by omega,by go_num,by rw[List.length_append,hql];rfl,S8.out⟩
    case measure=>simp[RowKit.intOf];omega
  · obtain rfl:k=n:=by omega
    have ST:=hh_ hst;have HQ:=hh_ hq;clear hst hq;go_wp2_with fail
    go_ret;exact⟨_,qs,rfl,HQ.out.trans HN.out.symm,ST.out⟩
end Go.Proofs.YtainiaighnjpfaaGreatDoor
namespace Go.Ms
open Go.RowKit Go.Lib Go.Maps
theorem qIx {G:Rg} {Q:Sc→Prop} (h:∀p∈G,∀s∈p.2,Q s) (x:Bs):∀s∈rgAt G x,Q s:=fun s hs=>h _ (qEq (List.ne_nil_of_mem hs)) s hs
theorem qSw {G:Rg} {Q:Sc→Prop} (h:∀p∈G,∀s∈p.2,Q s) {x:Bs} {s:Sc} (hs:Q s):∀p∈(qBf G x s).1,∀t∈p.2,Q t:=by
 unfold qBf;split
 · exact h
 · split
   · exact h
   · split
     · exact h
     · split
       · exact h
       · split
         · intro p hp t ht;rcases qDh hp with rfl|hp
           · rcases List.mem_append.1 ht with ht|ht
             · exact qIx h x t ht
             · rw[List.mem_singleton.1 ht];exact hs
           · exact h p hp t ht
         · exact h
structure PlX (P:Program) (tS tN tR uR uC:TypeId) (Kr Km:Nat→Prop) (g m B:Nat) (vn vc:Value) (H:List ChR) (G G':Rg) (W:World):Prop where
  lr:qCr Kr P tS tN tR g G W
  lm:qDn uR tS uC Km B m vn vc H G' W
  rm:¬Kr m
  rc:∀b,vc.ownBlock=some b→¬Kr b
  mm:¬Km m
  mc:∀b,vc.ownBlock=some b→¬Km b
  mg:¬Km g
section
variable {P:Program} {tS tN tR uR uC:TypeId} {Kr Km:Nat→Prop} {g m B:Nat} {vn vc:Value} {H:List ChR} {G G':Rg} {W W':World}
theorem PlX.to (h:PlX P tS tN tR uR uC Kr Km g m B vn vc H G G' W) (hb:Below W.heap.size W W'):PlX P tS tN tR uR uC Kr Km g m B vn vc H G G' W':=⟨h.lr.to hb,h.lm.to hb,h.rm,h.rc,h.mm,h.mc,h.mg⟩
theorem PlX.ltm (h:PlX P tS tN tR uR uC Kr Km g m B vn vc H G G' W):m<W.heap.size:=(Array.getElem?_eq_some_iff.1 h.lm.box).1
theorem PlX.ltc (h:PlX P tS tN tR uR uC Kr Km g m B vn vc H G G' W):∀b,vc.ownBlock=some b→b<W.heap.size:=fun b e=>(World.ownsRow.lt h.lm.co b e).2
theorem PlX.ltg (h:PlX P tS tN tR uR uC Kr Km g m B vn vc H G G' W):g<W.heap.size:=by obtain⟨_,_,_,h⟩:=h.lr;exact(Array.getElem?_eq_some_iff.1 h.box).1
theorem PlX.fresh (h:PlX P tS tN tR uR uC Kr Km g m B vn vc H G G' W) (hb:Below W.heap.size W W') :
    PlX P tS tN tR uR uC (fun b=>(Kr b∧b<W.heap.size)∨W'.heap.size≤b) (fun b=>(Km b∧b<W.heap.size)∨W'.heap.size≤b) g m B vn vc H G G' W':=by
 have hz:=hb.size;refine⟨(h.lr.belowK.to hb).weak (fun b e=>.inl e),(h.lm.belowK.to hb).weak (fun b e=>.inl e),?_,fun b e=>?_,?_,fun b e=>?_,?_⟩
 · have:=h.ltm;rintro(e|e)
   · exact h.rm e.1
   · omega
 · have:=h.ltc b e;rintro(k|k)
   · exact h.rc b e k.1
   · omega
 · have:=h.ltm;rintro(e|e)
   · exact h.mm e.1
   · omega
 · have:=h.ltc b e;rintro(k|k)
   · exact h.mc b e k.1
   · omega
 · have:=h.ltg;rintro(e|e)
   · exact h.mg e.1
   · omega
theorem PlX.addR {G2:Rg} (h:PlX P tS tN tR uR uC Kr Km g m B vn vc H G G' W) (hl:qCr Kr P tS tN tR g G2 W') (hg:W.grownBy W' (some g)) (n1:uR≠tR) (n2:tS≠tR) (n3:uC≠tR):PlX P tS tN tR uR uC Kr Km g m B vn vc H G2 G' W':=by
 have hq:∃cs,W.heap[g]?=some (.cells cs tR (0,0)):=by obtain⟨_,_,_,h⟩:=h.lr;exact⟨_,h.box⟩
 obtain⟨cs,hq⟩:=hq;exact⟨hl,h.lm.kwr hg h.mg hq n1 n2 n3,h.rm,h.rc,h.mm,h.mc,h.mg⟩
theorem PlX.spoil {C size n:Nat} {e:TypeId} {v:Value} {xs:List Value} (h:PlX P tS tN tR uR uC Kr Km g m B vn vc H G G' W) (ho:W.ownsRow C e size v n xs) (hg:W.grownBy W' v.ownBlock) (hr:∀c,v.ownBlock=some c→¬Kr c) (hm:∀c,v.ownBlock=some c→¬Km c)
    (n1:e≠tR) (n2:e≠tN) (n3:e≠uR) (n4:e≠tS) (n5:e≠uC):PlX P tS tN tR uR uC Kr Km g m B vn vc H G G' W':=
  ⟨h.lr.kwrO ho hg hr n1 n2,h.lm.kwrO ho hg hm (Ne.symm n3) (Ne.symm n4) (Ne.symm n5),h.rm,h.rc,h.mm,h.mc,h.mg⟩
theorem PlX.addM {Km':Nat→Prop} {vn' vc':Value} {H':List ChR} {c:Nat} {G2:Rg} (h:PlX P tS tN tR uR uC Kr Km g m B vn vc H G2 G W) (hk:∀b,Km' b→Km b) (hl:qDn uR tS uC Km' B m vn' vc' H' G2 W') (hm:¬Km' m) (hc:∀b,vc'.ownBlock=some b→¬Km' b)
    (hg:W.grownBy W' (some c)) (hw:c=m∨vc.ownBlock=some c) (hn:∀b,vc'.ownBlock=some b→vc.ownBlock=some b∨W.heap.size≤b) (n1:uR≠tR) (n2:uR≠tN) (n3:uC≠tR) (n4:uC≠tN) :
    PlX P tS tN tR uR uC (fun b=>Kr b∧b<W.heap.size) Km' g m B vn' vc' H' G2 G2 W':=by
 have hr:=h.lr.belowK;refine⟨?_,hl,fun e=>h.rm e.1,fun b e k=>?_,hm,hc,fun e=>h.mg (hk _ e)⟩
 · rcases hw with rfl|e
   · exact hr.kwrT hg (fun e=>h.rm e.1) h.lm.box n1 n2
   · rcases h.lm.co.2 with⟨rfl,_⟩|⟨c',cap,cur,rfl,_,hq,_⟩
     · simp[Value.ownBlock] at e
     · obtain rfl:c'=c:=by simpa[Value.ownBlock] using e
       exact hr.kwrT hg (fun e2=>h.rc _ e e2.1) hq n3 n4
 · rcases hn b e with e|e
   · exact h.rc b e k.1
   · exact Nat.lt_irrefl _ (Nat.lt_of_lt_of_le k.2 e)
theorem PlX.effM {c:Nat} {W':World} (h:PlX P tS tN tR uR uC Kr Km g m B vn vc H G G' W) (hg:W.grownBy W' (some c)) (hw:c=m∨vc.ownBlock=some c):EffT uR W W'∨EffT uC W W':=by
 rcases hw with rfl|e
 · exact .inl ⟨some c,hg,fun g' e=>by cases e;exact⟨_,_,h.lm.box⟩⟩
 · rcases h.lm.co.2 with⟨rfl,_⟩|⟨c',cap,cur,rfl,_,hq,_⟩
   · simp[Value.ownBlock] at e
   · obtain rfl:c'=c:=by simpa[Value.ownBlock] using e
     exact .inr ⟨some c',hg,fun g' e=>by cases e;exact⟨_,_,hq⟩⟩
theorem PlX.effR (h:PlX P tS tN tR uR uC Kr Km g m B vn vc H G G' W) (hg:W.grownBy W' (some g)):EffT tR W W':=h.lr.effT hg
end
end Go.Ms
