/- The reference of evolve: a row carried along a chain. Evolve's laws: what few, cells and the copies answer, as lists that lie in memory. An append to a row of one's own: the row's block is the one that it was, or a new one. -/
import Derived.Test.YtikpmmipopmjaaaGreatDoorZQan
import Derived.Test.YtikpmmipopmjaaaGreatDoorZQao
import Derived.Test.YtikpmmipopmjaaaGreatDoorZQag
import Derived.Test.YtikpmmipopmjaaaGreatDoorZQak
import Derived.Test.YtikpmmipopmjaaaGreatDoorZQah
import Derived.Test.YtikpmmipopmjaaaGreatDoorZQa
import Derived.Test.YtikpmmipopmjaaaGreatDoorZQp
import Derived.Test.YtikpmmipopmjaaaGreatDoorZQai
set_option linter.unusedVariables false
set_option linter.unusedSimpArgs false
namespace Go.Proofs.YtikpmmipopmjaaaGreatDoor
open Go.RowKit Go.Ms Go.Lib Go.Shelf Go.Rel
set_option maxRecDepth 100000 in
set_option maxHeartbeats 4000000 in
theorem qTc (w:World) (L:Option Addr) (n cap:Nat) (rs:List SRef) (ss:List Sc) (f t:Int) (C:Option Addr) (q qcap:Nat) (r:List Cl) (hn':n≤100000) (hn:n=rs.length) (hL:qDb w w.heap.size L rs ss) (hz:∀s∈ss,ScR s.1)
    (hf: -9223372036854775808≤f∧f≤9223372036854775807) (ht: -9223372036854775808≤t∧t≤9223372036854775807) (hr:qJg w C q r) (hok:CsOk r) :
    Calls Tryz.prog 24 #[.slice L n cap,.int .i64 f,.int .i64 t,.slice C q qcap] w (qE6 w (qCe ss f t r).1 (qCe ss f t r).2):=by
 have hns:n=ss.length:=hn.trans hL.len;have hch:=qLn w L n cap rs ss hn' hn hL hz
 by_cases h0:qA6 ss=0
 case neg=>
  rw[qRc h0]
  generalize qA6 ss=Z at hch h0 ⊢
  have h0':(Z != 0)=true:=by simpa using h0
  have HC:=Lib.hid hch;clear hch hn hL hz hr hok hns
  go_enter Tryz.func24,Tryz.ntmps24
  go_wp2_with fail
  refine HC.out.mono ?_;rintro en w1 ⟨rfl,b1⟩;have B1:=Lib.hid b1;clear b1
  go_wp2_with fail
  go_ret2
  exact⟨_,rfl,World.ownsRow_nil _ _ _ _,B1.out⟩
 rw[h0] at hch
 by_cases ho:f<1∨t<f∨(ss.length:Int)<t
 · rw[qOa h0 ho]
   have HC:=Lib.hid hch;have HO:=Lib.hid ho;have HNS:=Lib.hid hns
   clear hch hn hL hz hr hok hns ho h0
   by_cases c1:f<1
   · go_enter Tryz.func24,Tryz.ntmps24
     go_wp2_with fail
     refine HC.out.mono ?_;rintro en w1 ⟨rfl,b1⟩;have B1:=Lib.hid b1;clear b1
     go_wp2_with fail
     go_ret2
     exact⟨_,rfl,World.ownsRow_nil _ _ _ _,B1.out⟩
   · by_cases c2:t<f
     · go_enter Tryz.func24,Tryz.ntmps24
       go_wp2_with fail
       refine HC.out.mono ?_;rintro en w1 ⟨rfl,b1⟩;have B1:=Lib.hid b1;clear b1
       go_wp2_with fail
       go_ret2
       exact⟨_,rfl,World.ownsRow_nil _ _ _ _,B1.out⟩
     · have c3:(n:Int)<t:=by have:=HO.out;have:=HNS.out;omega
       go_enter Tryz.func24,Tryz.ntmps24
       go_wp2_with fail
       refine HC.out.mono ?_;rintro en w1 ⟨rfl,b1⟩;have B1:=Lib.hid b1;clear b1
       go_wp2_with fail
       go_ret2
       exact⟨_,rfl,World.ownsRow_nil _ _ _ _,B1.out⟩
 obtain⟨F,rfl⟩:∃F:Nat,f=F:=⟨f.toNat,by omega⟩;obtain⟨T,rfl⟩:∃T:Nat,t=T:=⟨t.toNat,by omega⟩
 have h1:1≤F:=by omega
 have h2:F≤T:=by omega
 have h3:T≤ss.length:=by omega
 have i1:¬(F:Int)<1:=by omega
 have i2:¬(T:Int)<F:=by omega
 have i3:¬(n:Int)<T:=by omega
 have i4:(1:Int)≤F:=by omega
 have i5:(F:Int)-1<n:=by omega
 have i6:F-1<n:=by omega
 have hw:IntKind.i64.wrap ((F:Int)-1)=(F:Int)-1:=IntWalk.i64_in _ (by omega);have hsp:=getD_at (l:=ss) (i:=F-1) (by omega);obtain⟨rp,hrp⟩:∃r,rs[F-1]?=some r:=⟨_,List.getElem?_eq_getElem (by rw[←hn];omega)⟩;obtain⟨g,o,eL,hg⟩:=hL.at_ hrp;subst eL
 have h5:=fun (W:World) (hb:Below w.heap.size w W)=>qH4 W rp.a C rp.n rp.c q qcap (qC0 (ss.getD (F-1) zSc).1) (colV (ss.getD (F-1) zSc).1)  r hok (by have:=(hL.each _ _ _ hrp hsp).nn;unfold maxLen;omega) (by have:=hr.qq;unfold maxLen;omega) (by rw[qC9];exact(hL.each _ _ _ hrp hsp).n) hr.ql ((hL.each _ _ _ hrp hsp).to hb).la.cols (hr.to hb).lay
 by_cases hc:qBx (qC0 (ss.getD (F-1) zSc).1) r=0
 case neg=>
  rw[qOz h0 h1 h2 h3 hc]
  generalize qBx (qC0 (ss.getD (F-1) zSc).1) r=Z at h5 hc ⊢
  have hcz:(Z != 0)=true:=by simpa using hc
  have HC:=Lib.hid hch;have H5:=Lib.hid h5;have G:=Lib.hid hg
  clear hch hn hL hz hr hok hns h0 ho hc h5 hsp hrp hg h1 h2 h3
  go_enter Tryz.func24,Tryz.ntmps24
  go_wp2_with fail
  refine HC.out.mono ?_;rintro en w1 ⟨rfl,b1⟩;have B1:=Lib.hid b1;have g1:=(G.out.below b1).c0;clear b1
  go_wp2_with fail
  refine(H5.out _ B1.out).mono ?_;rintro en w2 ⟨rfl,b2⟩;have B2:=Lib.hid (B1.out.trans (b2.mono B1.out.size));clear b2 g1
  go_wp2_with fail
  go_ret2
  exact⟨_,rfl,World.ownsRow_nil _ _ _ _,B2.out⟩
 have hlen:=(qE0 hc).1;rw[qC9] at hlen;have hcok:=qFq h0
 have hcl:=fun (W:World) (hb:Below w.heap.size w W)=>qI1 W C q qcap r hr.qq hr.ql (hr.to hb).lay
 rw[qOf h0 h1 h2 h3 hc];rw[hc] at h5
 have HC:=Lib.hid hch;have H5:=Lib.hid h5;have G:=Lib.hid hg;have HCL:=Lib.hid hcl;have HOK:=Lib.hid hcok;have HLEN:=Lib.hid hlen;have HN:=Lib.hid hn;have HNS:=Lib.hid hns;have HL:=Lib.hid hL;have HR:=Lib.hid hr;have P1:=Lib.hid h1;have P2:=Lib.hid h2;have P3:=Lib.hid h3
 clear hch hn hL hz hr hok hns h0 ho hc h5 hsp hg hcl hcok hlen h1 h2 h3
 go_enter Tryz.func24,Tryz.ntmps24
 go_wp2_with fail
 refine HC.out.mono ?_;rintro en w1 ⟨rfl,b1⟩;have B1:=Lib.hid b1;have g1:=(G.out.below b1).c0;clear b1
 go_wp2_with fail
 refine(H5.out _ B1.out).mono ?_;rintro en w2 ⟨rfl,b2⟩;have B2:=Lib.hid (B1.out.trans (b2.mono B1.out.size));clear b2 g1
 go_wp2_with fail
 refine(HCL.out _ B2.out).mono ?_;rintro en w3 ⟨v0,rfl,ho3,b3⟩
 have B3:=Lib.hid (B2.out.trans (b3.mono B2.out.size));have O3:=Lib.hid (qBp ho3 B2.out.size)
 clear b3 ho3
 go_wp2_with fail
 go_loopw [12,13] (fun v i wr=> ∃j:Nat,i=.int .i64 j∧F≤j∧j≤T∧OwnC wr w.heap.size 57 v (qDv ss F (j-F) r)∧Below w.heap.size w wr) (fun _ i _=>T-(RowKit.intOf i).toNat)
 case atStart=>exact⟨F,rfl,Nat.le_refl _,P2.out,by rw[Nat.sub_self];exact O3.out,B3.out⟩
 case round=>
  obtain⟨j,rfl,hj1,hj2,hown,hb⟩:=hrel;obtain⟨A3,c3,rfl,hc3,hcm3⟩:=qAg hown
  by_cases hlt:j<T
  · have hlti:(j:Int)<T:=by omega
    have hsn:=qFw (l:=ss) (f:=F) (k:=j-F) P1.out (by have:=P3.out;omega) r;have hcr:=qI0 (l:=ss) P1.out HLEN.out (j-F) (by have:=P3.out;omega);rw[show F+(j-F)=j by omega] at hsn hcr;have hP3:=P3.out;have hNS:=HNS.out;have hP1:=P1.out;have hsa:=getD_at (l:=ss) (i:=j-1) (by omega);have hsb:=getD_at (l:=ss) (i:=j) (by omega);obtain⟨ra,hra⟩:∃r,rs[j-1]?=some r:=⟨_,List.getElem?_eq_getElem (by rw[←HN.out];omega)⟩;obtain⟨rb,hrb⟩:∃r,rs[j]?=some r:=⟨_,List.getElem?_eq_getElem (by rw[←HN.out];omega)⟩
    have pa:=(HL.out.each _ _ _ hra hsa).to hb;have pb:=(HL.out.each _ _ _ hrb hsb).to hb;obtain⟨ua,ia⟩:=qIy (HOK.out _ (List.mem_of_getElem? hsa));obtain⟨-,ib⟩:=qIy (HOK.out _ (List.mem_of_getElem? hsb));obtain⟨g',o',e1,ga⟩:=HL.out.at_ hra
    cases e1
    obtain⟨g',o',e2,gb⟩:=HL.out.at_ hrb
    cases e2
    have lR:=Lay.of_own hown (Nat.le_refl _)
    generalize hSA:ss.getD (j-1) zSc=sa at hsa hsn hcr pa ua ia
    generalize hSB:ss.getD j zSc=sb at hsb hsn pb ib
    generalize hRR:qDv ss F (j-F) r=R at hown hsn hcr lR hc3
    have hm:=fun (W:World) (hb2:Below wr.heap.size wr W)=>qMe ra.a ra.b ra.n ra.c ra.m ra.d sa.1 sa.2 rb.a rb.b rb.n rb.c rb.m rb.d sb.1 sb.2 A3 R.length c3 R W pa.n pa.nn (pa.to hb2).la ua ia pb.n pb.nn (pb.to hb2).la (pb.to hb2).lb ib rfl ((lR.below hb2).more hb2.size) (by rw[pa.n,hcr])
    have hwj:IntKind.i64.wrap ((j:Int)-1)=(j:Int)-1:=IntWalk.i64_in _ (by omega)
    have GA:=Lib.hid ((ga.below hb).more hb.size);have GB:=Lib.hid ((gb.below hb).more hb.size);have HM:=Lib.hid hm;have HSN:=Lib.hid hsn;have HWJ:=Lib.hid hwj;have HB:=Lib.hid hb;have J1:=Lib.hid (show 1≤j by omega);have J2:=Lib.hid (show j<n by omega)
    clear ga gb hm hsn hwj hb hown lR pa pb ua ia ib hsa hsb hra hrb hcr hSA hSB hRR hP3 hNS hP1 i4 i5 i6 hw
    go_wp2_with fail
    refine qDt (l:=[_,_,_,_,_,_,_,_,_,_,_]) (o:=_) [isV (.slice (some ⟨g,o,none⟩) n cap),isV (.int .i64 (j:Nat)),isV (.int .i64 ((j:Int)-1)),isV (.pointer (some ⟨g,o+(j-1)*2,none⟩)),isV (.agg #[.slice ra.a ra.n ra.c,.slice ra.b ra.m ra.d]),isV (.slice (some ⟨g,o,none⟩) n cap),isV (.int .i64 (j:Nat)),isV (.pointer (some ⟨g,o+j*2,none⟩)),isV (.agg #[.slice rb.a rb.n rb.c,.slice rb.b rb.m rb.d]),isV (.slice A3 R.length c3),qV1 w.heap.size 57 (qA1 sa.1 sb.1 R)] (by kernel_rfl) (by kernel_rfl) (by kernel_rfl) (by kernel_rfl) rfl ?_ ?_
    ·
      refine Rel.rb ?_;refine Rel.rb ?_;refine rf (fun ev wo E=>?_) ?_
      · have e52:ev (.tmp 52)=.int .i64 (j:Nat):=E.e 0;have ec:=E.const;have h0:=HWJ.out;go_simp;exact rv
      refine rf (fun ev wo E=>?_) ?_
      · have e51:ev (.tmp 51)=.slice (some ⟨g,o,none⟩) n cap:=E.e 0;have e53:ev (.tmp 53)=.int .i64 ((j:Int)-1):=E.e 1;have h0:=J1.out;have h1:=J2.out
        have h2:(0:Int)≤(j:Int)-1:=by omega
        have h3:(j:Int)-1<n:=by omega
        have h4:(1:Int)≤j:=by omega
        go_simp;exact rv
      refine rf (fun ev wo E=>?_) ?_
      · have e54:ev (.tmp 54)=.pointer (some ⟨g,o+(j-1)*2,none⟩):=E.e 0;have hx0:=(E.bel.cell GA.out.lt).trans GA.out.c0;have hx1:=(E.bel.cell GA.out.lt).trans GA.out.c1;go_simp;exact rv
      refine Rel.rb ?_;refine Rel.rb ?_;refine rf (fun ev wo E=>?_) ?_
      · have e56:ev (.tmp 56)=.slice (some ⟨g,o,none⟩) n cap:=E.e 0;have e57:ev (.tmp 57)=.int .i64 (j:Nat):=E.e 1;have h1:=J2.out
        have h3:(j:Int)<n:=by omega
        go_simp;exact rv
      refine rf (fun ev wo E=>?_) ?_
      · have e58:ev (.tmp 58)=.pointer (some ⟨g,o+j*2,none⟩):=E.e 0;have hx0:=(E.bel.cell GB.out.lt).trans GB.out.c0;have hx1:=(E.bel.cell GB.out.lt).trans GB.out.c1;go_simp;exact rv
      refine Rel.rb ?_;refine⟨qA9 (qAw.free rfl) (qIb _ _ _) (fun ev wo E=>?_),?_⟩
      · have e55:ev (.tmp 55)=.agg #[.slice ra.a ra.n ra.c,.slice ra.b ra.m ra.d]:=E.e 0;have e59:ev (.tmp 59)=.agg #[.slice rb.a rb.n rb.c,.slice rb.b rb.m rb.d]:=E.e 1;have e60:ev (.tmp 60)=.slice A3 R.length c3:=E.e 2;have ef:=E.func;go_simp;refine qAd ((HM.out wo E.bel).mono ?_);rintro e w' ⟨v,rfl,ho,hb⟩;exact⟨_,rfl,hb,qBp ho (Nat.le_trans HB.out.size E.bel.size)⟩
      trivial
    · intro wz bz
      (iterate 10 rintro _ rfl)
      intro v61 h61
      have B4:=Lib.hid (HB.out.trans (bz.mono HB.out.size));have H61:=Lib.hid h61
      clear bz h61;simp only[qAq];unfold Oper.wp;go_simp
      go_wp2_with fail
      go_roundw
      case rel=>
       refine⟨j+1,by go_num,by omega,by omega,?_,B4.out⟩;rw[show j+1-F=j-F+1 by omega,HSN.out];exact H61.out
      case measure=>simp[RowKit.intOf];omega
  · have hlti:¬(j:Int)<T:=by omega
    obtain rfl:j=T:=by omega
    have HO:=Lib.hid hown;have HB:=Lib.hid hb
    clear hown hb
    go_wp2_with fail
    go_ret2
    exact⟨_,rfl,HO.out,HB.out⟩
end Go.Proofs.YtikpmmipopmjaaaGreatDoor
set_option linter.unusedSimpArgs false
namespace Go.Ms
open Go.RowKit Go.Lib
theorem qC8 (l:List Cl):∀x∈rowV l,∀a n c,x≠.slice a n c:=by
 intro x hx a n c e
 obtain⟨d,_,hd⟩:=List.mem_flatMap.1 hx;subst e
 simp[clV] at hd
structure qJ0 (w:World) (A:Option Addr) (n c:Nat) (cs:List Co) (B:Option Addr) (m d:Nat) (ks:List Int):Prop where
  nc:n≤c
  cm:c≤maxLen
  ln:cs.length=n
  la:Ext w w.heap.size A (colV cs)
  md:m≤d
  dm:d≤maxLen
  lm:ks.length=m
  lb:Ext w w.heap.size B (intV ks)
  ok:∀x∈cs,qSl x
theorem qJ0.to {w w':World} {A:Option Addr} {n c:Nat} {cs:List Co} {B:Option Addr} {m d:Nat} {ks:List Int} (h:qJ0 w A n c cs B m d ks) (hb:Below w.heap.size w w'):qJ0 w' A n c cs B m d ks:=
  ⟨h.nc,h.cm,h.ln,(h.la.keep hb).more hb.size,h.md,h.dm,h.lm,(h.lb.keep hb).more hb.size,h.ok⟩
structure qIw (w:World) (A:Option Addr) (n c:Nat) (l:List Cl):Prop where
  nc:n≤c
  cm:c≤maxLen
  ln:l.length=n
  la:Ext w w.heap.size A (rowV l)
  ok:∀x∈l,ClIn x
theorem qIw.to {w w':World} {A:Option Addr} {n c:Nat} {l:List Cl} (h:qIw w A n c l) (hb:Below w.heap.size w w'):qIw w' A n c l:=⟨h.nc,h.cm,h.ln,(h.la.keep hb).more hb.size,h.ok⟩
def qHo (cs:List Co) (ks:List Int):Sc:=((cs.take 34).map qHz,ks.take 10)
def qKl (l:List Cl):List Cl:=(l.take 40).map qJv
theorem qTu {s:ByteArray} {k:Nat}:(s.extract 0 (min s.size k)).size≤k:=by
 rw[ByteArray.size_extract];omega
theorem qPs {cs:List Co} {ks:List Int} (h:∀x∈cs,qSl x):ScR (qHo cs ks).1:=by
 intro c hc
 obtain⟨d,hd,rfl⟩:=List.mem_map.1 hc;have h1:=(h d (List.mem_of_mem_take hd)).2.2.2.2;refine⟨Nat.le_trans (qTu (k:=40)) (by omega),Nat.le_trans (qTu (k:=1100)) (by omega),h1⟩
theorem qJ5 (cs:List Co) (ks:List Int):(qHo cs ks).1.length=min 34 cs.length∧(qHo cs ks).2.length=min 10 ks.length:=by
 unfold qHo;exact⟨by rw[List.length_map,List.length_take],List.length_take ..⟩
theorem qRs {l:List Cl} (h:∀x∈l,ClIn x):CsOk (qKl l)∧∀c∈qKl l,c.2.2.size≤100000:=by
 have h1:CsOk (qKl l):=by
  intro c hc
  obtain⟨d,hd,rfl⟩:=List.mem_map.1 hc;have h1:=(h d (List.mem_of_mem_take hd)).2;exact⟨Nat.le_trans (qTu (k:=1100)) (by omega),h1⟩
 exact⟨h1,fun c hc=>by have:=(h1 c hc).1;omega⟩
theorem qK6 (l:List Cl):(qKl l).length=min 40 l.length:=by
 unfold qKl;rw[List.length_map,List.length_take]
def qQi (s:Sc):Value→World→Prop:=fun v w=> ∃r:SRef,v=.agg #[.slice r.a r.n r.c,.slice r.b r.m r.d]∧qBf w w.heap.size r s
theorem qEz (s:Sc):Go.Rel.Stable (qQi s):=fun v w w' ⟨r,h1,h2⟩ hb=>⟨r,h1,h2.to hb⟩
def qVp (l:List Cl):Value→World→Prop:=fun v w=> ∃A c,v=.slice A l.length c∧Lay w w.heap.size A (rowV l)
theorem qJf (l:List Cl):Go.Rel.Stable (qVp l):=fun v w w' ⟨A,c,h1,h2⟩ hb=>⟨A,c,h1,(h2.below hb).more hb.size⟩
def qVk (B:Nat) (o:Obj):Value→World→Prop:=fun v w=> ∃g,v=.pointer (some ⟨g,0,none⟩)∧B≤g∧w.heap[g]?=some o
theorem qFn (B:Nat) (o:Obj):Go.Rel.Stable (qVk B o):=fun v w w' ⟨g,h1,h2,h3⟩ hb=>⟨g,h1,h2,qAb h3 hb⟩
theorem qBf.ref {W:World} {B1 B2:Nat} {eC eI:TypeId} {A' B':Option Addr} {N M c d:Nat} {s:Sc} (h1:qBt W B1 eC (.slice A' N c) s.1) (h2:OwnI W B2 eI (.slice B' M d) s.2) (hN:N=s.1.length) (hM:M=s.2.length) (n1:N≤100000) (n2:M≤100000) :
    qBf W W.heap.size ⟨A',N,c,B',M,d⟩ s:=by
 unfold qBt at h1;unfold OwnI at h2;rw[←hN] at h1;rw[←hM] at h2;exact⟨hN,hM,n1,n2,Lay.of_own h1 (Nat.le_refl _),Lay.of_own h2 (Nat.le_refl _)⟩
theorem Lay.box2 {W:World} {B:Nat} {A:Option Addr} {xs:List Value} (h:Lay W B A xs) {b:Nat} {a1 a2:Option Addr} {n1 c1 n2 c2:Nat} {T:TypeId} (hb:W.heap[b]?=some (.cells #[.slice a1 n1 c1,.slice a2 n2 c2] T (0,0))) (hx:∀x∈xs,∀a n c,x≠.slice a n c)
    (a:Option Addr) (n c:Nat) (y:Value):Lay ((W.setCell ⟨b,0,none⟩ (.slice a n c)).setCell ⟨b,1,none⟩ y) B A xs:=(h.off hb hx _).off (two_set0 hb _) hx _
theorem qBf.box2 {W:World} {B:Nat} {r:SRef} {s:Sc} (h:qBf W B r s) {b:Nat} {a1 a2:Option Addr} {n1 c1 n2 c2:Nat} {T:TypeId} (hb:W.heap[b]?=some (.cells #[.slice a1 n1 c1,.slice a2 n2 c2] T (0,0)))
    (a:Option Addr) (n c:Nat) (y:Value):qBf ((W.setCell ⟨b,0,none⟩ (.slice a n c)).setCell ⟨b,1,none⟩ y) B r s:=
  ⟨h.n,h.m,h.nn,h.mm,h.la.box2 hb (qD5 _) a n c y,h.lb.box2 hb (qD6 _) a n c y⟩
end Go.Ms
namespace Go.Proofs.YtikpmmipopmjaaaGreatDoor
open Go.RowKit Go.Ms Go.Lib
theorem qQ3 {w:World} {A:Option Addr} {n c:Nat} {cs:List Co} {B:Option Addr} {m d:Nat} {ks:List Int} (h:qJ0 w A n c cs B m d ks) :
    Calls Tryz.prog 11 #[.agg #[.slice A n c,.slice B m d]] w fun e w'=> ∃v,e=.returned v∧Below w.heap.size w w'∧qQi (qHo cs ks) v w':=by
 have h0:=qNz w A B n c m d cs ks h.nc h.cm h.ln h.la h.md h.dm h.lm h.lb;refine h0.mono ?_;rintro e w' ⟨A',c',B',d',rfl,o1,o2,hb⟩;obtain⟨l1,l2⟩:=qJ5 cs ks;have:=h.ln;have:=h.lm;exact⟨_,rfl,hb,⟨A',min n 34,c',B',min m 10,d'⟩,rfl,qBf.ref (s:=qHo cs ks) o1 o2 (by omega) (by omega) (by omega) (by omega)⟩
theorem qO9 {w:World} {r:SRef} {s:Sc} (h:qBf w w.heap.size r s) :
    Calls Tryz.prog 13 #[.agg #[.slice r.a r.n r.c,.slice r.b r.m r.d]] w fun e w'=> ∃v,e=.returned v∧Below w.heap.size w w'∧qQi s v w':=by
 have h0:=qPi w r.a r.b r.n r.c r.m r.d s.1 s.2 h.nn h.mm h.n h.m h.la h.lb;refine h0.mono ?_;rintro e w' ⟨A',c',B',d',rfl,o1,o2,hb⟩;exact⟨_,rfl,hb,⟨A',r.n,c',B',r.m,d'⟩,rfl,qBf.ref o1 o2 h.n h.m h.nn h.mm⟩
theorem qL5 {w:World} {A:Option Addr} {n c:Nat} {l:List Cl} (h:qIw w A n c l) :
    Calls Tryz.prog 12 #[.slice A n c] w fun e w'=> ∃v,e=.returned v∧Below w.heap.size w w'∧qVp (qKl l) v w':=by
 have h0:=qQb w A n c l h.nc h.cm h.ln h.la;refine h0.mono ?_;rintro e w' ⟨A',c',rfl,o1,hb⟩;have hl:=qK6 l;have:=h.ln
 have hm:min n 40=(qKl l).length:=by omega
 refine⟨_,rfl,hb,A',c',by rw[hm],?_⟩;unfold OwnC at o1;exact Lay.of_own (by rw[hm] at o1;exact o1) (Nat.le_refl _)
theorem qI9 {w:World} {A:Option Addr} {c:Nat} {l:List Cl} (hl:l.length≤100000) (h:Lay w w.heap.size A (rowV l)) :
    Calls Tryz.prog 14 #[.slice A l.length c] w fun e w'=> ∃v,e=.returned v∧Below w.heap.size w w'∧qVp l v w':=by
 refine(qI1 w A l.length c l hl rfl h).mono ?_;rintro e w' ⟨v,rfl,ho,hb⟩;obtain⟨A',c',rfl,-,-⟩:=qAg ho;exact⟨_,rfl,hb,A',c',rfl,Lay.of_own ho (Nat.le_refl _)⟩
end Go.Proofs.YtikpmmipopmjaaaGreatDoor
set_option linter.unusedSimpArgs false
namespace Go.Ms
open Go.RowKit Go.Lib
theorem qHc {P:Program} (w:World) (base:Nat) (t tx ty e:TypeId) (i:TypeInfo) (z:Value) (size bytes:Nat) (ht:P.underlying t=some (.slice e)) (hi:P.info? e=some i) (hz:i.zero=some z)
    (hsize:i.size=size) (hby:i.bytes=bytes) (hzs:z.cells.size=size) (hsz:0<size)
    (v:Value) (n:Nat) (xs:List Value) (hown:w.ownsRow base e size v n xs) (x:Value) (m:Nat) (news:List Value) (hs:Src P size tx x m news w)
    (h63:n+m≤maxLen) (hbytes:(n+m)*bytes≤140737488355328) (hbase:base≤w.heap.size) :
    ∃v' w',(Builtin.append_ #[t,tx] ty #[v,x]).run P w=.ok v' w'∧w'.ownsRow base e size v' (n+m) (xs++news)∧w.grownBy w' v.ownBlock∧∀b,v'.ownBlock=some b→v.ownBlock=some b∨w.heap.size≤b:=by
 subst hsize
 subst hby
 have hl:=hs.newsLen
 have hsmall:n+m≤9223372036854775807:=by simp only[maxLen] at h63;omega
 have hlen:(xs++news).length=(n+m)*i.size:=by rw[List.length_append,hown.1,hl,Nat.add_mul]
 have grown:∀(old:Nat),old<n+m→∀(row:Option Nat),
     (w.drew.alloc (.cells ((xs++news).toArray++Builtin.zeroCells z.cells (grownCap w (n+m) old e-(n+m))) e)).ownsRow base e i.size
       (.slice (some ⟨w.heap.size,0,none⟩) (n+m) (grownCap w (n+m) old e)) (n+m) (xs++news)∧
     w.grownBy (w.drew.alloc (.cells ((xs++news).toArray++Builtin.zeroCells z.cells (grownCap w (n+m) old e-(n+m))) e)) row:=by
   intro old ho row
   have hge:=grownCap_ge w (n+m) old e;have hcm:grownCap w (n+m) old e≤maxLen:=grownCap_le_maxLen w (n+m) old e h63;refine⟨⟨hlen,.inr ⟨w.heap.size,_,_,rfl,hbase,heap_alloc_new w.drew _,hge,hcm,?_,?_⟩⟩,⟨rfl,rfl,rfl,by simp,fun k hk _=>(World.grownBy_alloc w.drew _ none).block k hk (by simp)⟩⟩
   · simp only[Array.size_append,List.size_toArray,size_zeroCells,hzs,hlen,←Nat.add_mul]
     congr 1
     omega
   · simp only[Array.toList_append];rw[←hlen];exact List.take_left
 rcases hown.2 with⟨rfl,rfl⟩|⟨g,cap,cur,rfl,hbg,hg,hnc,hcm,hcs,htake⟩
 · have hx:xs=[]:=List.eq_nil_of_length_eq_zero (by simpa using hown.1);subst hx
   by_cases hm:m=0
   · subst hm;have hn:news=[]:=List.eq_nil_of_length_eq_zero (by simpa using hl);subst hn;refine⟨.slice none 0 0,w,?_,World.ownsRow_nil w base e i.size,⟨rfl,rfl,rfl,Nat.le_refl _,fun _ _ _=>rfl⟩,fun b hb=>by simp[Value.ownBlock] at hb⟩;have hc:=hs.cells
     rcases hs.kind with⟨e',hk⟩|hk <;>
       simp[Builtin.append_,run_underlying ht,run_underlying hk,sizeOf,typeInfo,hi,hs.len,hc]
   · have hr:=run_append_grow_src (P:=P) w t tx ty e i z ht hi hz none 0 0 [] (run_firstCells_none w.drew i.size 0 0 0) x m news hs (by omega) (by omega) (growslice_fits (by omega) (by simpa using hbytes));have hgr:=grown 0 (by omega) (Value.ownBlock (.slice none 0 0));simp only[Nat.zero_add,List.nil_append] at hgr hr ⊢;exact⟨_,_,hr,hgr.1,hgr.2,fun b hb=>by right;simp[Value.ownBlock] at hb;omega⟩
 · by_cases hroom:n+m≤cap
   · have hfit:n*i.size+news.length≤cur.size:=by rw[hl,hcs,←Nat.add_mul];exact Nat.mul_le_mul_right _ hroom
     have hst:=run_storeCells_at P g (n*i.size) e news 0 cur w hg (by simpa using hfit) hs.one;simp only[Nat.add_zero] at hst
     have hr:(Builtin.append_ #[t,tx] ty #[.slice (some ⟨g,0,none⟩) n cap,x]).run P w=.ok (.slice (some ⟨g,0,none⟩) (n+m) cap) (w.setRow g (cur.toList.take (n*i.size)++news++cur.toList.drop (n*i.size+news.length)).toArray):=by
      rcases hs.kind with⟨e',hk⟩|hk <;>
        simp[Builtin.append_,run_underlying ht,run_underlying hk,sizeOf,typeInfo,hi,hs.len,hroom,hs.cells,Addr.add_lit,hst]
     refine⟨_,_,hr,⟨hlen,.inr ⟨g,cap,_,rfl,hbg,setRow_heap w g cur _ e _ hg,hroom,hcm,?_,?_⟩⟩,⟨rfl,rfl,rfl,by simp,fun k _ hk=>setRow_other w g k _ (fun e=>hk (by simp[Value.ownBlock,e]))⟩,fun b hb=>by left;simpa[Value.ownBlock] using hb⟩
     · simp only[List.size_toArray,List.length_append,List.length_take,List.length_drop,Array.length_toList];omega
     · rw[htake,←hlen];exact List.take_left
   · have holds:∀j u,xs[j]?=some u→w.drew.cell? ((⟨g,0,none⟩:Addr).add j)=some u:=fun j u hu=>by simpa using hown.cells (g:=g) rfl j u hu
     have hr:=run_append_grow_src (P:=P) w t tx ty e i z ht hi hz (some ⟨g,0,none⟩) n cap xs (run_firstCells_some (P:=P) w.drew i.size n ⟨g,0,none⟩ n cap xs hown.1 holds) x m news hs (by omega) (by omega) (growslice_fits (by omega) hbytes);have hgr:=grown cap (by omega) (Value.ownBlock (.slice (some ⟨g,0,none⟩) n cap));exact⟨_,_,hr,hgr.1,hgr.2,fun b hb=>by right;simp[Value.ownBlock] at hb;omega⟩
theorem qK3 {P:Program} (w:World) (base:Nat) (t ty e:TypeId) (i:TypeInfo) (z:Value) (size bytes:Nat) (ht:P.underlying t=some (.slice e)) (hi:P.info? e=some i) (hz:i.zero=some z)
    (hsize:i.size=size) (hby:i.bytes=bytes) (hzs:z.cells.size=size) (hsz:0<size)
    (v:Value) (n:Nat) (xs:List Value) (hown:w.ownsRow base e size v n xs) (B:Nat) (A:Option Addr) (m c:Nat) (news:List Value) (hl:news.length=m*size) (hnews:Lay w B A news) (h1:∀u∈news,u.oneCell'=true)
    (h63:n+m≤maxLen) (hbytes:(n+m)*bytes≤140737488355328) (hbase:base≤w.heap.size) :
    ∃v' w',(Builtin.append_ #[t,t] ty #[v,.slice A m c]).run P w=.ok v' w'∧w'.ownsRow base e size v' (n+m) (xs++news)∧w.grownBy w' v.ownBlock∧∀b,v'.ownBlock=some b→v.ownBlock=some b∨w.heap.size≤b:=by
 have hA:A=none→m=0:=fun h=>by
  subst h;have:=hnews.none_len;subst this
  rcases Nat.eq_zero_or_pos m with h0|h0
  · exact h0
  · have:=Nat.mul_pos h0 hsz;simp at hl;omega
 exact qHc (P:=P) w base t t ty e i z size bytes ht hi hz hsize hby hzs hsz v n xs hown (.slice A m c) m news (hnews.src ht hl hsz hA h1) h63 hbytes hbase
theorem qE2 {P:Program} {w:World} {ops:Array Oper} {rest:List Oper} {o:Oper} {a:Act} {Q:Exit→Act→World→Prop} (hgd:o.guard=none) (s x:Operand) (t:TypeId)
    (ho:o.op=.call { callee:=.builtin .append,args:=#[s,x],argTypes:=#[t,t] })
    (base:Nat) (e:TypeId) (i:TypeInfo) (z:Value) (size bytes:Nat) (ht:P.underlying t=some (.slice e)) (hi:P.info? e=some i) (hz:i.zero=some z)
    (hsize:i.size=size) (hby:i.bytes=bytes) (hzs:z.cells.size=size) (hsz:0<size)
    (v:Value) (n:Nat) (xs:List Value) (hs:a.eval s=v) (hown:w.ownsRow base e size v n xs) (B:Nat) (A:Option Addr) (m c:Nat) (news:List Value) (hx:a.eval x=.slice A m c) (hl:news.length=m*size) (hnews:Lay w B A news) (h1:∀u∈news,u.oneCell'=true)
    (h63:n+m≤maxLen) (hbytes:(n+m)*bytes≤140737488355328) (hbase:base≤w.heap.size)
    (h:∀v' w',w'.ownsRow base e size v' (n+m) (xs++news)→w.grownBy w' v.ownBlock→(∀b,v'.ownBlock=some b→v.ownBlock=some b∨w.heap.size≤b)→wpList P ops Q rest (a.put o.dst v') w'):wpList P ops Q (o::rest) a w:=by
 refine wpList_plain hgd fun K' hK'=>?_
 obtain⟨v',w',hr,h2,h3,h4⟩:=qK3 (P:=P) w base t o.type e i z size bytes ht hi hz hsize hby hzs hsz v n xs hown B A m c news hl hnews h1 h63 hbytes hbase;unfold Oper.wp execOp;simp only[ho,resolve,invoke,builtin,Sem.run_bind,Sem.run_pure,Result.andThen_ok,List.map_toArray,List.map_cons,List.map_nil,hs,hx,hr];exact hK' _ _ (h v' w' h2 h3 h4)
structure KwSt (tS tC tI:TypeId) (o4:Obj) (v7 v8:Value) (r7 r8:List SRef) (ss:List Sc) (w W:World):Prop where
  b4:W.heap[w.heap.size]?=some o4
  o7:W.ownsRow (w.heap.size+1) tS 2 v7 r7.length (scsV r7)
  o8:W.ownsRow (w.heap.size+1) tS 2 v8 r8.length (scsV r8)
  ne:∀b,v7.ownBlock=some b→v8.ownBlock=some b→False
  e7:∀(i:Nat) r s,r7[i]?=some r→ss[i]?=some s→ScT tC tI W r s
  e8:∀(i:Nat) r s,r8[i]?=some r→ss[i]?=some s→ScT tC tI W r s
  l7:r7.length≤ss.length
  l8:r8.length≤ss.length
  bel:Below w.heap.size w W
section
variable {tS tC tI:TypeId} {o4:Obj} {v7 v8:Value} {r7 r8:List SRef} {ss:List Sc} {w W W':World}
theorem KwSt.to (h:KwSt tS tC tI o4 v7 v8 r7 r8 ss w W) (hb:Below W.heap.size W W'):KwSt tS tC tI o4 v7 v8 r7 r8 ss w W':=
  ⟨qAb h.b4 hb,own_below h.o7 hb,own_below h.o8 hb,h.ne,fun i r s h1 h2=>(h.e7 i r s h1 h2).to hb,fun i r s h1 h2=>(h.e8 i r s h1 h2).to hb,h.l7,h.l8,h.bel.trans (hb.mono h.bel.size)⟩
theorem KwSt.more (h:KwSt tS tC tI o4 v7 v8 r7 r8 ss w W) (s:Sc):KwSt tS tC tI o4 v7 v8 r7 r8 (ss++[s]) w W:=by
 refine⟨h.b4,h.o7,h.o8,h.ne,fun i r s' h1 h2=>?_,fun i r s' h1 h2=>?_,by rw[List.length_append];exact Nat.le_trans h.l7 (by omega),by rw[List.length_append];exact Nat.le_trans h.l8 (by omega),h.bel⟩
 · have:=(List.getElem?_eq_some_iff.1 h1).1;rw[List.getElem?_append_left (by have:=h.l7;omega)] at h2;exact h.e7 i r s' h1 h2
 · have:=(List.getElem?_eq_some_iff.1 h1).1;rw[List.getElem?_append_left (by have:=h.l8;omega)] at h2;exact h.e8 i r s' h1 h2
theorem KwSt.push7 (h:KwSt tS tC tI o4 v7 v8 r7 r8 ss w W) (n1:tC≠tS) (n2:tI≠tS) {v':Value} {r:SRef} {s:Sc} (hs:ss[r7.length]?=some s) (hr:ScT tC tI W r s)
    (ho:W'.ownsRow (w.heap.size+1) tS 2 v' (r7.length+1) (scsV r7++r.vs)) (hg:W.grownBy W' v7.ownBlock) (hn:∀b,v'.ownBlock=some b→v7.ownBlock=some b∨W.heap.size≤b) :
    KwSt tS tC tI o4 v' v8 (r7++[r]) r8 ss w W':=by
 have he:=EffT.own h.o7 hg
 have hne:∀k:Nat,k<w.heap.size+1→some k≠v7.ownBlock:=fun k hk e=>by have:=(World.ownsRow.lt h.o7 k e.symm).1;omega
 have hl:=(List.getElem?_eq_some_iff.1 hs).1;refine⟨(hg.block _ (Array.getElem?_eq_some_iff.1 h.b4).1 (hne _ (by omega))).trans h.b4,?_,World.ownsRow.kept h.o8 hg ?_,fun b h1 h2=>?_,fun i r' s' h1 h2=>?_,fun i r' s' h1 h2=>(h.e8 i r' s' h1 h2).eff he n1 n2,by rw[List.length_append,List.length_singleton];omega,h.l8,qBr h.o7 h.bel h.bel.size (by omega) hg⟩
 · rw[List.length_append,qNh,show scsV [r]=r.vs by simp[scsV]];exact ho
 · cases h8:v8.ownBlock with
  |none=>exact .inl rfl
  |some b=>exact .inr (fun e=>h.ne b e.symm h8)
 · rcases hn b h1 with h3|h3
   · exact h.ne b h3 h2
   · have:=(World.ownsRow.lt h.o8 b h2).2;omega
 · by_cases hi:i<r7.length
   · rw[List.getElem?_append_left hi] at h1;exact(h.e7 i r' s' h1 h2).eff he n1 n2
   · have h3:=(List.getElem?_eq_some_iff.1 h1).1;rw[List.length_append,List.length_singleton] at h3
     obtain rfl:i=r7.length:=by omega
     rw[List.getElem?_append_right (Nat.le_refl _),Nat.sub_self] at h1;rw[hs] at h2
     cases h1
     cases h2
     exact hr.eff he n1 n2
theorem KwSt.swap (h:KwSt tS tC tI o4 v7 v8 r7 r8 ss w W):KwSt tS tC tI o4 v8 v7 r8 r7 ss w W:=⟨h.b4,h.o8,h.o7,fun b h1 h2=>h.ne b h2 h1,h.e8,h.e7,h.l8,h.l7,h.bel⟩
theorem KwSt.scs (h:KwSt tS tC tI o4 v7 v8 r7 r8 ss w W) (hl:r7.length=ss.length):∃A c,v7=.slice A r7.length c∧qDb W W.heap.size A r7 ss:=by
 obtain⟨A,c,rfl,-,-⟩:=qAg h.o7;exact⟨A,c,rfl,hl,Lay.of_own h.o7 (Nat.le_refl _),fun i r s h1 h2=>(h.e7 i r s h1 h2).lay⟩
end
end Go.Ms
