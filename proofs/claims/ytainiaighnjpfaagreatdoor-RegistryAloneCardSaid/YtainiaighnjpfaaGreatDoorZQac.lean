/- Evolve: a row carried along a chain: the package's answer. Schemas: the examples, read (closed). Schemas: a copy. Schemas: the examples, walked. Schemas that follow each other, plainly (closed): the texts of the examples, read; what the examples answer. Rows: places held against a number; the cells at places. Rows: a cell's bits are not many; no more are taken off than there are. Rows: keys put together. Evolve's laws: a schema read of a text. Evolve's laws: the examples' texts, read. Rows: whether two are the same; a row copied. Rows: lists held against each other and copied, by the statements' helpers. A region that draws its order, in which one operation writes into what another one has made (an append to a row of one's own), and whose last operation waits for all others. Evolve's laws: the chapter's examples, walked. Lists that keep their type, and what lies in them. Registries: a list of schemas, cloned. An append to a row of one's own: the row's block is the one that it was, or a new one. -/
import Derived.Test.YtainiaighnjpfaaGreatDoorZQab
import Derived.Test.YtainiaighnjpfaaGreatDoorZQt
import Derived.WalkKit
import Derived.Test.YtainiaighnjpfaaGreatDoorZQs
import Derived.Test.YtainiaighnjpfaaGreatDoorZQp
import Derived.Deep.RegionWith
import Derived.Test.YtainiaighnjpfaaGreatDoorZQu
import Derived.Test.YtainiaighnjpfaaGreatDoorZQc
import Derived.Test.YtainiaighnjpfaaGreatDoorZQz
import Derived.Test.YtainiaighnjpfaaGreatDoorZQa
import Derived.Test.YtainiaighnjpfaaGreatDoorZQn
import Derived.Test.YtainiaighnjpfaaGreatDoorZQb
import Derived.Test.YtainiaighnjpfaaGreatDoorZQaa
import Derived.Test.YtainiaighnjpfaaGreatDoorZQx
set_option linter.unusedVariables false
set_option linter.unusedSimpArgs false
namespace Go.Ms
open Go.RowKit Go.Lib
def qDa (l:List Sc) (f k:Nat) (r:List Cl):List Cl:=qD3 (l.getD (f-1) zSc) ((l.drop f).take k) r
theorem qFr {l:List Sc} {f k:Nat} (h1:1≤f) (h2:f+k<l.length) (r:List Cl):qDa l f (k+1) r=qA7 (l.getD (f+k-1) zSc).1 (l.getD (f+k) zSc).1 (qDa l f k r):=by
 have hd:(l.drop f)[k]?=some (l.getD (f+k) zSc):=by rw[List.getElem?_drop,List.getD_eq_getElem?_getD,List.getElem?_eq_getElem h2];rfl
 have e:(l.drop f).take (k+1)=(l.drop f).take k++[l.getD (f+k) zSc]:=by rw[List.take_add_one,hd];rfl
 have hl:=qQl (L:=l) (p:=f) (q:=f+k) h1 (by omega) (by omega);rw[show f+k-f=k by omega] at hl;unfold qDa;rw[e,qK8,hl];rfl
theorem qKf {l:List Sc} {f:Nat} (h1:1≤f) {r:List Cl} (hr:(l.getD (f-1) zSc).1.length=r.length):∀(k:Nat),f+k≤l.length→(qDa l f k r).length=(l.getD (f+k-1) zSc).1.length
  |0,h=>hr.symm
  |k+1,h=>by rw[qFr h1 (by omega),qKm];rfl
theorem qQ8 {l:List Sc} {f t:Int} {r:List Cl} (h:¬qAu l=0):qCf l f t r=([],qAu l):=by unfold qCf;rw[if_neg h]
theorem qOt {l:List Sc} {f t:Int} {r:List Cl} (h:qAu l=0) (h2:f<1∨t<f∨(l.length:Int)<t):qCf l f t r=([],131):=by unfold qCf;rw[if_pos h,if_pos h2]
theorem qO9 {l:List Sc} {f t:Nat} {r:List Cl} (h:qAu l=0) (h1:1≤f) (h2:f≤t) (h3:t≤l.length) (hr:¬qDb (qGh (l.getD (f-1) zSc).1) r=0):qCf l f t r=([],qDb (qGh (l.getD (f-1) zSc).1) r):=by
 unfold qCf;rw[if_pos h,if_neg (by omega),Int.toNat_natCast,if_neg hr]
theorem qOm {l:List Sc} {f t:Nat} {r:List Cl} (h:qAu l=0) (h1:1≤f) (h2:f≤t) (h3:t≤l.length) (hr:qDb (qGh (l.getD (f-1) zSc).1) r=0):qCf l f t r=(qDa l f (t-f) r,0):=by
 unfold qCf qDa;rw[if_pos h,if_neg (by omega),Int.toNat_natCast,if_pos hr,show((t:Int)-f).toNat=t-f by omega]
theorem getD_at {l:List Sc} {i:Nat} (h:i<l.length):l[i]?=some (l.getD i zSc):=by rw[List.getD_eq_getElem?_getD,List.getElem?_eq_getElem h];rfl
def qSp (B:Nat) (T:TypeId) (l:List Cl):Value→World→Prop:=fun v w=>OwnC w B T v l
theorem qJp (B:Nat) (T:TypeId) (l:List Cl):Go.Rel.Stable (qSp B T l):=fun v w w' h hb=>own_below h hb
end Go.Ms
namespace Go.Proofs.YtainiaighnjpfaaGreatDoor
open Go.RowKit Go.Ms Go.Lib Go.Shelf Go.Rel
set_option maxRecDepth 100000 in
set_option maxHeartbeats 4000000 in
theorem qPx (w:World) (L:Option Addr) (n cap:Nat) (rs:List SRef) (ss:List Sc) (f t:Int) (C:Option Addr) (q qcap:Nat) (r:List Cl) (hn':n≤100000) (hn:n=rs.length) (hL:qBl w w.heap.size L rs ss) (hz:∀s∈ss,ScSz s.1)
    (hf: -9223372036854775808≤f∧f≤9223372036854775807) (ht: -9223372036854775808≤t∧t≤9223372036854775807) (hr:qKo w C q r) (hE:Env w) :
    Calls Tryz.prog 15 #[.slice L n cap,.int .i64 f,.int .i64 t,.slice C q qcap] w (qPs w (qCf ss f t r).1 (qCf ss f t r).2):=by
 have hns:n=ss.length:=hn.trans hL.len;have hch:=qH5 w L n cap rs ss hn' hn hL hz hE
 by_cases h0:qAu ss=0
 case neg=>
  rw[qQ8 h0]
  generalize qAu ss=Z at hch h0 ⊢
  have h0':(Z != 0)=true:=by simpa using h0
  have HC:=Lib.hid hch;clear hch hn hL hz hr hE hns
  go_enter Tryz.func15,Tryz.ntmps15
  go_wp2_with fail
  refine HC.out.mono ?_;rintro en w1 ⟨rfl,b1⟩;have B1:=Lib.hid b1;clear b1
  go_wp2_with fail
  go_ret2
  exact⟨_,rfl,World.ownsRow_nil _ _ _ _,B1.out⟩
 rw[h0] at hch
 by_cases ho:f<1∨t<f∨(ss.length:Int)<t
 · rw[qOt h0 ho]
   have HC:=Lib.hid hch;have HO:=Lib.hid ho;have HNS:=Lib.hid hns
   clear hch hn hL hz hr hE hns ho h0
   by_cases c1:f<1
   · go_enter Tryz.func15,Tryz.ntmps15
     go_wp2_with fail
     refine HC.out.mono ?_;rintro en w1 ⟨rfl,b1⟩;have B1:=Lib.hid b1;clear b1
     go_wp2_with fail
     go_ret2
     exact⟨_,rfl,World.ownsRow_nil _ _ _ _,B1.out⟩
   · by_cases c2:t<f
     · go_enter Tryz.func15,Tryz.ntmps15
       go_wp2_with fail
       refine HC.out.mono ?_;rintro en w1 ⟨rfl,b1⟩;have B1:=Lib.hid b1;clear b1
       go_wp2_with fail
       go_ret2
       exact⟨_,rfl,World.ownsRow_nil _ _ _ _,B1.out⟩
     · have c3:(n:Int)<t:=by have:=HO.out;have:=HNS.out;omega
       go_enter Tryz.func15,Tryz.ntmps15
       go_wp2_with fail
       refine HC.out.mono ?_;rintro en w1 ⟨rfl,b1⟩;have B1:=Lib.hid b1;clear b1
       go_wp2_with fail
       go_ret2
       exact⟨_,rfl,World.ownsRow_nil _ _ _ _,B1.out⟩
 obtain⟨F,rfl⟩:∃F:Nat,f=F:=⟨f.toNat,by omega⟩;obtain⟨T,rfl⟩:∃T:Nat,t=T:=⟨t.toNat,by omega⟩
 have h1:1≤F:=by omega
 have h2:F≤T:=by omega
 have h3:T≤ss.length:=by omega
 have i1:¬(F:Int)<1:=by omega
 have i2:¬(T:Int)<F:=by omega
 have i3:¬(n:Int)<T:=by omega
 have i4:(1:Int)≤F:=by omega
 have i5:(F:Int)-1<n:=by omega
 have i6:F-1<n:=by omega
 have hw:IntKind.i64.wrap ((F:Int)-1)=(F:Int)-1:=IntWalk.i64_in _ (by omega);have hsp:=getD_at (l:=ss) (i:=F-1) (by omega);obtain⟨rp,hrp⟩:∃r,rs[F-1]?=some r:=⟨_,List.getElem?_eq_getElem (by rw[←hn];omega)⟩;obtain⟨g,o,eL,hg⟩:=hL.at_ hrp;subst eL
 have h5:=fun (W:World) (hb:Below w.heap.size w W)=>qJ5 W rp.a C rp.n rp.c q qcap (qGh (ss.getD (F-1) zSc).1) (colV (ss.getD (F-1) zSc).1) r hr.sz (by have:=(hL.each _ _ _ hrp hsp).nn;unfold maxLen;omega) (by have:=hr.qq;unfold maxLen;omega) (by rw[qKv];exact(hL.each _ _ _ hrp hsp).n) hr.ql ((hL.each _ _ _ hrp hsp).to hb).la.cols (hr.to hb).lay (hE.below hb)
 by_cases hc:qDb (qGh (ss.getD (F-1) zSc).1) r=0
 case neg=>
  rw[qO9 h0 h1 h2 h3 hc]
  generalize qDb (qGh (ss.getD (F-1) zSc).1) r=Z at h5 hc ⊢
  have hcz:(Z != 0)=true:=by simpa using hc
  have HC:=Lib.hid hch;have H5:=Lib.hid h5;have G:=Lib.hid hg
  clear hch hn hL hz hr hE hns h0 ho hc h5 hsp hrp hg h1 h2 h3
  go_enter Tryz.func15,Tryz.ntmps15
  go_wp2_with fail
  refine HC.out.mono ?_;rintro en w1 ⟨rfl,b1⟩;have B1:=Lib.hid b1;have g1:=(G.out.below b1).c0;clear b1
  go_wp2_with fail
  refine(H5.out _ B1.out).mono ?_;rintro en w2 ⟨rfl,b2⟩;have B2:=Lib.hid (B1.out.trans (b2.mono B1.out.size));clear b2 g1
  go_wp2_with fail
  go_ret2
  exact⟨_,rfl,World.ownsRow_nil _ _ _ _,B2.out⟩
 have hlen:=(qJ7 hc).1;rw[qKv] at hlen;have hok:=qQz h0
 have hcl:=fun (W:World) (hb:Below w.heap.size w W)=>qPb W C q qcap r hr.qq hr.ql (hr.to hb).lay
 rw[qOm h0 h1 h2 h3 hc];rw[hc] at h5
 have HC:=Lib.hid hch;have H5:=Lib.hid h5;have G:=Lib.hid hg;have HCL:=Lib.hid hcl;have HOK:=Lib.hid hok;have HLEN:=Lib.hid hlen;have HN:=Lib.hid hn;have HNS:=Lib.hid hns;have HL:=Lib.hid hL;have HR:=Lib.hid hr;have P1:=Lib.hid h1;have P2:=Lib.hid h2;have P3:=Lib.hid h3
 clear hch hn hL hz hr hE hns h0 ho hc h5 hsp hg hcl hok hlen h1 h2 h3
 go_enter Tryz.func15,Tryz.ntmps15
 go_wp2_with fail
 refine HC.out.mono ?_;rintro en w1 ⟨rfl,b1⟩;have B1:=Lib.hid b1;have g1:=(G.out.below b1).c0;clear b1
 go_wp2_with fail
 refine(H5.out _ B1.out).mono ?_;rintro en w2 ⟨rfl,b2⟩;have B2:=Lib.hid (B1.out.trans (b2.mono B1.out.size));clear b2 g1
 go_wp2_with fail
 refine(HCL.out _ B2.out).mono ?_;rintro en w3 ⟨v0,rfl,ho3,b3⟩
 have B3:=Lib.hid (B2.out.trans (b3.mono B2.out.size));have O3:=Lib.hid (qB1 ho3 B2.out.size)
 clear b3 ho3
 go_wp2_with fail
 go_loopw [12,13] (fun v i wr=> ∃j:Nat,i=.int .i64 j∧F≤j∧j≤T∧OwnC wr w.heap.size 43 v (qDa ss F (j-F) r)∧Below w.heap.size w wr) (fun _ i _=>T-(RowKit.intOf i).toNat)
 case atStart=>exact⟨F,rfl,Nat.le_refl _,P2.out,by rw[Nat.sub_self];exact O3.out,B3.out⟩
 case round=>
  obtain⟨j,rfl,hj1,hj2,hown,hb⟩:=hrel;obtain⟨A3,c3,rfl,hc3,hcm3⟩:=qAh hown
  by_cases hlt:j<T
  · have hlti:(j:Int)<T:=by omega
    have hsn:=qFr (l:=ss) (f:=F) (k:=j-F) P1.out (by have:=P3.out;omega) r;have hcr:=qKf (l:=ss) P1.out HLEN.out (j-F) (by have:=P3.out;omega);rw[show F+(j-F)=j by omega] at hsn hcr;have hP3:=P3.out;have hNS:=HNS.out;have hP1:=P1.out;have hsa:=getD_at (l:=ss) (i:=j-1) (by omega);have hsb:=getD_at (l:=ss) (i:=j) (by omega);obtain⟨ra,hra⟩:∃r,rs[j-1]?=some r:=⟨_,List.getElem?_eq_getElem (by rw[←HN.out];omega)⟩;obtain⟨rb,hrb⟩:∃r,rs[j]?=some r:=⟨_,List.getElem?_eq_getElem (by rw[←HN.out];omega)⟩
    have pa:=(HL.out.each _ _ _ hra hsa).to hb;have pb:=(HL.out.each _ _ _ hrb hsb).to hb;obtain⟨ua,ia⟩:=qS3 (HOK.out _ (List.mem_of_getElem? hsa));obtain⟨-,ib⟩:=qS3 (HOK.out _ (List.mem_of_getElem? hsb));obtain⟨g',o',e1,ga⟩:=HL.out.at_ hra
    cases e1
    obtain⟨g',o',e2,gb⟩:=HL.out.at_ hrb
    cases e2
    have lR:=Lay.of_own hown (Nat.le_refl _)
    generalize hSA:ss.getD (j-1) zSc=sa at hsa hsn hcr pa ua ia
    generalize hSB:ss.getD j zSc=sb at hsb hsn pb ib
    generalize hRR:qDa ss F (j-F) r=R at hown hsn hcr lR hc3
    have hm:=fun (W:World) (hb2:Below wr.heap.size wr W)=>qOg ra.a ra.b ra.n ra.c ra.m ra.d sa.1 sa.2 rb.a rb.b rb.n rb.c rb.m rb.d sb.1 sb.2 A3 R.length c3 R W pa.n pa.nn (pa.to hb2).la ua ia pb.n pb.nn (pb.to hb2).la (pb.to hb2).lb ib rfl ((lR.below hb2).more hb2.size) (by rw[pa.n,hcr])
    have hwj:IntKind.i64.wrap ((j:Int)-1)=(j:Int)-1:=IntWalk.i64_in _ (by omega)
    have GA:=Lib.hid ((ga.below hb).more hb.size);have GB:=Lib.hid ((gb.below hb).more hb.size);have HM:=Lib.hid hm;have HSN:=Lib.hid hsn;have HWJ:=Lib.hid hwj;have HB:=Lib.hid hb;have J1:=Lib.hid (show 1≤j by omega);have J2:=Lib.hid (show j<n by omega)
    clear ga gb hm hsn hwj hb hown lR pa pb ua ia ib hsa hsb hra hrb hcr hSA hSB hRR hP3 hNS hP1 i4 i5 i6 hw
    go_wp2_with fail
    refine qB7 (l:=[_,_,_,_,_,_,_,_,_,_,_]) (o:=_) [isV (.slice (some ⟨g,o,none⟩) n cap),isV (.int .i64 (j:Nat)),isV (.int .i64 ((j:Int)-1)),isV (.pointer (some ⟨g,o+(j-1)*2,none⟩)),isV (.agg #[.slice ra.a ra.n ra.c,.slice ra.b ra.m ra.d]),isV (.slice (some ⟨g,o,none⟩) n cap),isV (.int .i64 (j:Nat)),isV (.pointer (some ⟨g,o+j*2,none⟩)),isV (.agg #[.slice rb.a rb.n rb.c,.slice rb.b rb.m rb.d]),isV (.slice A3 R.length c3),qSp w.heap.size 43 (qA7 sa.1 sb.1 R)] (by kernel_rfl) (by kernel_rfl) (by kernel_rfl) (by kernel_rfl) rfl ?_ ?_
    ·
      refine Rel.rb ?_;refine Rel.rb ?_;refine rf (fun ev wo E=>?_) ?_
      · have e52:ev (.tmp 52)=.int .i64 (j:Nat):=E.e 0;have ec:=E.const;have h0:=HWJ.out;go_simp;exact rv
      refine rf (fun ev wo E=>?_) ?_
      · have e51:ev (.tmp 51)=.slice (some ⟨g,o,none⟩) n cap:=E.e 0;have e53:ev (.tmp 53)=.int .i64 ((j:Int)-1):=E.e 1;have h0:=J1.out;have h1:=J2.out
        have h2:(0:Int)≤(j:Int)-1:=by omega
        have h3:(j:Int)-1<n:=by omega
        have h4:(1:Int)≤j:=by omega
        go_simp;exact rv
      refine rf (fun ev wo E=>?_) ?_
      · have e54:ev (.tmp 54)=.pointer (some ⟨g,o+(j-1)*2,none⟩):=E.e 0;have hx0:=(E.bel.cell GA.out.lt).trans GA.out.c0;have hx1:=(E.bel.cell GA.out.lt).trans GA.out.c1;go_simp;exact rv
      refine Rel.rb ?_;refine Rel.rb ?_;refine rf (fun ev wo E=>?_) ?_
      · have e56:ev (.tmp 56)=.slice (some ⟨g,o,none⟩) n cap:=E.e 0;have e57:ev (.tmp 57)=.int .i64 (j:Nat):=E.e 1;have h1:=J2.out
        have h3:(j:Int)<n:=by omega
        go_simp;exact rv
      refine rf (fun ev wo E=>?_) ?_
      · have e58:ev (.tmp 58)=.pointer (some ⟨g,o+j*2,none⟩):=E.e 0;have hx0:=(E.bel.cell GB.out.lt).trans GB.out.c0;have hx1:=(E.bel.cell GB.out.lt).trans GB.out.c1;go_simp;exact rv
      refine Rel.rb ?_;refine⟨qBs (qA0.free rfl) (qJp _ _ _) (fun ev wo E=>?_),?_⟩
      · have e55:ev (.tmp 55)=.agg #[.slice ra.a ra.n ra.c,.slice ra.b ra.m ra.d]:=E.e 0;have e59:ev (.tmp 59)=.agg #[.slice rb.a rb.n rb.c,.slice rb.b rb.m rb.d]:=E.e 1;have e60:ev (.tmp 60)=.slice A3 R.length c3:=E.e 2;have ef:=E.func;go_simp;refine qAe ((HM.out wo E.bel).mono ?_);rintro e w' ⟨v,rfl,ho,hb⟩;exact⟨_,rfl,hb,qB1 ho (Nat.le_trans HB.out.size E.bel.size)⟩
      trivial
    · intro wz bz
      (iterate 10 rintro _ rfl)
      intro v61 h61
      have B4:=Lib.hid (HB.out.trans (bz.mono HB.out.size));have H61:=Lib.hid h61
      clear bz h61;simp only[qA1];unfold Oper.wp;go_simp
      go_wp2_with fail
      go_roundw
      case rel=>
       refine⟨j+1,by go_num,by omega,by omega,?_,B4.out⟩;rw[show j+1-F=j-F+1 by omega,HSN.out];exact H61.out
      case measure=>simp[RowKit.intOf];omega
  · have hlti:¬(j:Int)<T:=by omega
    obtain rfl:j=T:=by omega
    have HO:=Lib.hid hown;have HB:=Lib.hid hb
    clear hown hb
    go_wp2_with fail
    go_ret2
    exact⟨_,rfl,HO.out,HB.out⟩
end Go.Proofs.YtainiaighnjpfaaGreatDoor
namespace Go.Ms
open Go.RowKit Go.Lib
end Go.Ms
set_option linter.unusedSimpArgs false
namespace Go.Proofs.YtainiaighnjpfaaGreatDoor
open Go.RowKit Go.Ms Go.Lib
theorem qTy {w:World} {b:Nat} {x y:Value} {T:TypeId} (h:w.heap[b]?=some (.cells #[x,y] T (0,0))) (p q:Value):((w.setCell ⟨b,0,none⟩ p).setCell ⟨b,1,none⟩ q).heap[b]?=some (.cells #[p,q] T (0,0)):=by
 simp[World.setCell,Array.getElem?_modify,h]
set_option maxRecDepth 100000 in
set_option maxHeartbeats 4000000 in
theorem qM1 (w:World) (A B:Option Addr) (n cap m capm:Nat) (cs:List Co) (ks:List Int) (h1:n≤100000) (h2:m≤100000) (hn:n=cs.length) (hm:m=ks.length)
    (hA:Lay w w.heap.size A (colV cs)) (hB:Lay w w.heap.size B (intV ks)) :
    Calls Tryz.prog 19 #[.agg #[.slice A n cap,.slice B m capm]] w fun e w'=> ∃A' c' B' d',e=.returned (.agg #[.slice A' n c',.slice B' m d'])∧qEq w' w.heap.size 45 (.slice A' n c') cs∧OwnI w' w.heap.size 3 (.slice B' m d') ks∧Below w.heap.size w w':=by
 obtain⟨X,hX⟩:∃X,X=(w.alloc (.cells #[.slice A n cap,.slice B m capm] 33)).alloc (.cells #[.slice none 0 0,.slice none 0 0] 33):=⟨_,rfl⟩
 have P1:X.heap[w.heap.size]?=some (.cells #[.slice A n cap,.slice B m capm] 33 (0,0)):=by rw[hX];exact qAd (qAf _ _) _
 have P2:X.heap[w.heap.size+1]?=some (.cells #[.slice none 0 0,.slice none 0 0] 33 (0,0)):=by rw[hX];have:=qAf (w.alloc (.cells #[.slice A n cap,.slice B m capm] 33)) (.cells #[.slice none 0 0,.slice none 0 0] 33);rw[World.size_alloc] at this;exact this
 have hXs:X.heap.size=w.heap.size+2:=by rw[hX];rw[World.size_alloc,World.size_alloc]
 have bX:Below w.heap.size w X:=by rw[hX];exact((Below.refl _ w).alloc (Nat.le_refl _) _).alloc (by rw[World.size_alloc];omega) _
 have hc:Calls Tryz.prog 51 #[.slice A n cap] X.drew fun e w'=> ∃A' c',e=.returned (.slice A' n c')∧qEq w' X.heap.size 45 (.slice A' n c') cs∧Below X.heap.size X w':=by
  refine(qNh X.drew A n cap cs h1 hn (hA.below bX.drew |>.more bX.size)).mono ?_;rintro e w' ⟨v,rfl,ho,hb⟩;have ho:qEq w' X.heap.size 45 v cs:=ho;obtain⟨A',c',rfl,_⟩:=qAh ho;have e1:=(qEq.lay ho).1;exact⟨A',c',by rw[hn],by rw[hn];exact ho,((Below.refl X.heap.size X).drew).trans hb⟩
 have hi:=fun (w':World) (hb:Below w.heap.size w w')=>qOd w' B m capm ks h2 hm ((hB.below hb).more hb.size)
 have HI:=Lib.hid hi;have HC:=Lib.hid hc;have BX:=Lib.hid bX;have H1:=Lib.hid P1;have H2:=Lib.hid P2;have HS:=Lib.hid hXs;have HM:=Lib.hid hm
 clear hc hi hA hB hn hm h1 h2 bX P1 P2 hXs
 go_enter Tryz.func19,Tryz.ntmps19
 go_wp2_with fail
 rw[←hX];clear hX;have c0:=cell_of_block (i:=0) (w:=X.drew) H1.out rfl;have c1:=cell_of_block (i:=1) (w:=X.drew) H1.out rfl;have e1:=cell_of_block (i:=0) (w:=X) H1.out rfl;have e2:=cell_of_block (i:=1) (w:=X) H1.out rfl
 go_region_with (first
   |(go_at_call 51;refine HC.out.mono ?_;rintro en w1 ⟨A1,k1,rfl,o1,b1⟩;have d1:=cell_of_block (i:=1) (qAa H1.out b1) rfl;have O1:=Lib.hid o1;have B1:=Lib.hid b1;clear o1 b1)
   |(go_at_call 52;refine(HI.out _ (BX.out.trans (B1.out.mono BX.out.size))).mono ?_;rintro en w2 ⟨v2,rfl,o2,b2⟩;obtain⟨A2,k2,rfl,-,-⟩:=qAh o2;have q2:=qAa (qAa H2.out B1.out) b2;have f0:=cell_of_block (i:=0) q2 rfl;have f1:=cell_of_block (i:=1) q2 rfl;have g0:w2.frozen? ⟨w.heap.size+1,0,none⟩=false:=(by simp[World.frozen?,q2]);have g1:w2.frozen? ⟨w.heap.size+1,1,none⟩=false:=(by simp[World.frozen?,q2]);have O2:=Lib.hid o2;have B2:=Lib.hid b2;have Q2:=Lib.hid q2;clear o2 b2 q2))
 all_goals go_wp2_with fail
 all_goals
  have z:=qTy Q2.out (.slice A1 n k1) (.slice A2 ks.length k2);have z0:=cell_of_block (i:=0) z rfl;have z1:=cell_of_block (i:=1) z rfl;have o1:qEq ((w2.setCell ⟨w.heap.size+1,0,none⟩ (.slice A1 n k1)).setCell ⟨w.heap.size+1,1,none⟩ (.slice A2 ks.length k2)) X.heap.size 45 (.slice A1 n k1) cs:=qJn (qJn (own_below O1.out B2.out) (by have:=HS.out;omega) _) (by have:=HS.out;omega) _
  have o2:OwnI ((w2.setCell ⟨w.heap.size+1,0,none⟩ (.slice A1 n k1)).setCell ⟨w.heap.size+1,1,none⟩ (.slice A2 ks.length k2)) w1.heap.size 3 (.slice A2 ks.length k2) ks:=qJn (qJn O2.out (by have:=HS.out;have:=B1.out.size;omega) _) (by have:=HS.out;have:=B1.out.size;omega) _
  have bw:Below w.heap.size w ((w2.setCell ⟨w.heap.size+1,0,none⟩ (.slice A1 n k1)).setCell ⟨w.heap.size+1,1,none⟩ (.slice A2 ks.length k2)):=((BX.out.trans (B1.out.mono BX.out.size)).trans (B2.out.mono (by have:=BX.out.size;have:=B1.out.size;omega))).setCell (p:=⟨w.heap.size+1,0,none⟩) (by simp) _ |>.setCell (p:=⟨w.heap.size+1,1,none⟩) (by simp) _;have O1':=Lib.hid (qB1 o1 BX.out.size);have O2':=Lib.hid (qB1 o2 (by have:=BX.out.size;have:=B1.out.size;omega:w.heap.size≤w1.heap.size));have BW:=Lib.hid bw;clear o1 o2 bw z
  generalize (w2.setCell ⟨w.heap.size+1,0,none⟩ (.slice A1 n k1)).setCell ⟨w.heap.size+1,1,none⟩ (.slice A2 ks.length k2)=W3 at z0 z1 O1' O2' BW ⊢
  refine bodyPost_ret (v:=.agg #[.slice A1 n k1,.slice A2 ks.length k2]) (by simp[results,Tryz.results19,go_sem,z0,z1]) rfl ?_;rw[HM.out];exact⟨_,_,_,_,rfl,O1'.out,O2'.out,BW.out⟩
end Go.Proofs.YtainiaighnjpfaaGreatDoor
set_option linter.unusedSimpArgs false
namespace Go.Proofs.YtainiaighnjpfaaGreatDoor
open Go.RowKit Go.Ms Go.Lib
theorem qPw {S:ByteArray} {w:World} {D:List Co×List Int×Nat×Int} (hs:S.size≤20000) (hE:Env w) (h:qCg S.data.toList=D) {n m:Nat} {l:Int} (hn:D.1.length=n) (hm:D.2.1.length=m) (hl:((D.2.2.1:Nat):Int)=l) :
    Calls Tryz.prog 49 #[.string S] w fun e w'=> ∃(A B:Option Addr) (c d:Nat),(n≤c∧c≤maxLen∧m≤d∧d≤maxLen)∧e=.returned (.tuple #[.agg #[.slice A n c,.slice B m d],.int .i64 l,.int .i64 D.2.2.2])∧Lay w' w'.heap.size A (colV D.1)∧Lay w' w'.heap.size B (intV D.2.1)∧Below w.heap.size w w':=by
 subst h hn hm hl;exact qLl S w hs hE
end Go.Proofs.YtainiaighnjpfaaGreatDoor
namespace Go.Ms
open Go.RowKit Go.Lib
end Go.Ms
namespace Go.Ms
end Go.Ms
namespace Go.Proofs.YtainiaighnjpfaaGreatDoor
open Go.RowKit Go.Ms Go.Lib
end Go.Proofs.YtainiaighnjpfaaGreatDoor
namespace Go.Proofs.YtainiaighnjpfaaGreatDoor
open Go.Ms
end Go.Proofs.YtainiaighnjpfaaGreatDoor
namespace Go.Ms
end Go.Ms
namespace Go.Proofs.YtainiaighnjpfaaGreatDoor
open Go.RowKit Go.Ms Go.Lib
end Go.Proofs.YtainiaighnjpfaaGreatDoor
set_option linter.unusedSimpArgs false
namespace Go.Ms
open Go.RowKit Go.Lib
theorem Lay.off {W:World} {B:Nat} {A:Option Addr} {xs:List Value} (h:Lay W B A xs) {b i:Nat} {a1 a2:Option Addr} {n1 c1 n2 c2:Nat} {T:TypeId} (hb:W.heap[b]?=some (.cells #[.slice a1 n1 c1,.slice a2 n2 c2] T (0,0))) (hx:∀x∈xs,∀a n c,x≠.slice a n c) (y:Value):Lay (W.setCell ⟨b,i,none⟩ y) B A xs:=by
 intro j u hu
 obtain⟨g,o,e,hlt,hc⟩:=h j u hu;refine⟨g,o,e,hlt,?_⟩
 have hne:g≠b:=by
  rintro rfl
  simp[World.cell?,hb] at hc
  have hm:=List.mem_of_getElem? hu
  rcases hoj:o+j with _|_|k
  · rw[hoj] at hc;simp at hc;exact hx u hm _ _ _ hc.symm
  · rw[hoj] at hc;simp at hc;exact hx u hm _ _ _ hc.symm
  · rw[hoj] at hc;simp at hc
 have hk:(W.setCell ⟨b,i,none⟩ y).heap[g]?=W.heap[g]?:=Below.heap_setCell W ⟨b,i,none⟩ y g hne;unfold World.cell? at hc ⊢;simp only at hc ⊢;rw[hk];exact hc
theorem qGo (l:List Co):∀x∈colV l,∀a n c,x≠.slice a n c:=by
 intro x hx a n c e
 obtain⟨d,_,hd⟩:=List.mem_flatMap.1 hx;subst e
 simp[coV] at hd
theorem qGs (l:List Int):∀x∈intV l,∀a n c,x≠.slice a n c:=by
 intro x hx a n c e
 obtain⟨d,_,hd⟩:=List.mem_map.1 hx;subst e
 cases hd
end Go.Ms
namespace Go.Proofs.YtainiaighnjpfaaGreatDoor
open Go.RowKit Go.Ms Go.Lib Go.Shelf Go.Rel
theorem qLf {w:World} {b:Nat} {x y:Value} {T:TypeId} (h:w.heap[b]?=some (.cells #[x,y] T (0,0))) (u v:Value):((w.setCell ⟨b,0,none⟩ u).setCell ⟨b,1,none⟩ v).heap[b]?=some (.cells #[u,v] T (0,0)):=qEf (two_set0 h u) v
end Go.Proofs.YtainiaighnjpfaaGreatDoor
set_option linter.unusedSimpArgs false
namespace Go.Proofs.YtainiaighnjpfaaGreatDoor
open Go.RowKit Go.Ms Go.Lib
end Go.Proofs.YtainiaighnjpfaaGreatDoor
namespace Go.Proofs.YtainiaighnjpfaaGreatDoor
open Go.RowKit Go.Ms Go.Lib
theorem qLz (u v:Bool) (a b:Int) (S T:ByteArray) (w:World) :
    (Op.equalIn 10000 43 (.agg #[.bool u,.int .i64 a,.string S]) (.agg #[.bool v,.int .i64 b,.string T])).run Tryz.prog w=.ok (decide ((u,a,S)=(v,b,T))) w:=by
 have q1:S.toList=T.toList↔S=T:=by
  rw[Lib.toList_data,Lib.toList_data];exact⟨fun h=>by rw[qBt (s:=S) rfl,qBt (s:=T) rfl,h],fun h=>by rw[h]⟩
 by_cases h0:u=v <;> by_cases h1:a=b <;> by_cases h2:S=T
 all_goals
  simp[go_sem,Tryz.underlying43,q1,h0,h1,h2]
end Go.Proofs.YtainiaighnjpfaaGreatDoor
namespace Go.Ms
open Go.RowKit Go.Lib
end Go.Ms
namespace Go.Proofs.YtainiaighnjpfaaGreatDoor
open Go.RowKit Go.Ms Go.Lib
set_option maxRecDepth 100000 in
set_option maxHeartbeats 1000000 in
theorem qM2 (w:World) (A B:Option Addr) (n cap m capm:Nat) (xs ys:List Cl) (hn':n≤maxLen) (hm':m≤maxLen) (hn:n=xs.length) (hm:m=ys.length) (hA:Lay w w.heap.size A (rowV xs)) (hB:Lay w w.heap.size B (rowV ys)) :
    Calls Tryz.prog 17 #[.slice A n cap,.slice B m capm] w fun e w'=>e=.returned (.bool (decide (xs=ys)))∧Below w.heap.size w w':=by
 unfold maxLen at hn' hm'
 by_cases hnm:n=m
 · subst hnm
   have HA:=Lib.hid hA;have HB:=Lib.hid hB;have HN:=Lib.hid hn;have HM:=Lib.hid hm
   clear hA hB hn hm
   go_enter Tryz.func17,Tryz.ntmps17
   go_wp2_with fail
   go_loopw [5] (fun id wr=> ∃k:Nat,k≤n∧id=.int .i64 k∧Below w.heap.size w wr∧xs.take k=ys.take k) (fun id _=>n-(RowKit.intOf id).toNat)
   case atStart=>exact⟨0,by omega,rfl,Below.refl _ _,rfl⟩
   case round=>
    obtain⟨k,hk,rfl,hb,hr⟩:=hrel;have HR:=Lib.hid hr;clear hr
    by_cases hlk:k<n
    · have hki:(k:Int)<n:=by omega
      obtain⟨c,hc⟩:∃c,xs[k]?=some c:=⟨_,List.getElem?_eq_getElem (by rw[←HN.out];omega)⟩;obtain⟨d,hd⟩:∃c,ys[k]?=some c:=⟨_,List.getElem?_eq_getElem (by rw[←HM.out];omega)⟩;obtain⟨g,o,rfl,hg,h1,h2,h3⟩:=HA.out.cl hc;obtain⟨g',o',rfl,hg',h4,h5,h6⟩:=HB.out.cl hd;have g1:=(hb.cell hg).trans h1;have g2:=(hb.cell hg).trans h2;have g3:=(hb.cell hg).trans h3;have g4:=(hb.cell hg').trans h4;have g5:=(hb.cell hg').trans h5;have g6:=(hb.cell hg').trans h6;clear h1 h2 h3 h4 h5 h6;have HB:=Lib.hid hb;clear hb
      have HC:=Lib.hid hc;have HD:=Lib.hid hd
      clear hc hd;obtain⟨u,nn,S⟩:=c;obtain⟨v,mm,T⟩:=d;simp only at g1 g2 g3 g4 g5 g6
      have he:=fun w=>qLz u v nn mm S T w
      have hst:xs.take (k+1)=ys.take (k+1)↔(u,nn,S)=(v,mm,T):=by
       rw[List.take_add_one,List.take_add_one,HC.out,HD.out,HR.out]
       simp
      have HST:=Lib.hid hst;clear hst
      by_cases hcd:(u,nn,S)=(v,mm,T)
      · rw[decide_eq_true hcd] at he;have HCD:=Lib.hid hcd;clear hcd
        go_wp2_with fail
        go_quiet (fail)
        go_wp2_with fail
        go_roundw
        case rel=>exact⟨k+1,by omega,by go_num,qAc HB.out _,HST.out.2 HCD.out⟩
        case measure=>simp[RowKit.intOf];omega
      · rw[decide_eq_false hcd] at he
        have hne:decide (xs=ys)=false:=by
         apply decide_eq_false
         intro e
         exact hcd (HST.out.1 (by rw[e]))
        have HNE:=Lib.hid hne;clear hcd hne
        go_wp2_with fail
        go_quiet (fail)
        go_wp2_with fail
        go_ret
        exact⟨by rw[HNE.out];rfl,qAc HB.out _⟩
    · have hki:¬(k:Int)<n:=by omega
      have hkn:k=n:=by omega
      have heq:decide (xs=ys)=true:=by
       apply decide_eq_true
       have:=HR.out;rw[hkn,List.take_of_length_le (by have:=HN.out;omega),List.take_of_length_le (by have:=HM.out;omega)] at this;exact this
      have HEQ:=Lib.hid heq;have HB:=Lib.hid hb;clear heq hkn hb
      go_wp2_with fail
      go_ret
      exact⟨by rw[HEQ.out];rfl,HB.out⟩
 · have hne:decide (xs=ys)=false:=by
     apply decide_eq_false
     intro e
     rw[e] at hn;omega
   have h1:((n:Int) != m)=true:=by simp;omega
   have h2:(n != m)=true:=by simpa using hnm
   rw[hne];clear hne hnm hA hB hn hm
   go_enter Tryz.func17,Tryz.ntmps17
   go_wp2_with fail
   go_ret
   exact⟨rfl,Below.refl _ _⟩
end Go.Proofs.YtainiaighnjpfaaGreatDoor
set_option linter.unusedSimpArgs false
namespace Go.Rel
open Go Go.RowKit
section
end
end Go.Rel
set_option linter.unusedSimpArgs false
namespace Go.Ms
open Go.RowKit Go.Lib
theorem qEz {w:World} {b:Nat} {xs:List Value} {T:TypeId} (h:w.heap[b]?=some (.cells xs.toArray T (0,0))):Lay w w.heap.size (some ⟨b,0,none⟩) xs:=fun j u hu=>
 ⟨b,0,rfl,(Array.getElem?_eq_some_iff.1 h).1,by rw[Nat.zero_add];exact cell_of_block h (by simpa using hu)⟩
def isSc (s:Sc):Value→World→Prop:=fun v w=> ∃r:SRef,v=.agg #[.slice r.a r.n r.c,.slice r.b r.m r.d]∧qCi w w.heap.size r s
theorem qLh (s:Sc):Go.Rel.Stable (isSc s):=fun v w w' ⟨r,h1,h2⟩ hb=>⟨r,h1,h2.to hb⟩
def EffT (T:TypeId) (w w':World):Prop:= ∃b:Option Nat,w.grownBy w' b∧∀g,b=some g→∃cs fz,w.heap[g]?=some (.cells cs T fz)
theorem EffT.own {w w':World} {B s n:Nat} {e:TypeId} {v:Value} {xs:List Value} (h:w.ownsRow B e s v n xs) (hg:w.grownBy w' v.ownBlock):EffT e w w':=by
 refine⟨_,hg,fun g hv=>?_⟩
 rcases h.2 with⟨hv',_⟩|⟨g',cap,cur,hv',_,hgb,_⟩
 · rw[hv'] at hv;simp[Value.ownBlock] at hv
 · rw[hv'] at hv
   simp[Value.ownBlock] at hv
   subst hv;exact⟨_,_,hgb⟩
theorem EffT.keep {T:TypeId} {w w':World} (h:EffT T w w') {b:Nat} {cs:Array Value} {T':TypeId} (hb:w.heap[b]?=some (.cells cs T' (0,0))) (hne:T'≠T):w'.heap[b]?=some (.cells cs T' (0,0)):=by
 obtain⟨r,hg,hr⟩:=h;refine(hg.block b (Array.getElem?_eq_some_iff.1 hb).1 (fun e=>?_)).trans hb;obtain⟨cs',fz,h2⟩:=hr b e.symm;rw[hb] at h2
 cases h2
 exact hne rfl
theorem qSz {W:World} {g n:Nat} {T:TypeId} {l:List Cl} (h:W.heap[g]?=some (.cells (rowV l).toArray T (0,0))) (hn:n≤l.length) (hl:n≤100000) (hz:∀c∈l,c.2.2.size≤100000):qKo W (some ⟨g,0,none⟩) n (l.take n):=by
 refine⟨by rw[List.length_take];omega,hl,?_,fun c hc=>hz c (List.mem_of_mem_take hc)⟩;have h1:=qEz (xs:=rowV l) h
 have e:rowV l=rowV (l.take n)++rowV (l.drop n):=by rw[←qMl,List.take_append_drop]
 rw[e] at h1
 intro j u hu
 exact h1 j u (by rw[List.getElem?_append_left ((List.getElem?_eq_some_iff.1 hu).1)];exact hu)
end Go.Ms
namespace Go.Proofs.YtainiaighnjpfaaGreatDoor
open Go.RowKit Go.Ms Go.Lib Go.Shelf Go.Rel
section
variable {g1 g2 g3 g4 g5:Nat} {ra rb ro rx:SRef} {w W:World}
end
end Go.Proofs.YtainiaighnjpfaaGreatDoor
set_option linter.unusedSimpArgs false
namespace Go.Ms
open Go.RowKit Go.Lib
def TyAt (W:World) (A:Option Addr) (T:TypeId):Prop:= ∀g o,A=some ⟨g,o,none⟩→∃cs,W.heap[g]?=some (.cells cs T (0,0))
theorem TyAt.to {W W':World} {A:Option Addr} {T:TypeId} (h:TyAt W A T) (hb:Below W.heap.size W W'):TyAt W' A T:=fun g o e=>by
 obtain⟨cs,hc⟩:=h g o e;exact⟨cs,qAa hc hb⟩
theorem TyAt.eff {W W':World} {A:Option Addr} {T T':TypeId} (h:TyAt W A T) (he:EffT T' W W') (hn:T≠T'):TyAt W' A T:=fun g o e=>by
 obtain⟨cs,hc⟩:=h g o e;exact⟨cs,he.keep hc hn⟩
theorem TyAt.own {W:World} {B s n n' c:Nat} {e:TypeId} {A:Option Addr} {xs:List Value} (h:W.ownsRow B e s (.slice A n c) n' xs):TyAt W A e:=fun g o ea=>by
 rcases h.2 with⟨hv,_⟩|⟨g',cap,cur,hv,_,hgb,_⟩
 · cases hv;cases ea
 · cases hv
   cases ea
   exact⟨cur,hgb⟩
theorem EffT.size {T:TypeId} {W W':World} (h:EffT T W W'):W.heap.size≤W'.heap.size:=by obtain⟨b,hg,_⟩:=h;exact hg.size
theorem EffT.set {T:TypeId} {W:World} {b:Nat} {cs:Array Value} (h:W.heap[b]?=some (.cells cs T (0,0))) (i:Nat) (u:Value):EffT T W (W.setCell ⟨b,i,none⟩ u):=⟨some b,qDm W b i u,fun g e=>by cases e;exact⟨cs,_,h⟩⟩
theorem Lay.eff {W W':World} {B:Nat} {A:Option Addr} {xs:List Value} {T T':TypeId} (h:Lay W B A xs) (ht:TyAt W A T) (he:EffT T' W W') (hn:T≠T'):Lay W' B A xs:=fun j u hu=>by
 obtain⟨g,o,e,hlt,hc⟩:=h j u hu;obtain⟨cs,hb⟩:=ht g o e;refine⟨g,o,e,hlt,?_⟩;have hb2:=he.keep hb hn;unfold World.cell? at hc ⊢;simp only at hc ⊢;rw[hb2];rw[hb] at hc;exact hc
structure ScT (tC tI:TypeId) (W:World) (r:SRef) (s:Sc):Prop where
  lay:qCi W W.heap.size r s
  ta:TyAt W r.a tC
  tb:TyAt W r.b tI
theorem ScT.to {tC tI:TypeId} {W W':World} {r:SRef} {s:Sc} (h:ScT tC tI W r s) (hb:Below W.heap.size W W'):ScT tC tI W' r s:=⟨h.lay.to hb,h.ta.to hb,h.tb.to hb⟩
theorem ScT.eff {tC tI tS:TypeId} {W W':World} {r:SRef} {s:Sc} (h:ScT tC tI W r s) (he:EffT tS W W') (n1:tC≠tS) (n2:tI≠tS):ScT tC tI W' r s:=
  ⟨⟨h.lay.n,h.lay.m,h.lay.nn,h.lay.mm,(h.lay.la.eff h.ta he n1).more he.size,(h.lay.lb.eff h.tb he n2).more he.size⟩,h.ta.eff he n1,h.tb.eff he n2⟩
section
variable {tD tS tC tI:TypeId} {va:Array Value} {v:Value} {r:SRef} {rs:List SRef} {ss:List Sc} {s:List Co} {w W W':World}
end
end Go.Ms
namespace Go.Proofs.YtainiaighnjpfaaGreatDoor
open Go.RowKit Go.Ms Go.Lib
theorem qHt:(Tryz.prog.info? 33).map (fun i=>(i.zero,i.size,i.bytes))=some (some (.agg #[.slice none 0 0,.slice none 0 0]),2,48):=by kernel_rfl
end Go.Proofs.YtainiaighnjpfaaGreatDoor
set_option linter.unusedSimpArgs false
namespace Go.Ms
open Go.RowKit Go.Lib
def qSr (w:World) (B:Nat) (e:TypeId) (v:Value) (l:List SRef):Prop:=w.ownsRow B e 2 v l.length (scsV l)
end Go.Ms
namespace Go.Proofs.YtainiaighnjpfaaGreatDoor
open Go.RowKit Go.Ms Go.Lib
theorem qFu:Tryz.prog.underlying 36=some (.slice 33):=Tryz.underlying36
set_option maxRecDepth 100000 in
theorem qGr (w:World) (A:Option Addr) (n cap:Nat) (xs:List SRef) (hn':n≤100000) (hn:n=xs.length) (hA:Lay w w.heap.size A (scsV xs)) :
    Calls Tryz.prog 41 #[.slice A n cap] w fun e w'=> ∃v,e=.returned v∧qSr w' w.heap.size 33 v xs∧Below w.heap.size w w':=by
 obtain⟨i0,hi,hz0,hz1,hz2⟩:=info_parts qHt
 rcases A with _|a
 · have h0:=hA.none_len
   have hx:xs=[]:=by
    have:=qI7 xs;rw[h0] at this
    exact List.eq_nil_of_length_eq_zero (by simp at this;omega)
   subst hx
   obtain rfl:n=0:=by simpa using hn
   have he:=fun w=>run_eql_slice_nil (P:=Tryz.prog) w 36 33 none 0 cap 0 0 qFu
   clear hA h0 hn hn'
   go_enter Tryz.func41,Tryz.ntmps41
   go_wp2_with fail
   go_ret
   exact⟨_,rfl,World.ownsRow_nil _ _ _ _,Below.refl _ _⟩
 · have he:=fun w=>run_eql_slice_nil (P:=Tryz.prog) w 36 33 (some a) n cap 0 0 qFu
   have HA:=Lib.hid hA;have HN:=Lib.hid hn
   clear hA hn
   go_enter Tryz.func41,Tryz.ntmps41
   have hown0:(w.alloc (.cells #[] 33)).ownsRow w.heap.size 33 2 (.slice (some ⟨w.heap.size,0,none⟩) 0 0) 0 []:=World.ownsRow_made w #[] 0 (Nat.le_refl _) (by unfold maxLen;omega) rfl;have hb0:Below w.heap.size w (w.alloc (.cells #[] 33)):=(Below.refl _ _).alloc (Nat.le_refl _) _
   have HO:=Lib.hid hown0;have HB:=Lib.hid hb0
   clear hown0 hb0
   go_wp2_with (at_builtin;refine qA5 rfl (.tmp 5) (.tmp 6) _ rfl w.heap.size 33 i0 _ 2 48 qFu hi hz0 hz1 hz2 rfl (by omega) (.slice (some ⟨w.heap.size,0,none⟩) 0 0) 0 [] rfl HO.out w.heap.size (some a) n cap (scsV xs) rfl (by rw[qI7,HN.out]) (HA.out.below HB.out) (qI9 _) (by unfold maxLen;omega) (by omega) HB.out.size ?_;intro v1 w1 hown1 hg1)
   have HO1:=Lib.hid hown1;have HB1:=Lib.hid (qBp HO.out HB.out HB.out.size (Nat.le_refl _) hg1);clear hown1 hg1
   go_wp2_with fail
   go_ret
   refine⟨_,rfl,?_,HB1.out⟩;unfold qSr;have:=HO1.out;rw[Nat.zero_add,HN.out] at this;exact this
end Go.Proofs.YtainiaighnjpfaaGreatDoor
set_option linter.unusedSimpArgs false
namespace Go.Ms
open Go.RowKit Go.Lib
section
end
end Go.Ms
