/- Evolve: a row carried along a chain: the package's answer. Schemas: the examples, read (closed). Schemas: a copy. Schemas: the examples, walked. Schemas that follow each other, plainly (closed): the texts of the examples, read; what the examples answer. Rows: places held against a number; the cells at places. Rows: a cell's bits are not many; no more are taken off than there are. Rows: keys put together. -/
import Derived.Test.YtikpmmipopmjaaaGreatDoorZQaf
import Derived.Test.YtikpmmipopmjaaaGreatDoorZQu
import Derived.WalkKit
import Derived.Test.YtikpmmipopmjaaaGreatDoorZQq
import Derived.Deep.RegionWith
import Derived.Test.YtikpmmipopmjaaaGreatDoorZQv
import Derived.Test.YtikpmmipopmjaaaGreatDoorZQx
import Derived.Test.YtikpmmipopmjaaaGreatDoorZQw
import Derived.Test.YtikpmmipopmjaaaGreatDoorZQm
import Derived.Test.YtikpmmipopmjaaaGreatDoorZQj
import Derived.Test.YtikpmmipopmjaaaGreatDoorZQae
set_option linter.unusedVariables false
set_option linter.unusedSimpArgs false
namespace Go.Ms
open Go.RowKit Go.Lib
def qDv (l:List Sc) (f k:Nat) (r:List Cl):List Cl:=qE5 (l.getD (f-1) zSc) ((l.drop f).take k) r
theorem qFw {l:List Sc} {f k:Nat} (h1:1≤f) (h2:f+k<l.length) (r:List Cl):qDv l f (k+1) r=qA1 (l.getD (f+k-1) zSc).1 (l.getD (f+k) zSc).1 (qDv l f k r):=by
 have hd:(l.drop f)[k]?=some (l.getD (f+k) zSc):=by rw[List.getElem?_drop,List.getD_eq_getElem?_getD,List.getElem?_eq_getElem h2];rfl
 have e:(l.drop f).take (k+1)=(l.drop f).take k++[l.getD (f+k) zSc]:=by rw[List.take_add_one,hd];rfl
 have hl:=qT9 (L:=l) (p:=f) (q:=f+k) h1 (by omega) (by omega);rw[show f+k-f=k by omega] at hl;unfold qDv;rw[e,qPd,hl];rfl
theorem qI0 {l:List Sc} {f:Nat} (h1:1≤f) {r:List Cl} (hr:(l.getD (f-1) zSc).1.length=r.length):∀(k:Nat),f+k≤l.length→(qDv l f k r).length=(l.getD (f+k-1) zSc).1.length
  |0,h=>hr.symm
  |k+1,h=>by rw[qFw h1 (by omega),qGf];rfl
theorem qRc {l:List Sc} {f t:Int} {r:List Cl} (h:¬qA6 l=0):qCe l f t r=([],qA6 l):=by unfold qCe;rw[if_neg h]
theorem qOa {l:List Sc} {f t:Int} {r:List Cl} (h:qA6 l=0) (h2:f<1∨t<f∨(l.length:Int)<t):qCe l f t r=([],131):=by unfold qCe;rw[if_pos h,if_pos h2]
theorem qOz {l:List Sc} {f t:Nat} {r:List Cl} (h:qA6 l=0) (h1:1≤f) (h2:f≤t) (h3:t≤l.length) (hr:¬qBx (qC0 (l.getD (f-1) zSc).1) r=0):qCe l f t r=([],qBx (qC0 (l.getD (f-1) zSc).1) r):=by
 unfold qCe;rw[if_pos h,if_neg (by omega),Int.toNat_natCast,if_neg hr]
theorem qOf {l:List Sc} {f t:Nat} {r:List Cl} (h:qA6 l=0) (h1:1≤f) (h2:f≤t) (h3:t≤l.length) (hr:qBx (qC0 (l.getD (f-1) zSc).1) r=0):qCe l f t r=(qDv l f (t-f) r,0):=by
 unfold qCe qDv;rw[if_pos h,if_neg (by omega),Int.toNat_natCast,if_pos hr,show((t:Int)-f).toNat=t-f by omega]
theorem getD_at {l:List Sc} {i:Nat} (h:i<l.length):l[i]?=some (l.getD i zSc):=by rw[List.getD_eq_getElem?_getD,List.getElem?_eq_getElem h];rfl
def qV1 (B:Nat) (T:TypeId) (l:List Cl):Value→World→Prop:=fun v w=>OwnC w B T v l
theorem qIb (B:Nat) (T:TypeId) (l:List Cl):Go.Rel.Stable (qV1 B T l):=fun v w w' h hb=>own_below h hb
end Go.Ms
namespace Go.Proofs.YtikpmmipopmjaaaGreatDoor
open Go.RowKit Go.Ms Go.Lib Go.Shelf Go.Rel
set_option maxRecDepth 100000 in
set_option maxHeartbeats 4000000 in
theorem qN0 (w:World) (L:Option Addr) (n cap:Nat) (rs:List SRef) (ss:List Sc) (f t:Int) (C:Option Addr) (q qcap:Nat) (r:List Cl) (hn':n≤100000) (hn:n=rs.length) (hL:qDb w w.heap.size L rs ss) (hz:∀s∈ss,ScSz s.1)
    (hf: -9223372036854775808≤f∧f≤9223372036854775807) (ht: -9223372036854775808≤t∧t≤9223372036854775807) (hr:qJg w C q r) (hE:Env w) :
    Calls Tryz.prog 23 #[.slice L n cap,.int .i64 f,.int .i64 t,.slice C q qcap] w (qE6 w (qCe ss f t r).1 (qCe ss f t r).2):=by
 have hns:n=ss.length:=hn.trans hL.len;have hch:=qFb w L n cap rs ss hn' hn hL hz hE
 by_cases h0:qA6 ss=0
 case neg=>
  rw[qRc h0]
  generalize qA6 ss=Z at hch h0 ⊢
  have h0':(Z != 0)=true:=by simpa using h0
  have HC:=Lib.hid hch;clear hch hn hL hz hr hE hns
  go_enter Tryz.func23,Tryz.ntmps23
  go_wp2_with fail
  refine HC.out.mono ?_;rintro en w1 ⟨rfl,b1⟩;have B1:=Lib.hid b1;clear b1
  go_wp2_with fail
  go_ret2
  exact⟨_,rfl,World.ownsRow_nil _ _ _ _,B1.out⟩
 rw[h0] at hch
 by_cases ho:f<1∨t<f∨(ss.length:Int)<t
 · rw[qOa h0 ho]
   have HC:=Lib.hid hch;have HO:=Lib.hid ho;have HNS:=Lib.hid hns
   clear hch hn hL hz hr hE hns ho h0
   by_cases c1:f<1
   · go_enter Tryz.func23,Tryz.ntmps23
     go_wp2_with fail
     refine HC.out.mono ?_;rintro en w1 ⟨rfl,b1⟩;have B1:=Lib.hid b1;clear b1
     go_wp2_with fail
     go_ret2
     exact⟨_,rfl,World.ownsRow_nil _ _ _ _,B1.out⟩
   · by_cases c2:t<f
     · go_enter Tryz.func23,Tryz.ntmps23
       go_wp2_with fail
       refine HC.out.mono ?_;rintro en w1 ⟨rfl,b1⟩;have B1:=Lib.hid b1;clear b1
       go_wp2_with fail
       go_ret2
       exact⟨_,rfl,World.ownsRow_nil _ _ _ _,B1.out⟩
     · have c3:(n:Int)<t:=by have:=HO.out;have:=HNS.out;omega
       go_enter Tryz.func23,Tryz.ntmps23
       go_wp2_with fail
       refine HC.out.mono ?_;rintro en w1 ⟨rfl,b1⟩;have B1:=Lib.hid b1;clear b1
       go_wp2_with fail
       go_ret2
       exact⟨_,rfl,World.ownsRow_nil _ _ _ _,B1.out⟩
 obtain⟨F,rfl⟩:∃F:Nat,f=F:=⟨f.toNat,by omega⟩;obtain⟨T,rfl⟩:∃T:Nat,t=T:=⟨t.toNat,by omega⟩
 have h1:1≤F:=by omega
 have h2:F≤T:=by omega
 have h3:T≤ss.length:=by omega
 have i1:¬(F:Int)<1:=by omega
 have i2:¬(T:Int)<F:=by omega
 have i3:¬(n:Int)<T:=by omega
 have i4:(1:Int)≤F:=by omega
 have i5:(F:Int)-1<n:=by omega
 have i6:F-1<n:=by omega
 have hw:IntKind.i64.wrap ((F:Int)-1)=(F:Int)-1:=IntWalk.i64_in _ (by omega);have hsp:=getD_at (l:=ss) (i:=F-1) (by omega);obtain⟨rp,hrp⟩:∃r,rs[F-1]?=some r:=⟨_,List.getElem?_eq_getElem (by rw[←hn];omega)⟩;obtain⟨g,o,eL,hg⟩:=hL.at_ hrp;subst eL
 have h5:=fun (W:World) (hb:Below w.heap.size w W)=>qI5 W rp.a C rp.n rp.c q qcap (qC0 (ss.getD (F-1) zSc).1) (colV (ss.getD (F-1) zSc).1) r hr.sz (by have:=(hL.each _ _ _ hrp hsp).nn;unfold maxLen;omega) (by have:=hr.qq;unfold maxLen;omega) (by rw[qC9];exact(hL.each _ _ _ hrp hsp).n) hr.ql ((hL.each _ _ _ hrp hsp).to hb).la.cols (hr.to hb).lay (hE.below hb)
 by_cases hc:qBx (qC0 (ss.getD (F-1) zSc).1) r=0
 case neg=>
  rw[qOz h0 h1 h2 h3 hc]
  generalize qBx (qC0 (ss.getD (F-1) zSc).1) r=Z at h5 hc ⊢
  have hcz:(Z != 0)=true:=by simpa using hc
  have HC:=Lib.hid hch;have H5:=Lib.hid h5;have G:=Lib.hid hg
  clear hch hn hL hz hr hE hns h0 ho hc h5 hsp hrp hg h1 h2 h3
  go_enter Tryz.func23,Tryz.ntmps23
  go_wp2_with fail
  refine HC.out.mono ?_;rintro en w1 ⟨rfl,b1⟩;have B1:=Lib.hid b1;have g1:=(G.out.below b1).c0;clear b1
  go_wp2_with fail
  refine(H5.out _ B1.out).mono ?_;rintro en w2 ⟨rfl,b2⟩;have B2:=Lib.hid (B1.out.trans (b2.mono B1.out.size));clear b2 g1
  go_wp2_with fail
  go_ret2
  exact⟨_,rfl,World.ownsRow_nil _ _ _ _,B2.out⟩
 have hlen:=(qE0 hc).1;rw[qC9] at hlen;have hok:=qFq h0
 have hcl:=fun (W:World) (hb:Below w.heap.size w W)=>qTj W C q qcap r hr.qq hr.ql (hr.to hb).lay
 rw[qOf h0 h1 h2 h3 hc];rw[hc] at h5
 have HC:=Lib.hid hch;have H5:=Lib.hid h5;have G:=Lib.hid hg;have HCL:=Lib.hid hcl;have HOK:=Lib.hid hok;have HLEN:=Lib.hid hlen;have HN:=Lib.hid hn;have HNS:=Lib.hid hns;have HL:=Lib.hid hL;have HR:=Lib.hid hr;have P1:=Lib.hid h1;have P2:=Lib.hid h2;have P3:=Lib.hid h3
 clear hch hn hL hz hr hE hns h0 ho hc h5 hsp hg hcl hok hlen h1 h2 h3
 go_enter Tryz.func23,Tryz.ntmps23
 go_wp2_with fail
 refine HC.out.mono ?_;rintro en w1 ⟨rfl,b1⟩;have B1:=Lib.hid b1;have g1:=(G.out.below b1).c0;clear b1
 go_wp2_with fail
 refine(H5.out _ B1.out).mono ?_;rintro en w2 ⟨rfl,b2⟩;have B2:=Lib.hid (B1.out.trans (b2.mono B1.out.size));clear b2 g1
 go_wp2_with fail
 refine(HCL.out _ B2.out).mono ?_;rintro en w3 ⟨v0,rfl,ho3,b3⟩
 have B3:=Lib.hid (B2.out.trans (b3.mono B2.out.size));have O3:=Lib.hid (qBp ho3 B2.out.size)
 clear b3 ho3
 go_wp2_with fail
 go_loopw [12,13] (fun v i wr=> ∃j:Nat,i=.int .i64 j∧F≤j∧j≤T∧OwnC wr w.heap.size 57 v (qDv ss F (j-F) r)∧Below w.heap.size w wr) (fun _ i _=>T-(RowKit.intOf i).toNat)
 case atStart=>exact⟨F,rfl,Nat.le_refl _,P2.out,by rw[Nat.sub_self];exact O3.out,B3.out⟩
 case round=>
  obtain⟨j,rfl,hj1,hj2,hown,hb⟩:=hrel;obtain⟨A3,c3,rfl,hc3,hcm3⟩:=qAg hown
  by_cases hlt:j<T
  · have hlti:(j:Int)<T:=by omega
    have hsn:=qFw (l:=ss) (f:=F) (k:=j-F) P1.out (by have:=P3.out;omega) r;have hcr:=qI0 (l:=ss) P1.out HLEN.out (j-F) (by have:=P3.out;omega);rw[show F+(j-F)=j by omega] at hsn hcr;have hP3:=P3.out;have hNS:=HNS.out;have hP1:=P1.out;have hsa:=getD_at (l:=ss) (i:=j-1) (by omega);have hsb:=getD_at (l:=ss) (i:=j) (by omega);obtain⟨ra,hra⟩:∃r,rs[j-1]?=some r:=⟨_,List.getElem?_eq_getElem (by rw[←HN.out];omega)⟩;obtain⟨rb,hrb⟩:∃r,rs[j]?=some r:=⟨_,List.getElem?_eq_getElem (by rw[←HN.out];omega)⟩
    have pa:=(HL.out.each _ _ _ hra hsa).to hb;have pb:=(HL.out.each _ _ _ hrb hsb).to hb;obtain⟨ua,ia⟩:=qIy (HOK.out _ (List.mem_of_getElem? hsa));obtain⟨-,ib⟩:=qIy (HOK.out _ (List.mem_of_getElem? hsb));obtain⟨g',o',e1,ga⟩:=HL.out.at_ hra
    cases e1
    obtain⟨g',o',e2,gb⟩:=HL.out.at_ hrb
    cases e2
    have lR:=Lay.of_own hown (Nat.le_refl _)
    generalize hSA:ss.getD (j-1) zSc=sa at hsa hsn hcr pa ua ia
    generalize hSB:ss.getD j zSc=sb at hsb hsn pb ib
    generalize hRR:qDv ss F (j-F) r=R at hown hsn hcr lR hc3
    have hm:=fun (W:World) (hb2:Below wr.heap.size wr W)=>qOe ra.a ra.b ra.n ra.c ra.m ra.d sa.1 sa.2 rb.a rb.b rb.n rb.c rb.m rb.d sb.1 sb.2 A3 R.length c3 R W pa.n pa.nn (pa.to hb2).la ua ia pb.n pb.nn (pb.to hb2).la (pb.to hb2).lb ib rfl ((lR.below hb2).more hb2.size) (by rw[pa.n,hcr])
    have hwj:IntKind.i64.wrap ((j:Int)-1)=(j:Int)-1:=IntWalk.i64_in _ (by omega)
    have GA:=Lib.hid ((ga.below hb).more hb.size);have GB:=Lib.hid ((gb.below hb).more hb.size);have HM:=Lib.hid hm;have HSN:=Lib.hid hsn;have HWJ:=Lib.hid hwj;have HB:=Lib.hid hb;have J1:=Lib.hid (show 1≤j by omega);have J2:=Lib.hid (show j<n by omega)
    clear ga gb hm hsn hwj hb hown lR pa pb ua ia ib hsa hsb hra hrb hcr hSA hSB hRR hP3 hNS hP1 i4 i5 i6 hw
    go_wp2_with fail
    refine qDt (l:=[_,_,_,_,_,_,_,_,_,_,_]) (o:=_) [isV (.slice (some ⟨g,o,none⟩) n cap),isV (.int .i64 (j:Nat)),isV (.int .i64 ((j:Int)-1)),isV (.pointer (some ⟨g,o+(j-1)*2,none⟩)),isV (.agg #[.slice ra.a ra.n ra.c,.slice ra.b ra.m ra.d]),isV (.slice (some ⟨g,o,none⟩) n cap),isV (.int .i64 (j:Nat)),isV (.pointer (some ⟨g,o+j*2,none⟩)),isV (.agg #[.slice rb.a rb.n rb.c,.slice rb.b rb.m rb.d]),isV (.slice A3 R.length c3),qV1 w.heap.size 57 (qA1 sa.1 sb.1 R)] (by kernel_rfl) (by kernel_rfl) (by kernel_rfl) (by kernel_rfl) rfl ?_ ?_
    ·
      refine Rel.rb ?_;refine Rel.rb ?_;refine rf (fun ev wo E=>?_) ?_
      · have e52:ev (.tmp 52)=.int .i64 (j:Nat):=E.e 0;have ec:=E.const;have h0:=HWJ.out;go_simp;exact rv
      refine rf (fun ev wo E=>?_) ?_
      · have e51:ev (.tmp 51)=.slice (some ⟨g,o,none⟩) n cap:=E.e 0;have e53:ev (.tmp 53)=.int .i64 ((j:Int)-1):=E.e 1;have h0:=J1.out;have h1:=J2.out
        have h2:(0:Int)≤(j:Int)-1:=by omega
        have h3:(j:Int)-1<n:=by omega
        have h4:(1:Int)≤j:=by omega
        go_simp;exact rv
      refine rf (fun ev wo E=>?_) ?_
      · have e54:ev (.tmp 54)=.pointer (some ⟨g,o+(j-1)*2,none⟩):=E.e 0;have hx0:=(E.bel.cell GA.out.lt).trans GA.out.c0;have hx1:=(E.bel.cell GA.out.lt).trans GA.out.c1;go_simp;exact rv
      refine Rel.rb ?_;refine Rel.rb ?_;refine rf (fun ev wo E=>?_) ?_
      · have e56:ev (.tmp 56)=.slice (some ⟨g,o,none⟩) n cap:=E.e 0;have e57:ev (.tmp 57)=.int .i64 (j:Nat):=E.e 1;have h1:=J2.out
        have h3:(j:Int)<n:=by omega
        go_simp;exact rv
      refine rf (fun ev wo E=>?_) ?_
      · have e58:ev (.tmp 58)=.pointer (some ⟨g,o+j*2,none⟩):=E.e 0;have hx0:=(E.bel.cell GB.out.lt).trans GB.out.c0;have hx1:=(E.bel.cell GB.out.lt).trans GB.out.c1;go_simp;exact rv
      refine Rel.rb ?_;refine⟨qA9 (qAw.free rfl) (qIb _ _ _) (fun ev wo E=>?_),?_⟩
      · have e55:ev (.tmp 55)=.agg #[.slice ra.a ra.n ra.c,.slice ra.b ra.m ra.d]:=E.e 0;have e59:ev (.tmp 59)=.agg #[.slice rb.a rb.n rb.c,.slice rb.b rb.m rb.d]:=E.e 1;have e60:ev (.tmp 60)=.slice A3 R.length c3:=E.e 2;have ef:=E.func;go_simp;refine qAd ((HM.out wo E.bel).mono ?_);rintro e w' ⟨v,rfl,ho,hb⟩;exact⟨_,rfl,hb,qBp ho (Nat.le_trans HB.out.size E.bel.size)⟩
      trivial
    · intro wz bz
      (iterate 10 rintro _ rfl)
      intro v61 h61
      have B4:=Lib.hid (HB.out.trans (bz.mono HB.out.size));have H61:=Lib.hid h61
      clear bz h61;simp only[qAq];unfold Oper.wp;go_simp
      go_wp2_with fail
      go_roundw
      case rel=>
       refine⟨j+1,by go_num,by omega,by omega,?_,B4.out⟩;rw[show j+1-F=j-F+1 by omega,HSN.out];exact H61.out
      case measure=>simp[RowKit.intOf];omega
  · have hlti:¬(j:Int)<T:=by omega
    obtain rfl:j=T:=by omega
    have HO:=Lib.hid hown;have HB:=Lib.hid hb
    clear hown hb
    go_wp2_with fail
    go_ret2
    exact⟨_,rfl,HO.out,HB.out⟩
end Go.Proofs.YtikpmmipopmjaaaGreatDoor
namespace Go.Ms
open Go.RowKit Go.Lib
end Go.Ms
set_option linter.unusedSimpArgs false
namespace Go.Proofs.YtikpmmipopmjaaaGreatDoor
open Go.RowKit Go.Ms Go.Lib
theorem qVy {w:World} {b:Nat} {x y:Value} {T:TypeId} (h:w.heap[b]?=some (.cells #[x,y] T (0,0))) (p q:Value):((w.setCell ⟨b,0,none⟩ p).setCell ⟨b,1,none⟩ q).heap[b]?=some (.cells #[p,q] T (0,0)):=by
 simp[World.setCell,Array.getElem?_modify,h]
set_option maxRecDepth 100000 in
set_option maxHeartbeats 4000000 in
theorem qS5 (w:World) (A B:Option Addr) (n cap m capm:Nat) (cs:List Co) (ks:List Int) (h1:n≤100000) (h2:m≤100000) (hn:n=cs.length) (hm:m=ks.length)
    (hA:Lay w w.heap.size A (colV cs)) (hB:Lay w w.heap.size B (intV ks)) :
    Calls Tryz.prog 32 #[.agg #[.slice A n cap,.slice B m capm]] w fun e w'=> ∃A' c' B' d',e=.returned (.agg #[.slice A' n c',.slice B' m d'])∧qBt w' w.heap.size 59 (.slice A' n c') cs∧OwnI w' w.heap.size 3 (.slice B' m d') ks∧Below w.heap.size w w':=by
 obtain⟨X,hX⟩:∃X,X=(w.alloc (.cells #[.slice A n cap,.slice B m capm] 25)).alloc (.cells #[.slice none 0 0,.slice none 0 0] 25):=⟨_,rfl⟩
 have P1:X.heap[w.heap.size]?=some (.cells #[.slice A n cap,.slice B m capm] 25 (0,0)):=by rw[hX];exact qAe (qAf _ _) _
 have P2:X.heap[w.heap.size+1]?=some (.cells #[.slice none 0 0,.slice none 0 0] 25 (0,0)):=by rw[hX];have:=qAf (w.alloc (.cells #[.slice A n cap,.slice B m capm] 25)) (.cells #[.slice none 0 0,.slice none 0 0] 25);rw[World.size_alloc] at this;exact this
 have hXs:X.heap.size=w.heap.size+2:=by rw[hX];rw[World.size_alloc,World.size_alloc]
 have bX:Below w.heap.size w X:=by rw[hX];exact((Below.refl _ w).alloc (Nat.le_refl _) _).alloc (by rw[World.size_alloc];omega) _
 have hc:Calls Tryz.prog 57 #[.slice A n cap] X.drew fun e w'=> ∃A' c',e=.returned (.slice A' n c')∧qBt w' X.heap.size 59 (.slice A' n c') cs∧Below X.heap.size X w':=by
  refine(qS2 X.drew A n cap cs h1 hn (hA.below bX.drew |>.more bX.size)).mono ?_;rintro e w' ⟨v,rfl,ho,hb⟩;have ho:qBt w' X.heap.size 59 v cs:=ho;obtain⟨A',c',rfl,_⟩:=qAg ho;have e1:=(qBt.lay ho).1;exact⟨A',c',by rw[hn],by rw[hn];exact ho,((Below.refl X.heap.size X).drew).trans hb⟩
 have hi:=fun (w':World) (hb:Below w.heap.size w w')=>qTb w' B m capm ks h2 hm ((hB.below hb).more hb.size)
 have HI:=Lib.hid hi;have HC:=Lib.hid hc;have BX:=Lib.hid bX;have H1:=Lib.hid P1;have H2:=Lib.hid P2;have HS:=Lib.hid hXs;have HM:=Lib.hid hm
 clear hc hi hA hB hn hm h1 h2 bX P1 P2 hXs
 go_enter Tryz.func32,Tryz.ntmps32
 go_wp2_with fail
 rw[←hX];clear hX;have c0:=cell_of_block (i:=0) (w:=X.drew) H1.out rfl;have c1:=cell_of_block (i:=1) (w:=X.drew) H1.out rfl;have e1:=cell_of_block (i:=0) (w:=X) H1.out rfl;have e2:=cell_of_block (i:=1) (w:=X) H1.out rfl
 go_region_with (first
   |(go_at_call 57;refine HC.out.mono ?_;rintro en w1 ⟨A1,k1,rfl,o1,b1⟩;have d1:=cell_of_block (i:=1) (qAb H1.out b1) rfl;have O1:=Lib.hid o1;have B1:=Lib.hid b1;clear o1 b1)
   |(go_at_call 58;refine(HI.out _ (BX.out.trans (B1.out.mono BX.out.size))).mono ?_;rintro en w2 ⟨v2,rfl,o2,b2⟩;obtain⟨A2,k2,rfl,-,-⟩:=qAg o2;have q2:=qAb (qAb H2.out B1.out) b2;have f0:=cell_of_block (i:=0) q2 rfl;have f1:=cell_of_block (i:=1) q2 rfl;have g0:w2.frozen? ⟨w.heap.size+1,0,none⟩=false:=(by simp[World.frozen?,q2]);have g1:w2.frozen? ⟨w.heap.size+1,1,none⟩=false:=(by simp[World.frozen?,q2]);have O2:=Lib.hid o2;have B2:=Lib.hid b2;have Q2:=Lib.hid q2;clear o2 b2 q2))
 all_goals go_wp2_with fail
 all_goals
  have z:=qVy Q2.out (.slice A1 n k1) (.slice A2 ks.length k2);have z0:=cell_of_block (i:=0) z rfl;have z1:=cell_of_block (i:=1) z rfl;have o1:qBt ((w2.setCell ⟨w.heap.size+1,0,none⟩ (.slice A1 n k1)).setCell ⟨w.heap.size+1,1,none⟩ (.slice A2 ks.length k2)) X.heap.size 59 (.slice A1 n k1) cs:=qGm (qGm (own_below O1.out B2.out) (by have:=HS.out;omega) _) (by have:=HS.out;omega) _
  have o2:OwnI ((w2.setCell ⟨w.heap.size+1,0,none⟩ (.slice A1 n k1)).setCell ⟨w.heap.size+1,1,none⟩ (.slice A2 ks.length k2)) w1.heap.size 3 (.slice A2 ks.length k2) ks:=qGm (qGm O2.out (by have:=HS.out;have:=B1.out.size;omega) _) (by have:=HS.out;have:=B1.out.size;omega) _
  have bw:Below w.heap.size w ((w2.setCell ⟨w.heap.size+1,0,none⟩ (.slice A1 n k1)).setCell ⟨w.heap.size+1,1,none⟩ (.slice A2 ks.length k2)):=((BX.out.trans (B1.out.mono BX.out.size)).trans (B2.out.mono (by have:=BX.out.size;have:=B1.out.size;omega))).setCell (p:=⟨w.heap.size+1,0,none⟩) (by simp) _ |>.setCell (p:=⟨w.heap.size+1,1,none⟩) (by simp) _;have O1':=Lib.hid (qBp o1 BX.out.size);have O2':=Lib.hid (qBp o2 (by have:=BX.out.size;have:=B1.out.size;omega:w.heap.size≤w1.heap.size));have BW:=Lib.hid bw;clear o1 o2 bw z
  generalize (w2.setCell ⟨w.heap.size+1,0,none⟩ (.slice A1 n k1)).setCell ⟨w.heap.size+1,1,none⟩ (.slice A2 ks.length k2)=W3 at z0 z1 O1' O2' BW ⊢
  refine bodyPost_ret (v:=.agg #[.slice A1 n k1,.slice A2 ks.length k2]) (by simp[results,Tryz.results32,go_sem,z0,z1]) rfl ?_;rw[HM.out];exact⟨_,_,_,_,rfl,O1'.out,O2'.out,BW.out⟩
set_option maxRecDepth 100000 in
set_option maxHeartbeats 4000000 in
theorem qPi (w:World) (A B:Option Addr) (n cap m capm:Nat) (cs:List Co) (ks:List Int) (h1:n≤100000) (h2:m≤100000) (hn:n=cs.length) (hm:m=ks.length)
    (hA:Lay w w.heap.size A (colV cs)) (hB:Lay w w.heap.size B (intV ks)) :
    Calls Tryz.prog 13 #[.agg #[.slice A n cap,.slice B m capm]] w fun e w'=> ∃A' c' B' d',e=.returned (.agg #[.slice A' n c',.slice B' m d'])∧qBt w' w.heap.size 59 (.slice A' n c') cs∧OwnI w' w.heap.size 3 (.slice B' m d') ks∧Below w.heap.size w w':=by
 obtain⟨X,hX⟩:∃X,X=(w.alloc (.cells #[.slice A n cap,.slice B m capm] 25)).alloc (.cells #[.slice none 0 0,.slice none 0 0] 25):=⟨_,rfl⟩
 have P1:X.heap[w.heap.size]?=some (.cells #[.slice A n cap,.slice B m capm] 25 (0,0)):=by rw[hX];exact qAe (qAf _ _) _
 have P2:X.heap[w.heap.size+1]?=some (.cells #[.slice none 0 0,.slice none 0 0] 25 (0,0)):=by rw[hX];have:=qAf (w.alloc (.cells #[.slice A n cap,.slice B m capm] 25)) (.cells #[.slice none 0 0,.slice none 0 0] 25);rw[World.size_alloc] at this;exact this
 have hXs:X.heap.size=w.heap.size+2:=by rw[hX];rw[World.size_alloc,World.size_alloc]
 have bX:Below w.heap.size w X:=by rw[hX];exact((Below.refl _ w).alloc (Nat.le_refl _) _).alloc (by rw[World.size_alloc];omega) _
 have hc:Calls Tryz.prog 36 #[.slice A n cap] X.drew fun e w'=> ∃A' c',e=.returned (.slice A' n c')∧qBt w' X.heap.size 59 (.slice A' n c') cs∧Below X.heap.size X w':=by
  refine(qF3 X.drew A n cap (colV cs) h1 (by rw[qEf];omega) (Lay.ext (hA.below bX.drew |>.more bX.size)) (qCd _)).mono ?_;rintro e w' ⟨v,rfl,ho,hb⟩
  have ho:qBt w' X.heap.size 59 v cs:=by unfold qBt;rw[←hn];exact ho
  obtain⟨A',c',rfl,_⟩:=qAg ho;have e1:=(qBt.lay ho).1;exact⟨A',c',by rw[hn],by rw[hn];exact ho,((Below.refl X.heap.size X).drew).trans hb⟩
 have hi:=fun (w':World) (hb:Below w.heap.size w w')=>qJa w' B m capm ks h2 hm.symm (Lay.ext ((hB.below hb).more hb.size))
 have HI:=Lib.hid hi;have HC:=Lib.hid hc;have BX:=Lib.hid bX;have H1:=Lib.hid P1;have H2:=Lib.hid P2;have HS:=Lib.hid hXs;have HM:=Lib.hid hm
 clear hc hi hA hB hn hm h1 h2 bX P1 P2 hXs
 go_enter Tryz.func13,Tryz.ntmps13
 go_wp2_with fail
 rw[←hX];clear hX;have c0:=cell_of_block (i:=0) (w:=X.drew) H1.out rfl;have c1:=cell_of_block (i:=1) (w:=X.drew) H1.out rfl;have e1:=cell_of_block (i:=0) (w:=X) H1.out rfl;have e2:=cell_of_block (i:=1) (w:=X) H1.out rfl
 go_region_with (first
   |(go_at_call 36;refine HC.out.mono ?_;rintro en w1 ⟨A1,k1,rfl,o1,b1⟩;have d1:=cell_of_block (i:=1) (qAb H1.out b1) rfl;have O1:=Lib.hid o1;have B1:=Lib.hid b1;clear o1 b1)
   |(go_at_call 37;refine(HI.out _ (BX.out.trans (B1.out.mono BX.out.size))).mono ?_;rintro en w2 ⟨v2,rfl,o2,b2⟩;obtain⟨A2,k2,rfl,-,-⟩:=qAg o2;have q2:=qAb (qAb H2.out B1.out) b2;have f0:=cell_of_block (i:=0) q2 rfl;have f1:=cell_of_block (i:=1) q2 rfl;have g0:w2.frozen? ⟨w.heap.size+1,0,none⟩=false:=(by simp[World.frozen?,q2]);have g1:w2.frozen? ⟨w.heap.size+1,1,none⟩=false:=(by simp[World.frozen?,q2]);have O2:=Lib.hid o2;have B2:=Lib.hid b2;have Q2:=Lib.hid q2;clear o2 b2 q2))
 all_goals go_wp2_with fail
 all_goals
  have z:=qVy Q2.out (.slice A1 n k1) (.slice A2 ks.length k2);have z0:=cell_of_block (i:=0) z rfl;have z1:=cell_of_block (i:=1) z rfl;have o1:qBt ((w2.setCell ⟨w.heap.size+1,0,none⟩ (.slice A1 n k1)).setCell ⟨w.heap.size+1,1,none⟩ (.slice A2 ks.length k2)) X.heap.size 59 (.slice A1 n k1) cs:=qGm (qGm (own_below O1.out B2.out) (by have:=HS.out;omega) _) (by have:=HS.out;omega) _
  have o2:OwnI ((w2.setCell ⟨w.heap.size+1,0,none⟩ (.slice A1 n k1)).setCell ⟨w.heap.size+1,1,none⟩ (.slice A2 ks.length k2)) w1.heap.size 3 (.slice A2 ks.length k2) ks:=qGm (qGm O2.out (by have:=HS.out;have:=B1.out.size;omega) _) (by have:=HS.out;have:=B1.out.size;omega) _
  have bw:Below w.heap.size w ((w2.setCell ⟨w.heap.size+1,0,none⟩ (.slice A1 n k1)).setCell ⟨w.heap.size+1,1,none⟩ (.slice A2 ks.length k2)):=((BX.out.trans (B1.out.mono BX.out.size)).trans (B2.out.mono (by have:=BX.out.size;have:=B1.out.size;omega))).setCell (p:=⟨w.heap.size+1,0,none⟩) (by simp) _ |>.setCell (p:=⟨w.heap.size+1,1,none⟩) (by simp) _;have O1':=Lib.hid (qBp o1 BX.out.size);have O2':=Lib.hid (qBp o2 (by have:=BX.out.size;have:=B1.out.size;omega:w.heap.size≤w1.heap.size));have BW:=Lib.hid bw;clear o1 o2 bw z
  generalize (w2.setCell ⟨w.heap.size+1,0,none⟩ (.slice A1 n k1)).setCell ⟨w.heap.size+1,1,none⟩ (.slice A2 ks.length k2)=W3 at z0 z1 O1' O2' BW ⊢
  refine bodyPost_ret (v:=.agg #[.slice A1 n k1,.slice A2 ks.length k2]) (by simp[results,Tryz.results13,go_sem,z0,z1]) rfl ?_;rw[HM.out];exact⟨_,_,_,_,rfl,O1'.out,O2'.out,BW.out⟩
end Go.Proofs.YtikpmmipopmjaaaGreatDoor
set_option linter.unusedSimpArgs false
namespace Go.Proofs.YtikpmmipopmjaaaGreatDoor
open Go.RowKit Go.Ms Go.Lib
theorem qUu {S:ByteArray} {w:World} {D:List Co×List Int×Nat×Int} (hs:S.size≤20000) (hE:Env w) (h:qBb S.data.toList=D) {n m:Nat} {l:Int} (hn:D.1.length=n) (hm:D.2.1.length=m) (hl:((D.2.2.1:Nat):Int)=l) :
    Calls Tryz.prog 55 #[.string S] w fun e w'=> ∃(A B:Option Addr) (c d:Nat),(n≤c∧c≤maxLen∧m≤d∧d≤maxLen)∧e=.returned (.tuple #[.agg #[.slice A n c,.slice B m d],.int .i64 l,.int .i64 D.2.2.2])∧Lay w' w'.heap.size A (colV D.1)∧Lay w' w'.heap.size B (intV D.2.1)∧Below w.heap.size w w':=by
 subst h hn hm hl;exact qQn S w hs hE
end Go.Proofs.YtikpmmipopmjaaaGreatDoor
namespace Go.Ms
open Go.RowKit Go.Lib
def eW0:Sc:=([(1,⟨#[105,100]⟩,(2,false),(false,0,⟨#[]⟩)),(2,⟨#[115]⟩,(4,false),(false,0,⟨#[100]⟩))],[0])
theorem zCc:qBb [49,32,105,100,32,105,110,116,51,50,42,32,48,10,50,32,115,32,115,116,114,105,110,103,32,34,100,34,10]=(eW0.1,eW0.2,0,0):=by kernel_rfl
def eW1:Sc:=([(1,⟨#[105,100]⟩,(3,false),(false,0,⟨#[]⟩)),(4,⟨#[110]⟩,(3,true),(true,0,⟨#[]⟩))],[0])
theorem zCs:qBb [49,32,105,100,32,105,110,116,54,52,42,32,48,10,52,32,110,32,105,110,116,54,52,63,32,110,117,108,108,10]=(eW1.1,eW1.2,0,0):=by kernel_rfl
def eW2:Sc:=([(1,⟨#[105,100]⟩,(2,false),(false,0,⟨#[]⟩))],[0])
theorem zCp:qBb [49,32,105,100,32,105,110,116,51,50,42,32,48,10]=(eW2.1,eW2.2,0,0):=by kernel_rfl
def eW3:Sc:=([(2,⟨#[115]⟩,(4,false),(false,0,⟨#[100]⟩))],[])
theorem zCi:qBb [50,32,115,32,115,116,114,105,110,103,32,34,100,34,10]=(eW3.1,eW3.2,0,0):=by kernel_rfl
def eW4:Sc:=([(1,⟨#[105,100]⟩,(2,false),(false,0,⟨#[]⟩)),(2,⟨#[116]⟩,(4,false),(false,0,⟨#[100]⟩))],[0])
theorem zCg:qBb [49,32,105,100,32,105,110,116,51,50,42,32,48,10,50,32,116,32,115,116,114,105,110,103,32,34,100,34,10]=(eW4.1,eW4.2,0,0):=by kernel_rfl
def eW5:Sc:=([(1,⟨#[105,100]⟩,(2,false),(false,0,⟨#[]⟩)),(2,⟨#[115]⟩,(4,true),(false,0,⟨#[100]⟩))],[0])
theorem zBp:qBb [49,32,105,100,32,105,110,116,51,50,42,32,48,10,50,32,115,32,115,116,114,105,110,103,63,32,34,100,34,10]=(eW5.1,eW5.2,0,0):=by kernel_rfl
def eW6:Sc:=([(1,⟨#[105,100]⟩,(2,false),(false,0,⟨#[]⟩)),(2,⟨#[115]⟩,(4,false),(false,0,⟨#[101]⟩))],[0])
theorem zB2:qBb [49,32,105,100,32,105,110,116,51,50,42,32,48,10,50,32,115,32,115,116,114,105,110,103,32,34,101,34,10]=(eW6.1,eW6.2,0,0):=by kernel_rfl
def eW7:Sc:=([(2,⟨#[115]⟩,(4,false),(false,0,⟨#[]⟩))],[0])
theorem zB6:qBb [50,32,115,32,115,116,114,105,110,103,42,32,34,34,10]=(eW7.1,eW7.2,0,0):=by kernel_rfl
def eW8:Sc:=([(1,⟨#[97]⟩,(1,false),(false,0,⟨#[]⟩)),(2,⟨#[115]⟩,(4,false),(false,0,⟨#[]⟩))],[1])
theorem zCk:qBb [49,32,97,32,98,111,111,108,32,102,97,108,115,101,10,50,32,115,32,115,116,114,105,110,103,42,32,34,34,10]=(eW8.1,eW8.2,0,0):=by kernel_rfl
def eT0:Sc:=([(1,⟨#[107]⟩,(2,false),(false,0,⟨#[]⟩))],[0])
theorem zBn:qBb [49,32,107,32,105,110,116,51,50,42,32,48,10]=(eT0.1,eT0.2,0,0):=by kernel_rfl
def eT1:Sc:=([(1,⟨#[107]⟩,(3,false),(false,0,⟨#[]⟩))],[0])
theorem zBr:qBb [49,32,107,32,105,110,116,54,52,42,32,48,10]=(eT1.1,eT1.2,0,0):=by kernel_rfl
def eT2:Sc:=([(1,⟨#[107]⟩,(4,false),(false,0,⟨#[]⟩))],[0])
theorem zBs:qBb [49,32,107,32,115,116,114,105,110,103,42,32,34,34,10]=(eT2.1,eT2.2,0,0):=by kernel_rfl
def eT3:Sc:=([(1,⟨#[107]⟩,(2,false),(false,1,⟨#[]⟩))],[0])
theorem zA7:qBb [49,32,107,32,105,110,116,51,50,42,32,49,10]=(eT3.1,eT3.2,0,0):=by kernel_rfl
def eT4:Sc:=([(1,⟨#[107]⟩,(2,false),(false,0,⟨#[]⟩)),(2,⟨#[118]⟩,(2,false),(false,0,⟨#[]⟩))],[0])
theorem zBk:qBb [49,32,107,32,105,110,116,51,50,42,32,48,10,50,32,118,32,105,110,116,51,50,32,48,10]=(eT4.1,eT4.2,0,0):=by kernel_rfl
def eT5:Sc:=([(1,⟨#[107]⟩,(2,false),(false,0,⟨#[]⟩)),(2,⟨#[118]⟩,(3,false),(false,0,⟨#[]⟩))],[0])
theorem zB5:qBb [49,32,107,32,105,110,116,51,50,42,32,48,10,50,32,118,32,105,110,116,54,52,32,48,10]=(eT5.1,eT5.2,0,0):=by kernel_rfl
def eT6:Sc:=([(1,⟨#[107]⟩,(2,false),(false,0,⟨#[]⟩)),(2,⟨#[118]⟩,(2,true),(false,0,⟨#[]⟩))],[0])
theorem zCf:qBb [49,32,107,32,105,110,116,51,50,42,32,48,10,50,32,118,32,105,110,116,51,50,63,32,48,10]=(eT6.1,eT6.2,0,0):=by kernel_rfl
def eT7:Sc:=([(1,⟨#[107]⟩,(2,false),(false,0,⟨#[]⟩)),(2,⟨#[118]⟩,(2,true),(true,0,⟨#[]⟩))],[0])
theorem zCb:qBb [49,32,107,32,105,110,116,51,50,42,32,48,10,50,32,118,32,105,110,116,51,50,63,32,110,117,108,108,10]=(eT7.1,eT7.2,0,0):=by kernel_rfl
def eT8:Sc:=([(1,⟨#[107]⟩,(2,false),(false,0,⟨#[]⟩)),(2,⟨#[118]⟩,(3,true),(true,0,⟨#[]⟩))],[0])
theorem zA9:qBb [49,32,107,32,105,110,116,51,50,42,32,48,10,50,32,118,32,105,110,116,54,52,63,32,110,117,108,108,10]=(eT8.1,eT8.2,0,0):=by kernel_rfl
def eT9:Sc:=([(1,⟨#[107]⟩,(2,false),(false,0,⟨#[]⟩)),(2,⟨#[118]⟩,(1,false),(false,0,⟨#[]⟩))],[0])
theorem zCd:qBb [49,32,107,32,105,110,116,51,50,42,32,48,10,50,32,118,32,98,111,111,108,32,102,97,108,115,101,10]=(eT9.1,eT9.2,0,0):=by kernel_rfl
def eT10:Sc:=([(1,⟨#[107]⟩,(2,false),(false,0,⟨#[]⟩)),(2,⟨#[118]⟩,(2,false),(false,0,⟨#[]⟩))],[0,1])
theorem qZn:qBb [49,32,107,32,105,110,116,51,50,42,32,48,10,50,32,118,32,105,110,116,51,50,42,32,48,10]=(eT10.1,eT10.2,0,0):=by kernel_rfl
def eT11:Sc:=([(1,⟨#[107]⟩,(2,false),(false,0,⟨#[]⟩)),(2,⟨#[118]⟩,(2,false),(false,0,⟨#[]⟩))],[1])
theorem zAe:qBb [49,32,107,32,105,110,116,51,50,32,48,10,50,32,118,32,105,110,116,51,50,42,32,48,10]=(eT11.1,eT11.2,0,0):=by kernel_rfl
def eT12:Sc:=([(1,⟨#[107]⟩,(2,false),(false,0,⟨#[]⟩))],[])
theorem qZp:qBb [49,32,107,32,105,110,116,51,50,32,48,10]=(eT12.1,eT12.2,0,0):=by kernel_rfl
def eT13:Sc:=([(1,⟨#[107]⟩,(2,false),(false,0,⟨#[]⟩)),(3,⟨#[118]⟩,(2,false),(false,0,⟨#[]⟩))],[0])
theorem zA0:qBb [49,32,107,32,105,110,116,51,50,42,32,48,10,51,32,118,32,105,110,116,51,50,32,48,10]=(eT13.1,eT13.2,0,0):=by kernel_rfl
def eT14:Sc:=([(1,⟨#[107]⟩,(2,false),(false,0,⟨#[]⟩)),(2,⟨#[119]⟩,(2,false),(false,0,⟨#[]⟩))],[0])
theorem zAt:qBb [49,32,107,32,105,110,116,51,50,42,32,48,10,50,32,119,32,105,110,116,51,50,32,48,10]=(eT14.1,eT14.2,0,0):=by kernel_rfl
def eT15:Sc:=([(1,⟨#[107]⟩,(2,false),(false,0,⟨#[]⟩)),(2,⟨#[118]⟩,(2,false),(false,0,⟨#[]⟩)),(3,⟨#[119]⟩,(5,false),(false,0,⟨#[255]⟩))],[0])
theorem qZt:qBb [49,32,107,32,105,110,116,51,50,42,32,48,10,50,32,118,32,105,110,116,51,50,32,48,10,51,32,119,32,98,121,116,101,115,32,120,102,102,10]=(eT15.1,eT15.2,0,0):=by kernel_rfl
def eT16:Sc:=([(1,⟨#[107]⟩,(2,false),(false,0,⟨#[]⟩)),(1048576,⟨#[122]⟩,(1,false),(false,1,⟨#[]⟩))],[0])
theorem qZq:qBb [49,32,107,32,105,110,116,51,50,42,32,48,10,49,48,52,56,53,55,54,32,122,32,98,111,111,108,32,116,114,117,101,10]=(eT16.1,eT16.2,0,0):=by kernel_rfl
def eT17:Sc:=([(2,⟨#[107]⟩,(2,false),(false,0,⟨#[]⟩))],[0])
theorem zAn:qBb [50,32,107,32,105,110,116,51,50,42,32,48,10]=(eT17.1,eT17.2,0,0):=by kernel_rfl
def qR7:Sc:=(eW2.1++eW2.1,[0])
def eWr:List Cl:=[(false,5,⟨#[]⟩),(false,0,⟨#[120]⟩)]
def eWy:List Cl:=[(false,5,⟨#[]⟩),(true,0,⟨#[]⟩)]
theorem ew_0:qEb eW0 eW0 eWr=(eWr,0):=by kernel_rfl
theorem ew_1:qEb eW0 eW1 eWr=(eWy,0):=by kernel_rfl
theorem ew_2:qEb eW0 eW1 (eWr.take 1)=([],100):=by kernel_rfl
theorem ew_3:qCe [eW0,eW2,eW1] 1 3 eWr=(eWy,0):=by kernel_rfl
theorem ew_4:qCe [eW0,eW2,eW1] 2 1 eWr=([],131):=by kernel_rfl
theorem ew_5:qBh eW0 qR7=2:=by kernel_rfl
theorem ew_6:qBh eW0 eW3=120:=by kernel_rfl
theorem ew_7:qBh eW0 eW4=120:=by kernel_rfl
theorem ew_8:qBh eW0 eW5=120:=by kernel_rfl
theorem ew_9:qBh eW0 eW6=120:=by kernel_rfl
theorem zCx:qBh eW7 eW8=120:=by kernel_rfl
theorem zC4:qBh eW2 eW0=0:=by kernel_rfl
theorem zDc:qA6 [eW0,eW2,eW0]=120:=by kernel_rfl
theorem zC7:qA6 []=0:=by kernel_rfl
end Go.Ms
namespace Go.Ms
end Go.Ms
namespace Go.Proofs.YtikpmmipopmjaaaGreatDoor
open Go.RowKit Go.Ms Go.Lib
end Go.Proofs.YtikpmmipopmjaaaGreatDoor
namespace Go.Proofs.YtikpmmipopmjaaaGreatDoor
open Go.Ms
end Go.Proofs.YtikpmmipopmjaaaGreatDoor
namespace Go.Ms
end Go.Ms
namespace Go.Proofs.YtikpmmipopmjaaaGreatDoor
open Go.RowKit Go.Ms Go.Lib
end Go.Proofs.YtikpmmipopmjaaaGreatDoor
