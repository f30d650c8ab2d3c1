/- Registries by definition: Add, what is refused ahead of all else. Registries by definition: Add, of anything. Rows of cells, cut: the plain part. Registry's laws: a call cut, in memory of its own. -/
import Derived.Test.YtainiaighnjpfaaGreatDoorZQas
import Derived.Lib.MinMax
set_option maxHeartbeats 8000000
set_option maxRecDepth 100000
set_option linter.unusedVariables false
set_option linter.unusedSimpArgs false
namespace Go.Proofs.YtainiaighnjpfaaGreatDoor
open Go.RowKit Go.Ms Go.Lib Go.Maps Go.WideMaps Go.Rel
theorem qS5 {Kp:Nat→Prop} (B m:Nat) (vn vc:Value) (H:List ChR) (G:Rg) (S:ByteArray) (r:SRef) (s:Sc) (w:World) (hS:S.size≤100000) (h:RrL Kp B m vn vc H G w) (hr:qBv w w.heap.size r s) (hz:ScR s.1)
    (hkm:¬Kp m) (hkc:∀b,vc.ownBlock=some b→¬Kp b) (hbad:¬(isNm S.data.toList=true∧scOk s.1 s.2=true∧s.2≠[])) :
    Calls Tryz.prog 26 #[.pointer (some ⟨m,0,none⟩),.string S,.agg #[.slice r.a r.n r.c,.slice r.b r.m r.d]] w (qCl Kp B m vc w (qBf G S.data.toList s).1 (qBf G S.data.toList s).2.1 (qBf G S.data.toList s).2.2):=by
 obtain⟨X,hX⟩:∃X,X=w.alloc (.cells #[.slice r.a r.n r.c,.slice r.b r.m r.d] 33):=⟨_,rfl⟩;have bX:Below w.heap.size w X:=by rw[hX];exact(Below.refl _ w).alloc le_ _
 have qX:X.heap[w.heap.size]?=some (.cells #[.slice r.a r.n r.c,.slice r.b r.m r.d] 33 (0,0)):=by rw[hX];exact qAd _ _
 have hsl:=hr.to bX;have hnm:=fun (W:World)=>qB0 S W hS
 have hck:=fun (W:World) (hb:Below X.heap.size X W)=>qD4 W r.a r.b r.n r.c r.m r.d s.1 s.2 hz hr.nn hr.mm hr.n hr.m (hsl.to hb).la (hsl.to hb).lb
 have hE:qBf G S.data.toList s=(G,0,if isNm S.data.toList=false then 130 else 2):=by
  unfold qBf;by_cases e1:isNm S.data.toList=false
  · rw[if_pos e1,if_pos e1]
  · rw[if_neg e1,if_neg e1,if_pos];by_cases e2:scOk s.1 s.2=false
    · exact .inl e2
    · refine .inr (Classical.byContradiction fun e3=>hbad ⟨by simpa using e1,by simpa using e2,e3⟩)
 rw[hE];obtain⟨bn,hbn⟩:∃b,isNm S.data.toList=b:=⟨_,rfl⟩;rw[hbn] at hnm hbad ⊢;have hmm:=hr.m;obtain⟨E,hEE⟩:∃E:Int,(if bn=false then 130 else 2)=E:=⟨_,rfl⟩;rw[hEE];have HEE:=hh_ hEE;clear hEE;have HB:=hh_ bX;have QX:=hh_ qX;have HH:=hh_ h;have HNM:=hh_ hnm;have HCK:=hh_ hck;have HKM:=hh_ hkm;have HKC:=hh_ hkc;have HBAD:=hh_ hbad;have HMM:=hh_ hmm;clear bX qX h hsl hnm hck hkm hkc hE hbad hr hz hbn hS hmm;go_enter Tryz.func26,Tryz.ntmps26;go_wp2_with fail
 rw[←hX];generalize hbs:w.heap.size=bs at QX ⊢;have HBS:=hh_ hbs;clear hX hbs;refine(HNM.out X).mono ?_;rintro en w1 ⟨rfl,b1⟩;have z0:=cb_ 0 (v:=.slice r.a r.n r.c) (bk_ QX.out b1) rfl;have z1:=cb_ 1 (v:=.slice r.b r.m r.d) (bk_ QX.out b1) rfl;have B1:=hh_ b1;clear b1;rcases bn with _|_
 · have e:(130:Int)=E:=HEE.out;subst e;go_wp2_with fail
   go_ret2;exact qCl.same HH.out HKM.out HKC.out (HB.out.trans (B1.out.mono HB.out.size))
 · have e:(2:Int)=E:=HEE.out;subst e;go_wp2_with fail
   refine(HCK.out w1 B1.out).mono ?_;rintro en w2 ⟨rfl,b2⟩;have B2:=hh_ (B1.out.trans (b2.mono B1.out.size));have y1:=cb_ 1 (v:=.slice r.b r.m r.d) (bk_ QX.out B2.out) rfl;clear b2 z0 z1 B1;by_cases hc:scOk s.1 s.2=true
   · have hk:s.2=[]:=Classical.byContradiction fun e=>HBAD.out ⟨trivial,hc,e⟩
     have hm0:r.m=0:=by rw[HMM.out,hk];rfl
     have hs0:qAm s.1 s.2=0:=by unfold qAm;rw[if_pos hc]
     rw[hs0];rw[hm0] at y1;clear hc hk hs0;have HM0:=hh_ hm0;clear hm0;go_wp2_with fail
     all_goals
      go_ret2;exact qCl.same HH.out HKM.out HKC.out (HB.out.trans (B2.out.mono HB.out.size))
   · have hs0:qAm s.1 s.2=2:=by unfold qAm;rw[if_neg hc]
     rw[hs0];clear hc hs0;go_wp2_with fail
     all_goals
      go_ret2;exact qCl.same HH.out HKM.out HKC.out (HB.out.trans (B2.out.mono HB.out.size))
theorem qTd {Kp:Nat→Prop} (B m:Nat) (vn vc:Value) (H:List ChR) (G:Rg) (S:ByteArray) (r:SRef) (s:Sc) (w:World) (hS:S.size≤100000) (h:RrL Kp B m vn vc H G w) (hr:qBv w w.heap.size r s) (hz:ScR s.1) (hzg:∀t∈rgAt G S.data.toList,ScR t.1)
    (hkp:∀b,w.heap.size≤b→Kp b) (hkm:¬Kp m) (hkc:∀b,vc.ownBlock=some b→¬Kp b) :
    Calls Tryz.prog 26 #[.pointer (some ⟨m,0,none⟩),.string S,.agg #[.slice r.a r.n r.c,.slice r.b r.m r.d]] w (qCl Kp B m vc w (qBf G S.data.toList s).1 (qBf G S.data.toList s).2.1 (qBf G S.data.toList s).2.2):=by
 by_cases hg:isNm S.data.toList=true∧scOk s.1 s.2=true∧s.2≠[]
 · cases hb:qDd G S.data.toList
   · exact qW0 B m vn vc H G S r s w hS h hr hz hkp hkm hkc hb hg.1 hg.2.1 hg.2.2
   · exact qTt B m vn vc H G S r s w hS h hr hz hzg hkp hkm hkc hb hg.1 hg.2.1 hg.2.2
 · exact qS5 B m vn vc H G S r s w hS h hr hz hkm hkc hg
end Go.Proofs.YtainiaighnjpfaaGreatDoor
namespace Go.Ms
open Go.RowKit Go.Lib
def qIp (c:Cl):Cl:=(c.1,c.2.1,c.2.2.extract 0 (min c.2.2.size 1100))
theorem qGu (x:Cl) (m:List Cl):rowV (x::m)=.bool x.1::.int .i64 x.2.1::.string x.2.2::rowV m:=rfl
theorem qNf:∀(l:List Cl) (k:Nat) (c:Cl) (s:ByteArray),l[k]?=some c→(rowV l).set (k*3+2) (.string s)=rowV (l.set k (c.1,c.2.1,s))
  |[],k,c,s,h=>by simp at h
  |a::t,0,c,s,h=>by
   obtain rfl:a=c:=by simpa using h
   rfl
  |a::t,k+1,c,s,h=>by
   have ih:=qNf t k c s (by simpa using h);have e0:(k+1)*3=k*3+3:=by omega
   rw[List.set_cons_succ,qGu,qGu,e0];simp only[Nat.add_assoc,Nat.reduceAdd,List.set_cons_succ];rw[ih]
theorem qMx:∀(l:List Cl) (n:Nat),rowV (l.take n)=(rowV l).take (n*3)
  |l,0=>by simp[rowV]
  |[],n+1=>by simp[rowV]
  |a::t,n+1=>by
   rw[List.take_succ_cons,qGu,qGu,qMx t n,show(n+1)*3=n*3+3 by omega];simp only[List.take_succ_cons]
theorem qXm {α:Type} (f:α→α) {l:List α} {k:Nat} {c:α} (hc:l[k]?=some c):((l.take k).map f++l.drop k).set k (f c)=(l.take (k+1)).map f++l.drop (k+1):=by
 have hk:k<l.length:=(List.getElem?_eq_some_iff.1 hc).1;have e1:((l.take k).map f).length=k:=by rw[List.length_map,List.length_take];omega
 have e2:l.drop k=c::l.drop (k+1):=by
  have:=List.getElem?_eq_some_iff.1 hc;rw[List.drop_eq_getElem_cons hk,this.2]
 rw[List.set_append_right _ _ (by omega),e1,Nat.sub_self,e2,List.set_cons_zero,List.take_add_one,hc];simp
theorem zAj {α:Type} (f:α→α) {l:List α} {k:Nat} {c:α} (hc:l[k]?=some c):((l.take k).map f++l.drop k)[k]?=some c:=by
 have hk:k<l.length:=(List.getElem?_eq_some_iff.1 hc).1;have e1:((l.take k).map f).length=k:=by rw[List.length_map,List.length_take];omega
 rw[List.getElem?_append_right (by omega),e1,Nat.sub_self,List.getElem?_drop];exact hc
theorem zAz {w:World} {B n cap g:Nat} {e:TypeId} {l:List Cl} {k:Nat} {c:Cl} (h:OwnC w B e (.slice (some ⟨g,0,none⟩) n cap) l) (hc:l[k]?=some c) :
    w.cell? ⟨g,k*3,none⟩=some (.bool c.1)∧w.cell? ⟨g,k*3+1,none⟩=some (.int .i64 c.2.1)∧w.cell? ⟨g,k*3+2,none⟩=some (.string c.2.2)∧
    w.frozen? ⟨g,k*3,none⟩=false∧w.frozen? ⟨g,k*3+1,none⟩=false∧w.frozen? ⟨g,k*3+2,none⟩=false:=by
 have hl:=h.lay;have hk:k<l.length:=(List.getElem?_eq_some_iff.1 hc).1;obtain⟨k0,k1,k2⟩:=qOb l k c hc;have h':w.ownsRow B e 3 (.slice (some ⟨g,0,none⟩) n cap) n (rowV l):=by unfold OwnC at h;rw[←hl.1] at h;exact h
 have hn:=hl.1;have hcell:∀j,j<n*3→w.cell? ⟨g,j,none⟩=(rowV l)[j]?:=fun j hj=>World.ownsRow.cellAt h' j hj
 exact⟨(hcell _ (by omega)).trans k0,(hcell _ (by omega)).trans k1,(hcell _ (by omega)).trans k2,World.ownsRow.frozenAt h' _,World.ownsRow.frozenAt h' _,World.ownsRow.frozenAt h' _⟩
theorem qW8 {w:World} {B n cap g:Nat} {e:TypeId} {l:List Cl} {k:Nat} {c:Cl} (h:OwnC w B e (.slice (some ⟨g,0,none⟩) n cap) l) (hk:l[k]?=some c) (s:ByteArray) :
    OwnC (w.setCell ⟨g,k*3+2,none⟩ (.string s)) B e (.slice (some ⟨g,0,none⟩) n cap) (l.set k (c.1,c.2.1,s)):=by
 have hl:=h.lay;have h':w.ownsRow B e 3 (.slice (some ⟨g,0,none⟩) n cap) n (rowV l):=by unfold OwnC at h;rw[←hl.1] at h;exact h
 unfold OwnC;rw[List.length_set,←hl.1,←qNf l k c s hk];exact(World.ownsRow.stored h' _ _).1
theorem qV3 {w:World} {B n cap:Nat} {e:TypeId} {A:Option Addr} {l:List Cl} (h:OwnC w B e (.slice A n cap) l) (hl:0<l.length):∃g,A=some ⟨g,0,none⟩:=by
 rcases h.2 with⟨_,h0⟩|⟨g,cap',cur,hv,_⟩
 · omega
 · injection hv with h1;exact⟨g,h1⟩
section
variable {w:World} {b:Nat} {x0 x1 x2 x3 x4 x5 x6:Value} {T:TypeId}
theorem qP0 (h:w.heap[b]?=some (.cells #[x0,x1,x2,x3,x4,x5,x6] T (0,0))) (u:Value):(w.setCell ⟨b,4,none⟩ u).heap[b]?=some (.cells #[x0,x1,x2,x3,u,x5,x6] T (0,0)):=by
 simp[World.setCell,Array.getElem?_modify,h]
theorem qWl (h:w.heap[b]?=some (.cells #[x0,x1,x2,x3,x4,x5,x6] T (0,0))) (u:Value):(w.setCell ⟨b,5,none⟩ u).heap[b]?=some (.cells #[x0,x1,x2,x3,x4,u,x6] T (0,0)):=by
 simp[World.setCell,Array.getElem?_modify,h]
theorem qV1 (h:w.heap[b]?=some (.cells #[x0,x1,x2,x3,x4,x5,x6] T (0,0))) (u:Value):(w.setCell ⟨b,6,none⟩ u).heap[b]?=some (.cells #[x0,x1,x2,x3,x4,x5,u] T (0,0)):=by
 simp[World.setCell,Array.getElem?_modify,h]
theorem qW9 {y0 y1 y2 y3 y4 y5 y6:Value} (h:w.heap[b]?=some (.cells #[x0,x1,x2,x3,x4,x5,x6] T (0,0))):(((((((w.setCell ⟨b,0,none⟩ y0).setCell ⟨b,1,none⟩ y1).setCell ⟨b,2,none⟩ y2).setCell ⟨b,3,none⟩ y3).setCell ⟨b,4,none⟩ y4).setCell ⟨b,5,none⟩ y5).setCell ⟨b,6,none⟩ y6).heap[b]?=some (.cells #[y0,y1,y2,y3,y4,y5,y6] T (0,0)):=by
 simp[World.setCell,Array.getElem?_modify,h]
end
structure FewD (tD tC tI:TypeId) (w:World) (k f t:Int) (S:ByteArray) (v1 v2 v3:Value) (l:List Co) (ks:List Int) (wr:World):Prop where
  box:wr.heap[w.heap.size]?=some (.cells #[.int .i64 k,.int .i64 f,.int .i64 t,.string S,v1,v2,v3] tD (0,0))
  res:wr.heap[w.heap.size+1]?=some (.cells #[.int .i64 0,.int .i64 0,.int .i64 0,.string ⟨#[]⟩,.slice none 0 0,.slice none 0 0,.slice none 0 0] tD (0,0))
  o1:qBw wr (w.heap.size+2) tC v1 l
  o2:OwnI wr (w.heap.size+2) tI v2 ks
  bel:Below w.heap.size w wr
section
variable {tD tC tI:TypeId} {w wr w':World} {k f t:Int} {S:ByteArray} {v1 v2 v3:Value} {l:List Co} {ks:List Int}
theorem FewD.step (h:FewD tD tC tI w k f t S v1 v2 v3 l ks wr) (hb:Below wr.heap.size wr w'):FewD tD tC tI w k f t S v1 v2 v3 l ks w':=
  ⟨bk_ h.box hb,bk_ h.res hb,own_below h.o1 hb,own_below h.o2 hb,h.bel.trans (hb.mono h.bel.size)⟩
theorem FewD.put (hne:tC≠tI) {n cap g j:Nat} (h:FewD tD tC tI w k f t S (.slice (some ⟨g,0,none⟩) n cap) v2 v3 l ks wr) (hk:j<l.length) (c:Co) :
    FewD tD tC tI w k f t S (.slice (some ⟨g,0,none⟩) n cap) v2 v3 (l.set j c) ks (((((((wr.setCell ⟨g,j*7,none⟩ (.int .i64 c.1)).setCell ⟨g,j*7+1,none⟩ (.string c.2.1)).setCell ⟨g,j*7+2,none⟩ (.int .i64 c.2.2.1.1)).setCell ⟨g,j*7+3,none⟩ (.bool c.2.2.1.2)).setCell ⟨g,j*7+4,none⟩ (.bool c.2.2.2.1)).setCell ⟨g,j*7+5,none⟩ (.int .i64 c.2.2.2.2.1)).setCell ⟨g,j*7+6,none⟩ (.string c.2.2.2.2.2)):=by
 have hg:=zAe wr g (j*7) (.int .i64 c.1) (.string c.2.1) (.int .i64 c.2.2.1.1) (.bool c.2.2.1.2) (.bool c.2.2.2.1) (.int .i64 c.2.2.2.2.1) (.string c.2.2.2.2.2);have hb:=(World.ownsRow.lt h.o1 g rfl).1;refine⟨(hg.block _ (Array.getElem?_eq_some_iff.1 h.box).1 (fun e=>by cases e;omega)).trans h.box,(hg.block _ (Array.getElem?_eq_some_iff.1 h.res).1 (fun e=>by cases e;omega)).trans h.res,qS4 h.o1 hk c,World.ownsRow.kept h.o2 hg ?_,h.bel.grown hg h.bel.size (fun k e=>by cases e;omega)⟩;have:=qFe h.o2 h.o1 (Ne.symm hne)
 simpa[Value.ownBlock] using this
theorem FewD.putr {tE:TypeId} (h1:tC≠tE) (h2:tI≠tE) {n m cap g i size:Nat} {xs:List Value} (h:FewD tD tC tI w k f t S v1 v2 v3 l ks wr) (ho:wr.ownsRow (w.heap.size+2) tE size (.slice (some ⟨g,0,none⟩) n cap) m xs) (u:Value) :
    FewD tD tC tI w k f t S v1 v2 v3 l ks (wr.setCell ⟨g,i,none⟩ u):=by
 have hg:=qBb wr g i u;have hb:=(World.ownsRow.lt ho g rfl).1;refine⟨(hg.block _ (Array.getElem?_eq_some_iff.1 h.box).1 (fun e=>by cases e;omega)).trans h.box,(hg.block _ (Array.getElem?_eq_some_iff.1 h.res).1 (fun e=>by cases e;omega)).trans h.res,World.ownsRow.kept h.o1 hg ?_,World.ownsRow.kept h.o2 hg ?_,h.bel.grown hg h.bel.size (fun k e=>by cases e;omega)⟩
 · simpa[Value.ownBlock] using qFe h.o1 ho h1
 · simpa[Value.ownBlock] using qFe h.o2 ho h2
end
end Go.Ms
namespace Go.Proofs.YtainiaighnjpfaaGreatDoor
open Go.RowKit Go.Ms Go.Lib Go.Rel
theorem qR4 (w:World) (kd fr tt:Int) (S:ByteArray) (A B E:Option Addr) (n cap m capm p cape:Nat) (cs:List Co) (ks:List Int) (rw_:List Cl) (hS:S.size≤maxLen) (hn:n≤cap) (hcap:cap≤maxLen) (hcs:cs.length=n) (hA:Ext w w.heap.size A (colV cs)) (hm:m≤capm) (hcapm:capm≤maxLen) (hks:ks.length=m) (hB:Ext w w.heap.size B (intV ks))
    (hp:p≤cape) (hcape:cape≤maxLen) (hrw:rw_.length=p) (hE:Ext w w.heap.size E (rowV rw_)) :
    Calls Tryz.prog 24 #[.agg #[.int .i64 kd,.int .i64 fr,.int .i64 tt,.string S,.slice A n cap,.slice B m capm,.slice E p cape]] w fun e w'=> ∃A' c' B' d' E' f',e=.returned (.agg #[.int .i64 kd,.int .i64 fr,.int .i64 tt,.string (S.extract 0 (min S.size 40)),.slice A' (min n 34) c',.slice B' (min m 10) d',.slice E' (min p 40) f'])∧qBw w' w.heap.size 45 (.slice A' (min n 34) c') ((cs.take 34).map qEp)∧OwnI w' w.heap.size 3 (.slice B' (min m 10) d') (ks.take 10)∧OwnC w' w.heap.size 43 (.slice E' (min p 40) f') ((rw_.take 40).map qIp)∧Below w.heap.size w w':=by
 obtain⟨N,hN⟩:∃N:Nat,N=min n 34:=⟨_,rfl⟩;obtain⟨M,hM⟩:∃M:Nat,M=min m 10:=⟨_,rfl⟩;obtain⟨R,hR⟩:∃R:Nat,R=min p 40:=⟨_,rfl⟩;obtain⟨q,hq⟩:∃q:Nat,q=min S.size 40:=⟨_,rfl⟩;rw[←hN,←hM,←hR,←hq];obtain⟨X,hX⟩:∃X,X=(w.alloc (.cells #[.int .i64 kd,.int .i64 fr,.int .i64 tt,.string (S.extract 0 q),.slice A n cap,.slice B m capm,.slice E p cape] 56)).alloc (.cells #[.int .i64 0,.int .i64 0,.int .i64 0,.string ⟨#[]⟩,.slice none 0 0,.slice none 0 0,.slice none 0 0] 56):=⟨_,rfl⟩;have bX:Below w.heap.size w X:=by rw[hX];exact((Below.refl _ w).alloc le_ _).alloc (by rw[World.size_alloc];omega) _
 have sX:X.heap.size=w.heap.size+2:=by rw[hX];simp only[World.size_alloc]
 have q0:X.heap[w.heap.size]?=some (.cells #[.int .i64 kd,.int .i64 fr,.int .i64 tt,.string (S.extract 0 q),.slice A n cap,.slice B m capm,.slice E p cape] 56 (0,0)):=by rw[hX];exact bx_ (qAd _ _) _
 have q1:X.heap[w.heap.size+1]?=some (.cells #[.int .i64 0,.int .i64 0,.int .i64 0,.string ⟨#[]⟩,.slice none 0 0,.slice none 0 0,.slice none 0 0] 56 (0,0)):=by rw[hX];have:=qAd (w.alloc (.cells #[.int .i64 kd,.int .i64 fr,.int .i64 tt,.string (S.extract 0 q),.slice A n cap,.slice B m capm,.slice E p cape] 56)) (.cells #[.int .i64 0,.int .i64 0,.int .i64 0,.string ⟨#[]⟩,.slice none 0 0,.slice none 0 0,.slice none 0 0] 56);rw[World.size_alloc] at this;exact this
 have hc1:=fun (w1:World) (h:Below w.heap.size w w1)=>qIi w1 A N cap (colV (cs.take 34)) (by omega) (by rw[qD7,List.length_take];omega) (by rw[show colV (cs.take 34)=(colV cs).take (34*7) from(qQk cs 34).symm];exact((hA.keep h).more h.size).take _) (qG5 _)
 have hc2:=fun (w1:World) (h:Below w.heap.size w w1)=>qIa w1 B M capm (ks.take 10) (by omega) (by rw[List.length_take];omega) (by unfold intV;rw[List.map_take];exact((hB.keep h).more h.size).take 10)
 have hc3:=fun (w1:World) (h:Below w.heap.size w w1)=>qGo w1 E R cape (rw_.take 40) (by omega) (by rw[List.length_take];omega) (by rw[show rowV (rw_.take 40)=(rowV rw_).take (40*3) from qMx rw_ 40];exact((hE.keep h).more h.size).take _)
 have hmin0:min (S.size:Int) 40=(q:Int):=by omega
 have hmin1:min (n:Int) 34=(N:Int):=by omega
 have hmin2:min (m:Int) 10=(M:Int):=by omega
 have hmin3:min (p:Int) 40=(R:Int):=by omega
 have hq1:(q:Int)≤S.size:=by omega
 have hN1:(N:Int)≤cap:=by omega
 have hM1:(M:Int)≤capm:=by omega
 have hR1:(R:Int)≤cape:=by omega
 have hq2:(0:Int)≤(q:Int):=by omega
 have hN2:(0:Int)≤(N:Int):=by omega
 have hM2:(0:Int)≤(M:Int):=by omega
 have hR2:(0:Int)≤(R:Int):=by omega
 have hqc:q≤S.size:=by omega
 have hNc:N≤cap:=by omega
 have hMc:M≤capm:=by omega
 have hRc:R≤cape:=by omega
 have hNl:(cs.take 34).length=N:=by rw[List.length_take];omega
 have hMl:(ks.take 10).length=M:=by rw[List.length_take];omega
 have hRl:(rw_.take 40).length=R:=by rw[List.length_take];omega
 have hN40:N≤34:=by omega
 have hR40:R≤40:=by omega
 generalize hls:cs.take 34=l at hc1 hNl ⊢;generalize hkk:ks.take 10=kk at hc2 hMl ⊢;generalize hrr:rw_.take 40=rr at hc3 hRl ⊢;have y4:=cb_ 4 q0 rfl;unfold maxLen at hcap hcapm hcape;have HC1:=hh_ hc1;have HC2:=hh_ hc2;have HC3:=hh_ hc3;have BX:=hh_ bX;have SX:=hh_ sX;have Q0:=hh_ q0;have Q1:=hh_ q1;have HNL:=hh_ hNl;have HML:=hh_ hMl;have HRL:=hh_ hRl;clear hc1 hc2 hc3 bX q0 q1 hA hB hE hls hkk hrr hcs hks hrw hN hM hR hq hNl hMl hRl hS;go_enter Tryz.func24,Tryz.ntmps24;go_wp2_with fail
 rw[←hX];clear hX sX;refine(HC1.out X BX.out).mono ?_;rintro en w1 ⟨v,rfl,ho1,b1⟩;obtain⟨A1,c1,e1,_⟩:=qAf ho1;subst e1;have p0:=bk_ Q0.out b1;have p1:=bk_ Q1.out b1;have f0:=fz_ 4 p0;have x0:=cb_ 4 p0 rfl;have x1:=cb_ 5 p0 rfl;have hb1:=BX.out.trans (b1.mono BX.out.size);have O1:=hh_ (qAv ho1 (Nat.le_of_eq SX.out.symm));have P0:=hh_ p0;have P1:=hh_ p1;have B1:=hh_ hb1;clear ho1 b1 p0 p1 hb1;go_wp2_with fail
 refine(HC2.out _ (B1.out.setCell (p:=⟨w.heap.size,4,none⟩) le_ _)).mono ?_;rintro en w2 ⟨v,rfl,ho2,b2⟩;obtain⟨B2,d2,e2,_⟩:=qAf ho2;rw[HML.out] at e2;subst e2
 have hst:FewD 56 45 3 w kd fr tt (S.extract 0 q) (.slice A1 N c1) (.slice B2 M d2) (.slice E p cape) l kk (w2.setCell ⟨w.heap.size,5,none⟩ (.slice B2 M d2)):=by
  have hz:=SX.out;have hz1:=B1.out.size
  have hz2:w.heap.size+2≤(w1.setCell ⟨w.heap.size,4,none⟩ (.slice A1 N c1)).heap.size:=by
   rw[World.size_setCell];have:=(Array.getElem?_eq_some_iff.1 P1.out).1;omega
  refine⟨qWl (bk_ (qP0 P0.out _) b2) _,qAj (bk_ (qAj P1.out (by omega) _) b2) (by omega) _,?_,own_set' (qAv ho2 hz2) (by omega) _,(((B1.out.setCell (p:=⟨w.heap.size,4,none⟩) le_ _).trans (b2.mono (by omega))).setCell (p:=⟨w.heap.size,5,none⟩) le_ _)⟩;unfold qBw;rw[HNL.out];exact own_set' (own_below (own_set' O1.out (by omega) _) b2) (by omega) _
 have q2:=bk_ (qP0 P0.out (.slice A1 N c1)) b2;have f1:=fz_ 5 q2;have x3:=cb_ 5 q2 rfl;have HST:=hh_ hst;clear hst ho2 b2 q2 x0 x1 f0 y4;go_wp2_with fail
 go_loopw [3] (fun i wr=> ∃k:Nat,k≤N∧i=.int .i64 k∧FewD 56 45 3 w kd fr tt (S.extract 0 q) (.slice A1 N c1) (.slice B2 M d2) (.slice E p cape) ((l.take k).map qEp++l.drop k) kk wr) (fun i _=>N-(RowKit.intOf i).toNat)
 case atStart=>exact⟨0,by omega,rfl,by simpa using HST.out⟩
 case round=>
  obtain⟨k,hk,rfl,hs⟩:=hrel;have z0:=cb_ 4 hs.box rfl;by_cases hlk:k<N
  · have hki:(k:Int)<N:=by omega
    obtain⟨c,hc⟩:∃c,l[k]?=some c:=⟨_,List.getElem?_eq_getElem (by rw[HNL.out];omega)⟩;have hca:=zA6 hc
    obtain⟨g,rfl⟩:∃g,A1=some ⟨g,0,none⟩:=by
     rcases hs.o1.2 with⟨_,h0⟩|⟨g,cap',cur,hv,_⟩
     · have:=(List.getElem?_eq_some_iff.1 hca).1;omega
     · injection hv with h1;exact⟨g,h1⟩
    obtain⟨hgb,hgl⟩:=World.ownsRow.lt hs.o1 g rfl;have hlen:k<((l.take k).map qEp++l.drop k).length:=(List.getElem?_eq_some_iff.1 hca).1;have hstep:=qVg hc;obtain⟨i0,s0,⟨k0,u0⟩,n0,m0,t0⟩:=c;obtain⟨a,ha⟩:∃a:Nat,a=min s0.size 40:=⟨_,rfl⟩;obtain⟨b,hb⟩:∃b:Nat,b=min t0.size 1100:=⟨_,rfl⟩;have hcut:qEp ((i0,s0,(k0,u0),n0,m0,t0):Co)=(i0,s0.extract 0 a,(k0,u0),n0,m0,t0.extract 0 b):=by unfold qEp;rw[ha,hb]
    have ma:min (s0.size:Int) 40=(a:Int):=by omega
    have mb:min (t0.size:Int) 1100=(b:Int):=by omega
    have la:(a:Int)≤s0.size:=by omega
    have lb:(b:Int)≤t0.size:=by omega
    have la0:(0:Int)≤(a:Int):=by omega
    have lb0:(0:Int)≤(b:Int):=by omega
    have la1:a≤s0.size:=by omega
    have lb1:b≤t0.size:=by omega
    obtain⟨c0,c1',c2,c3,c4,c5,c6,h0,h1,h2,h3,h4,h5,h6⟩:=qTy hs.o1 hca;have hs2:=hs.step ((Below.refl wr.heap.size wr).alloc le_ (.cells #[.int .i64 i0,.string (s0.extract 0 a),.int .i64 k0,.bool u0,.bool n0,.int .i64 m0,.string (t0.extract 0 b)] 45));obtain⟨e0,e1,e2,e3,e4,e5,e6,f0,f1',f2,f3,f4,f5,f6⟩:=qTy hs2.o1 hca;have hp:=hs.put (by decide) hlen ((i0,s0.extract 0 a,(k0,u0),n0,m0,t0.extract 0 b):Co);rw[←hcut,hstep,hcut] at hp;have hp2:=hp.step (br_.alloc le_ (.cells #[.int .i64 i0,.string (s0.extract 0 a),.int .i64 k0,.bool u0,.bool n0,.int .i64 m0,.string (t0.extract 0 b)] 45));have zz0:=cb_ 4 hs2.box rfl;have hne:g≠wr.heap.size:=by omega
    simp only at c0 c1' c2 c3 c4 c5 c6 e0 e1 e2 e3 e4 e5 e6;have HP:=hh_ hp2;have HS:=hh_ hs;have HC:=hh_ hc;have HS2:=hh_ hs2;clear hp hp2 hs hc hs2 hca hstep hcut ha hb hlen;go_wp2_with fail
    refine⟨⟨k+1,by omega,by go_num,HP.out⟩,?_⟩;simp[RowKit.intOf];omega
  · have hki:¬(k:Int)<N:=by omega
    obtain rfl:k=N:=by omega
    have hfin:(l.take k).map qEp++l.drop k=l.map qEp:=by
     rw[List.take_of_length_le (by rw[HNL.out];omega),List.drop_eq_nil_of_le (by rw[HNL.out];omega),List.append_nil]
    rw[hfin] at hs;have zs6:=cb_ 6 hs.box rfl;have HS:=hh_ hs;clear hs hfin;go_wp2_with fail
    refine(HC3.out wr HS.out.bel).mono ?_;rintro en w3 ⟨v,rfl,ho3,b3⟩;obtain⟨D3,d3,e3,_⟩:=qAf ho3;rw[HRL.out] at e3;subst e3;have hs3:=HS.out.step b3;have zb6:=fz_ 6 hs3.box;have zc6:=cb_ 6 hs3.box rfl
    have hst3:FewD 56 45 3 w kd fr tt (S.extract 0 q) (.slice A1 k c1) (.slice B2 M d2) (.slice D3 R d3) (l.map qEp) kk (w3.setCell ⟨w.heap.size,6,none⟩ (.slice D3 R d3))∧OwnC (w3.setCell ⟨w.heap.size,6,none⟩ (.slice D3 R d3)) (w.heap.size+2) 43 (.slice D3 R d3) rr:=by
     have hz:=(Array.getElem?_eq_some_iff.1 HS.out.res).1;exact⟨⟨qV1 hs3.box _,qAj hs3.res (by omega) _,own_set' hs3.o1 (by omega) _,own_set' hs3.o2 (by omega) _,hs3.bel.setCell (p:=⟨w.heap.size,6,none⟩) le_ _⟩,own_set' (qAv ho3 (by omega)) (by omega) _⟩
    have HST3:=hh_ hst3;clear hst3 hs3 ho3 b3 zs6;go_wp2_with fail
    go_loopw [5] (fun i wr=> ∃j:Nat,j≤R∧i=.int .i64 j∧FewD 56 45 3 w kd fr tt (S.extract 0 q) (.slice A1 k c1) (.slice B2 M d2) (.slice D3 R d3) (l.map qEp) kk wr∧OwnC wr (w.heap.size+2) 43 (.slice D3 R d3) ((rr.take j).map qIp++rr.drop j)) (fun i _=>R-(RowKit.intOf i).toNat)
    case atStart=>exact⟨0,by omega,rfl,HST3.out.1,by simpa using HST3.out.2⟩
    case round=>
     obtain⟨j,hj,rfl,hs,ho⟩:=hrel;have z6:=cb_ 6 hs.box rfl;by_cases hlj:j<R
     · have hji:(j:Int)<R:=by omega
       obtain⟨c,hc⟩:∃c,rr[j]?=some c:=⟨_,List.getElem?_eq_getElem (by rw[HRL.out];omega)⟩;have hca:=zAj qIp hc;have hlen:j<((rr.take j).map qIp++rr.drop j).length:=(List.getElem?_eq_some_iff.1 hca).1;obtain⟨g,rfl⟩:=qV3 ho (by omega);obtain⟨hgb,hgl⟩:=World.ownsRow.lt ho g rfl;have hstep:=qXm qIp hc;have hput:=fun (W:World) (hW:OwnC W (w.heap.size+2) 43 (.slice (some ⟨g,0,none⟩) R d3) ((rr.take j).map qIp++rr.drop j))=>qW8 hW hca (c.2.2.extract 0 (min c.2.2.size 1100))
       rw[show((c.1,c.2.1,c.2.2.extract 0 (min c.2.2.size 1100)):Cl)=qIp c from rfl,hstep] at hput;have hcl:=fun (W:World) (hW:OwnC W (w.heap.size+2) 43 (.slice (some ⟨g,0,none⟩) R d3) ((rr.take j).map qIp++rr.drop j))=>zAz hW hca
       obtain⟨u0,m0,s0⟩:=c;obtain⟨a,ha⟩:∃a:Nat,a=min s0.size 1100:=⟨_,rfl⟩;have ma:min (s0.size:Int) 1100=(a:Int):=by omega
       have la:(a:Int)≤s0.size:=by omega
       have la0:(0:Int)≤(a:Int):=by omega
       have la1:a≤s0.size:=by omega
       simp only[←ha] at hput;have HO:=hh_ ho;have HS:=hh_ hs;have HPUT:=hh_ hput;have HCL:=hh_ hcl;have HMA:=hh_ ma;have HLA:=hh_ la;have HLA0:=hh_ la0;have HLA1:=hh_ la1;have HBX:=hh_ hs.box;clear ho hs hput hcl hca hstep hc ha ma la la0 la1 hlen;go_upto_region 15 with fail
       generalize hbs:w.heap.size=bs at HBX ⊢;refine qDc (l:=[_,_,_,_,_,_,_,_,_,_,_,_,_,_,_,_,_,_,_,_]) (o:=_) (t:=[]) [isV (.pointer (some ⟨bs,6,none⟩)),isV (.slice (some ⟨g,0,none⟩) R d3),isV (.int .i64 (j:Nat)),isV (.pointer (some ⟨bs,6,none⟩)),isV (.slice (some ⟨g,0,none⟩) R d3),isV (.int .i64 (j:Nat)),isV (.pointer (some ⟨g,j*3,none⟩)),isV (.pointer (some ⟨g,j*3+2,none⟩)),isV (.string s0),isV (.pointer (some ⟨bs,6,none⟩)),isV (.slice (some ⟨g,0,none⟩) R d3),isV (.int .i64 (j:Nat)),isV (.pointer (some ⟨g,j*3,none⟩)),isV (.pointer (some ⟨g,j*3+2,none⟩)),isV (.string s0),isV (.int .i64 s0.size),isV (.int .i64 (a:Nat)),isV (.string (s0.extract 0 a)),isV (.pointer (some ⟨g,j*3,none⟩)),isV (.pointer (some ⟨g,j*3+2,none⟩))] (by kernel_rfl) (by kernel_rfl) (by kernel_rfl) (by kernel_rfl) (by kernel_rfl) (by kernel_rfl) (by kernel_rfl) ?_ ?_
       ·
         refine rf (fun ev wo E=>?_) ?_
         · have e1:ev (.tmp 1)=.pointer (some ⟨bs,0,none⟩):=(E.base 1 rfl).trans rfl;go_simp;exact rv
         refine rf (fun ev wo E=>?_) ?_
         · have e93:ev (.tmp 93)=.pointer (some ⟨bs,6,none⟩):=E.e 0;have hx:=cb_ 6 (bk_ HBX.out E.bel) rfl;go_simp;exact rv
         refine rb ?_;refine rf (fun ev wo E=>?_) ?_
         · have e1:ev (.tmp 1)=.pointer (some ⟨bs,0,none⟩):=(E.base 1 rfl).trans rfl;go_simp;exact rv
         refine rf (fun ev wo E=>?_) ?_
         · have e96:ev (.tmp 96)=.pointer (some ⟨bs,6,none⟩):=E.e 0;have hx:=cb_ 6 (bk_ HBX.out E.bel) rfl;go_simp;exact rv
         refine rb ?_;refine rf (fun ev wo E=>?_) ?_
         · have e97:ev (.tmp 97)=.slice (some ⟨g,0,none⟩) R d3:=E.e 0;have e98:ev (.tmp 98)=.int .i64 (j:Nat):=E.e 1;have h1:=hji;have h2:=hlj;go_simp;exact rv
         refine rf (fun ev wo E=>?_) ?_
         · have e99:ev (.tmp 99)=.pointer (some ⟨g,j*3,none⟩):=E.e 0;go_simp;exact rv
         refine rf (fun ev wo E=>?_) ?_
         · have e100:ev (.tmp 100)=.pointer (some ⟨g,j*3+2,none⟩):=E.e 0;obtain⟨-,-,hx,-,-,-⟩:=HCL.out _ (own_below HO.out E.bel);go_simp;exact rv
         refine rf (fun ev wo E=>?_) ?_
         · have e1:ev (.tmp 1)=.pointer (some ⟨bs,0,none⟩):=(E.base 1 rfl).trans rfl;go_simp;exact rv
         refine rf (fun ev wo E=>?_) ?_
         · have e102:ev (.tmp 102)=.pointer (some ⟨bs,6,none⟩):=E.e 0;have hx:=cb_ 6 (bk_ HBX.out E.bel) rfl;go_simp;exact rv
         refine rb ?_;refine rf (fun ev wo E=>?_) ?_
         · have e103:ev (.tmp 103)=.slice (some ⟨g,0,none⟩) R d3:=E.e 0;have e104:ev (.tmp 104)=.int .i64 (j:Nat):=E.e 1;have h1:=hji;have h2:=hlj;go_simp;exact rv
         refine rf (fun ev wo E=>?_) ?_
         · have e105:ev (.tmp 105)=.pointer (some ⟨g,j*3,none⟩):=E.e 0;go_simp;exact rv
         refine rf (fun ev wo E=>?_) ?_
         · have e106:ev (.tmp 106)=.pointer (some ⟨g,j*3+2,none⟩):=E.e 0;obtain⟨-,-,hx,-,-,-⟩:=HCL.out _ (own_below HO.out E.bel);go_simp;exact rv
         refine rf (fun ev wo E=>?_) ?_
         · have e107:ev (.tmp 107)=.string s0:=E.e 0;go_simp;exact rv
         refine rf (fun ev wo E=>?_) ?_
         · have e108:ev (.tmp 108)=.int .i64 s0.size:=E.e 0;have ec:=E.const;have h0:=HMA.out;go_simp;exact rv
         refine rf (fun ev wo E=>?_) ?_
         · have e101:ev (.tmp 101)=.string s0:=E.e 0;have e109:ev (.tmp 109)=.int .i64 (a:Nat):=E.e 1;have h0:=HLA.out;have h1:=HLA0.out;have h2:=HLA1.out;go_simp;exact rv
         refine rf (fun ev wo E=>?_) ?_
         · have e94:ev (.tmp 94)=.slice (some ⟨g,0,none⟩) R d3:=E.e 0;have e95:ev (.tmp 95)=.int .i64 (j:Nat):=E.e 1;have h1:=hji;have h2:=hlj;go_simp;exact rv
         refine rf (fun ev wo E=>?_) ?_
         · have e111:ev (.tmp 111)=.pointer (some ⟨g,j*3,none⟩):=E.e 0;go_simp;exact rv
         trivial
       · intro wz bz
         (iterate 20 rintro _ rfl);have hz:=own_below HO.out bz;have hs2:=HS.out.step bz;have j2:=(HCL.out _ hz).2.2.1;have f2:=(HCL.out _ hz).2.2.2.2.2;have hfin:=HPUT.out _ hz;have hfd:=hs2.putr (by decide) (by decide) hz (.string (s0.extract 0 a)) (i:=j*3+2)
         have HFIN:=hh_ hfin;have HFD:=hh_ hfd;clear bz hfin hfd hz hs2 z6;simp only[qAq,qGt];unfold Oper.wp;go_simp;go_wp2_with fail
         go_roundw
         case rel=>exact⟨j+1,by omega,by go_num,HFD.out,by have h:=HFIN.out;rw[List.map_take,hbs] at h;exact h⟩
         case measure=>simp[RowKit.intOf];omega
     · have hji:¬(j:Int)<R:=by omega
       obtain rfl:j=R:=by omega
       have hfull:(rr.take j).map qIp++rr.drop j=rr.map qIp:=by
        rw[List.take_of_length_le (by rw[HRL.out];exact Nat.le_refl _),List.drop_eq_nil_of_le (by rw[HRL.out];exact Nat.le_refl _),List.append_nil]
       rw[hfull] at ho;have r0:=cb_ 0 hs.box rfl;have r1:=cb_ 1 hs.box rfl;have r2:=cb_ 2 hs.box rfl;have r3:=cb_ 3 hs.box rfl;have r4:=cb_ 4 hs.box rfl;have r5:=cb_ 5 hs.box rfl;have s0:=cb_ 0 hs.res rfl;have s1:=cb_ 1 hs.res rfl;have s2:=cb_ 2 hs.res rfl;have s3:=cb_ 3 hs.res rfl;have s4:=cb_ 4 hs.res rfl;have s5:=cb_ 5 hs.res rfl;have s6:=cb_ 6 hs.res rfl;have t0:=fz_ 0 hs.res;have t1:=fz_ 1 hs.res;have t2:=fz_ 2 hs.res;have t3:=fz_ 3 hs.res;have t4:=fz_ 4 hs.res;have t5:=fz_ 5 hs.res;have t6:=fz_ 6 hs.res;have HS:=hh_ hs;have HO:=hh_ ho;clear hs ho hfull;go_wp2_with fail
       have hq:=qW9 (y0:=.int .i64 kd) (y1:=.int .i64 fr) (y2:=.int .i64 tt) (y3:=.string (S.extract 0 q)) (y4:=.slice A1 k c1) (y5:=.slice B2 M d2) (y6:=.slice D3 j d3) HS.out.res;have q0:=cb_ 0 hq rfl;have q1:=cb_ 1 hq rfl;have q2:=cb_ 2 hq rfl;have q3:=cb_ 3 hq rfl;have q4:=cb_ 4 hq rfl;have q5:=cb_ 5 hq rfl;have q6:=cb_ 6 hq rfl;refine bodyPost_ret (v:=.agg #[.int .i64 kd,.int .i64 fr,.int .i64 tt,.string (S.extract 0 q),.slice A1 k c1,.slice B2 M d2,.slice D3 j d3]) (by simp[results,Tryz.results24,go_sem,q0,q1,q2,q3,q4,q5,q6]) rfl ?_;have hbel:∀(W:World) (i:Nat) (u:Value),Below w.heap.size w W→Below w.heap.size w (W.setCell ⟨w.heap.size+1,i,none⟩ u):=fun W i u h=>h.setCell (p:=⟨w.heap.size+1,i,none⟩) (by simp only;omega) _
       refine⟨A1,c1,B2,d2,D3,d3,rfl,qAv (base:=w.heap.size+2) ?_ (by omega),qAv (base:=w.heap.size+2) ?_ (by omega),qAv (base:=w.heap.size+2) ?_ (by omega),hbel _ _ _ (hbel _ _ _ (hbel _ _ _ (hbel _ _ _ (hbel _ _ _ (hbel _ _ _ (hbel _ _ _ HS.out.bel))))))⟩
       · exact own_set' (own_set' (own_set' (own_set' (own_set' (own_set' (own_set' HS.out.o1 (by omega) _) (by omega) _) (by omega) _) (by omega) _) (by omega) _) (by omega) _) (by omega) _
       · exact own_set' (own_set' (own_set' (own_set' (own_set' (own_set' (own_set' HS.out.o2 (by omega) _) (by omega) _) (by omega) _) (by omega) _) (by omega) _) (by omega) _) (by omega) _
       · exact own_set' (own_set' (own_set' (own_set' (own_set' (own_set' (own_set' HO.out (by omega) _) (by omega) _) (by omega) _) (by omega) _) (by omega) _) (by omega) _) (by omega) _
end Go.Proofs.YtainiaighnjpfaaGreatDoor
