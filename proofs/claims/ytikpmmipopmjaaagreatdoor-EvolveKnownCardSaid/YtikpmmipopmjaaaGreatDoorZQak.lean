/- Schemas: a schema cut. The reference: a row in memory of its own. Evolve's laws: a row cut, in memory of its own; a row made another one, in place. The reference of evolve: may a column follow one of the same id? The reference of evolve: the greatest id. Schemas: Place and Named, as the reference answers. -/
import Derived.Test.YtikpmmipopmjaaaGreatDoorZQw
import Derived.Test.YtikpmmipopmjaaaGreatDoorZQq
import Derived.Test.YtikpmmipopmjaaaGreatDoorZQx
import Derived.Test.YtikpmmipopmjaaaGreatDoorZQp
import Derived.Lib.MinMax
import Derived.Test.YtikpmmipopmjaaaGreatDoorZQt
import Derived.Test.YtikpmmipopmjaaaGreatDoorZQo
set_option linter.unusedVariables false
set_option linter.unusedSimpArgs false
namespace Go.Proofs.YtikpmmipopmjaaaGreatDoor
open Go.RowKit Go.Ms Go.Lib
set_option maxRecDepth 100000 in
set_option maxHeartbeats 4000000 in
theorem qNz (w:World) (A B:Option Addr) (n cap m capm:Nat) (cs:List Co) (ks:List Int) (hn:n≤cap) (hcap:cap≤maxLen) (hcs:cs.length=n) (hA:Ext w w.heap.size A (colV cs)) (hm:m≤capm) (hcapm:capm≤maxLen) (hks:ks.length=m) (hB:Ext w w.heap.size B (intV ks)) :
    Calls Tryz.prog 11 #[.agg #[.slice A n cap,.slice B m capm]] w fun e w'=> ∃A' c' B' d',e=.returned (.agg #[.slice A' (min n 34) c',.slice B' (min m 10) d'])∧qBt w' w.heap.size 59 (.slice A' (min n 34) c') ((cs.take 34).map qHz)∧OwnI w' w.heap.size 3 (.slice B' (min m 10) d') (ks.take 10)∧Below w.heap.size w w':=by
 obtain⟨N,hN⟩:∃N:Nat,N=min n 34:=⟨_,rfl⟩;obtain⟨M,hM⟩:∃M:Nat,M=min m 10:=⟨_,rfl⟩;rw[←hN,←hM];obtain⟨X,hX⟩:∃X,X=(w.alloc (.cells #[.slice A n cap,.slice B m capm] 25)).alloc (.cells #[.slice none 0 0,.slice none 0 0] 25):=⟨_,rfl⟩
 have bX:Below w.heap.size w X:=by rw[hX];exact((Below.refl _ w).alloc (Nat.le_refl _) _).alloc (by rw[World.size_alloc];omega) _
 have sX:X.heap.size=w.heap.size+2:=by rw[hX];simp only[World.size_alloc]
 have q0:X.heap[w.heap.size]?=some (.cells #[.slice A n cap,.slice B m capm] 25 (0,0)):=by rw[hX];exact qAe (qAf _ _) _
 have q1:X.heap[w.heap.size+1]?=some (.cells #[.slice none 0 0,.slice none 0 0] 25 (0,0)):=by rw[hX];have:=qAf (w.alloc (.cells #[.slice A n cap,.slice B m capm] 25)) (.cells #[.slice none 0 0,.slice none 0 0] 25);rw[World.size_alloc] at this;exact this
 have hc1:=qF3 X A N cap (colV (cs.take 34)) (by omega) (by rw[qEf,List.length_take];omega) (by rw[show colV (cs.take 34)=(colV cs).take (34*7) from(qR6 cs 34).symm];exact((hA.keep bX).more bX.size).take _) (qCd _)
 have hc2:=fun (w1:World) (h:Below w.heap.size w w1)=>qJa w1 B M capm (ks.take 10) (by omega) (by rw[List.length_take];omega) (by unfold intV;rw[List.map_take];exact((hB.keep h).more h.size).take 10)
 have hmin1:min (n:Int) 34=(N:Int):=by omega
 have hmin2:min (m:Int) 10=(M:Int):=by omega
 have hN1:(N:Int)≤cap:=by omega
 have hM1:(M:Int)≤capm:=by omega
 have hN2:(0:Int)≤(N:Int):=by omega
 have hM2:(0:Int)≤(M:Int):=by omega
 have hNc:N≤cap:=by omega
 have hMc:M≤capm:=by omega
 have hNl:(cs.take 34).length=N:=by rw[List.length_take];omega
 have hMl:(ks.take 10).length=M:=by rw[List.length_take];omega
 have hN40:N≤34:=by omega
 generalize hls:cs.take 34=l at hc1 hNl ⊢
 generalize hkk:ks.take 10=kk at hc2 hMl ⊢
 have y0:=cell_of_block (i:=0) q0 rfl;have y1:=cell_of_block (i:=1) q0 rfl;have g0:=qAa (i:=0) q0;unfold maxLen at hcap hcapm
 have HC1:=Lib.hid hc1;have HC2:=Lib.hid hc2;have BX:=Lib.hid bX;have SX:=Lib.hid sX;have Q0:=Lib.hid q0;have Q1:=Lib.hid q1;have HNL:=Lib.hid hNl;have HML:=Lib.hid hMl
 clear hc1 hc2 bX q0 q1 hA hB hls hkk hcs hks hN hM hNl hMl
 go_enter Tryz.func11,Tryz.ntmps11
 go_wp2_with fail
 rw[←hX];clear hX sX
 go_wp2_with fail
 refine HC1.out.mono ?_;rintro en w1 ⟨v,rfl,ho1,b1⟩;obtain⟨A1,c1,e1,_⟩:=qAg ho1;subst e1;have p0:=qAb Q0.out b1;have p1:=qAb Q1.out b1;have f0:=qAa (i:=0) p0;have x0:=cell_of_block (i:=0) p0 rfl;have x1:=cell_of_block (i:=1) p0 rfl;have hb1:=BX.out.trans (b1.mono BX.out.size)
 have O1:=Lib.hid (qBp ho1 (Nat.le_of_eq SX.out.symm));have P0:=Lib.hid p0;have P1:=Lib.hid p1;have B1:=Lib.hid hb1
 clear ho1 b1 p0 p1 hb1 y0 y1 g0
 go_wp2_with fail
 refine(HC2.out _ (B1.out.setCell (p:=⟨w.heap.size,0,none⟩) (Nat.le_refl _) _)).mono ?_;rintro en w2 ⟨v,rfl,ho2,b2⟩;obtain⟨B2,d2,e2,_⟩:=qAg ho2;rw[HML.out] at e2;subst e2
 have hst:qPe 25 59 3 w (.slice A1 N c1) (.slice B2 M d2) l kk (w2.setCell ⟨w.heap.size,1,none⟩ (.slice B2 M d2)):=by
  have hz:=SX.out;have hz1:=B1.out.size
  have hz2:w.heap.size+2≤(w1.setCell ⟨w.heap.size,0,none⟩ (.slice A1 N c1)).heap.size:=by
   rw[World.size_setCell];have:=(Array.getElem?_eq_some_iff.1 P1.out).1;omega
  refine⟨qDd (qAb (two_set0 P0.out _) b2) _,qAj (qAb (qAj P1.out (by omega) _) b2) (by omega) _,?_,own_set' (qBp ho2 hz2) (by omega) _,(((B1.out.setCell (p:=⟨w.heap.size,0,none⟩) (Nat.le_refl _) _).trans (b2.mono (by omega))).setCell (p:=⟨w.heap.size,1,none⟩) (Nat.le_refl _) _)⟩;unfold qBt;rw[HNL.out];exact own_set' (own_below (own_set' O1.out (by omega) _) b2) (by omega) _
 have q2:=qAb (two_set0 P0.out (.slice A1 N c1)) b2;have f1:=qAa (i:=1) q2;have x3:=cell_of_block (i:=1) q2 rfl;have HST:=Lib.hid hst;clear hst ho2 b2 q2 x0 x1 f0
 go_wp2_with fail
 go_loopw [3] (fun i wr=> ∃k:Nat,k≤N∧i=.int .i64 k∧qPe 25 59 3 w (.slice A1 N c1) (.slice B2 M d2) ((l.take k).map qHz++l.drop k) kk wr) (fun i _=>N-(RowKit.intOf i).toNat)
 case atStart=>exact⟨0,by omega,rfl,by simpa using HST.out⟩
 case round=>
  obtain⟨k,hk,rfl,hs⟩:=hrel;have z0:=cell_of_block (i:=0) hs.box rfl;have z1:=cell_of_block (i:=1) hs.box rfl
  by_cases hlk:k<N
  · have hki:(k:Int)<N:=by omega
    obtain⟨c,hc⟩:∃c,l[k]?=some c:=⟨_,List.getElem?_eq_getElem (by rw[HNL.out];omega)⟩;have hca:=zCu hc
    obtain⟨g,rfl⟩:∃g,A1=some ⟨g,0,none⟩:=by
     rcases hs.o1.2 with⟨_,h0⟩|⟨g,cap',cur,hv,_⟩
     · have:=(List.getElem?_eq_some_iff.1 hca).1;omega
     · injection hv with h1;exact⟨g,h1⟩
    obtain⟨hgb,hgl⟩:=World.ownsRow.lt hs.o1 g rfl;have hlen:k<((l.take k).map qHz++l.drop k).length:=(List.getElem?_eq_some_iff.1 hca).1;have hstep:=qXa hc;obtain⟨i0,s0,⟨k0,u0⟩,n0,m0,t0⟩:=c;obtain⟨a,ha⟩:∃a:Nat,a=min s0.size 40:=⟨_,rfl⟩;obtain⟨b,hb⟩:∃b:Nat,b=min t0.size 1100:=⟨_,rfl⟩
    have hcut:qHz ((i0,s0,(k0,u0),n0,m0,t0):Co)=(i0,s0.extract 0 a,(k0,u0),n0,m0,t0.extract 0 b):=by unfold qHz;rw[ha,hb]
    have ma:min (s0.size:Int) 40=(a:Int):=by omega
    have mb:min (t0.size:Int) 1100=(b:Int):=by omega
    have la:(a:Int)≤s0.size:=by omega
    have lb:(b:Int)≤t0.size:=by omega
    have la0:(0:Int)≤(a:Int):=by omega
    have lb0:(0:Int)≤(b:Int):=by omega
    have la1:a≤s0.size:=by omega
    have lb1:b≤t0.size:=by omega
    obtain⟨c0,c1',c2,c3,c4,c5,c6,h0,h1,h2,h3,h4,h5,h6⟩:=qJd hs.o1 hca;have hs2:=hs.step ((Below.refl wr.heap.size wr).alloc (Nat.le_refl _) (.cells #[.int .i64 i0,.string (s0.extract 0 a),.int .i64 k0,.bool u0,.bool n0,.int .i64 m0,.string (t0.extract 0 b)] 59));obtain⟨e0,e1,e2,e3,e4,e5,e6,f0,f1',f2,f3,f4,f5,f6⟩:=qJd hs2.o1 hca;have hp:=hs.put (by decide) hlen ((i0,s0.extract 0 a,(k0,u0),n0,m0,t0.extract 0 b):Co);rw[←hcut,hstep,hcut] at hp
    have hp2:=hp.step ((Below.refl _ _).alloc (Nat.le_refl _) (.cells #[.int .i64 i0,.string (s0.extract 0 a),.int .i64 k0,.bool u0,.bool n0,.int .i64 m0,.string (t0.extract 0 b)] 59));have zz0:=cell_of_block (i:=0) hs2.box rfl
    have hne:g≠wr.heap.size:=by omega
    simp only at c0 c1' c2 c3 c4 c5 c6 e0 e1 e2 e3 e4 e5 e6
    have HP:=Lib.hid hp2;have HS:=Lib.hid hs;have HC:=Lib.hid hc;have HS2:=Lib.hid hs2
    clear hp hp2 hs hc hs2 hca hstep hcut ha hb hlen
    go_wp2_with fail
    refine⟨⟨k+1,by omega,by go_num,HP.out⟩,?_⟩
    simp[RowKit.intOf];omega
  · have hki:¬(k:Int)<N:=by omega
    obtain rfl:k=N:=by omega
    have hfin:(l.take k).map qHz++l.drop k=l.map qHz:=by
     rw[List.take_of_length_le (by rw[HNL.out];omega),List.drop_eq_nil_of_le (by rw[HNL.out];omega),List.append_nil]
    rw[hfin] at hs;have zr0:=qAa (i:=0) hs.res;have zr1:=qAa (i:=1) hs.res;have zs0:=cell_of_block (i:=0) hs.res rfl;have zs1:=cell_of_block (i:=1) hs.res rfl;have HS:=Lib.hid hs;clear hs hfin
    go_wp2_with fail
    have hr:=qDd (two_set0 HS.out.res (.slice A1 k c1)) (.slice B2 M d2);have r0:=cell_of_block (i:=0) hr rfl;have r1:=cell_of_block (i:=1) hr rfl;refine bodyPost_ret (v:=.agg #[.slice A1 k c1,.slice B2 M d2]) (by simp[results,Tryz.results11,go_sem,r0,r1]) rfl ?_
    exact⟨A1,c1,B2,d2,rfl,qBp (own_set' (own_set' HS.out.o1 (by omega) _) (by omega) _) (by omega),qBp (own_set' (own_set' HS.out.o2 (by omega) _) (by omega) _) (by omega),(HS.out.bel.setCell (p:=⟨w.heap.size+1,0,none⟩) (by simp only;omega) _).setCell (p:=⟨w.heap.size+1,1,none⟩) (by simp only;omega) _⟩
end Go.Proofs.YtikpmmipopmjaaaGreatDoor
set_option linter.unusedSimpArgs false
namespace Go.Proofs.YtikpmmipopmjaaaGreatDoor
open Go.RowKit Go.Ms Go.Lib
set_option maxRecDepth 100000 in
theorem qJ1 (w:World) (A:Option Addr) (n cap:Nat) (l:List Cl) (hn':n≤100000) (hn:l.length=n) (hA:Ext w w.heap.size A (rowV l)) :
    Calls Tryz.prog 14 #[.slice A n cap] w fun e w'=> ∃v,e=.returned v∧OwnC w' w.heap.size 57 v l∧Below w.heap.size w w':=by
 obtain⟨i0,hi,hz0,hz1,hz2⟩:=info_parts qFj
 have HA:=Lib.hid hA;have HN:=Lib.hid hn
 clear hA hn
 go_enter Tryz.func14,Tryz.ntmps14
 go_wp2_with (at_builtin;refine qEn rfl (.tmp 4) (.tmp 5) _ rfl w.heap.size 57 i0 _ 3 32 qB7 hi hz0 hz1 hz2 rfl (by omega) rfl w.heap.size A n cap (rowV l) rfl (by rw[qJm,HN.out]) HA.out (qFt _) (by unfold maxLen;omega) (by omega) (Nat.le_refl _) ?_;intro v1 w1 hown1 hb1)
 have HO:=Lib.hid hown1;have HB:=Lib.hid hb1
 clear hown1 hb1
 go_wp2_with fail
 go_ret
 refine⟨_,rfl,?_,HB.out⟩;unfold OwnC;rw[HN.out];exact HO.out
theorem qI1 (w:World) (A:Option Addr) (n cap:Nat) (l:List Cl) (hn':n≤100000) (hn:n=l.length) (hA:Lay w w.heap.size A (rowV l)) :
    Calls Tryz.prog 14 #[.slice A n cap] w fun e w'=> ∃v,e=.returned v∧OwnC w' w.heap.size 57 v l∧Below w.heap.size w w':=qJ1 w A n cap l hn' hn.symm hA.ext
end Go.Proofs.YtikpmmipopmjaaaGreatDoor
set_option linter.unusedSimpArgs false
namespace Go.Ms
open Go.RowKit Go.Lib
def qJv (c:Cl):Cl:=(c.1,c.2.1,c.2.2.extract 0 (min c.2.2.size 1100))
theorem qFe (x:Cl) (m:List Cl):rowV (x::m)=.bool x.1::.int .i64 x.2.1::.string x.2.2::rowV m:=rfl
theorem qQr:∀(l:List Cl) (k:Nat) (c:Cl),k<l.length→(((rowV l).set (k*3) (.bool c.1)).set (k*3+1) (.int .i64 c.2.1)).set (k*3+2) (.string c.2.2)=rowV (l.set k c)
  |[],k,c,h=>by simp at h
  |a::t,0,c,h=>rfl
  |a::t,k+1,c,h=>by
   have ih:=qQr t k c (by simpa using h)
   have e0:(k+1)*3=k*3+3:=by omega
   rw[List.set_cons_succ,qFe,qFe,e0];simp only[Nat.add_assoc,Nat.reduceAdd,List.set_cons_succ];rw[ih]
theorem qOs:∀(l:List Cl) (k:Nat) (c:Cl) (s:ByteArray),l[k]?=some c→(rowV l).set (k*3+2) (.string s)=rowV (l.set k (c.1,c.2.1,s))
  |[],k,c,s,h=>by simp at h
  |a::t,0,c,s,h=>by
   obtain rfl:a=c:=by simpa using h
   rfl
  |a::t,k+1,c,s,h=>by
   have ih:=qOs t k c s (by simpa using h)
   have e0:(k+1)*3=k*3+3:=by omega
   rw[List.set_cons_succ,qFe,qFe,e0];simp only[Nat.add_assoc,Nat.reduceAdd,List.set_cons_succ];rw[ih]
theorem qN1:∀(l:List Cl) (n:Nat),rowV (l.take n)=(rowV l).take (n*3)
  |l,0=>by simp[rowV]
  |[],n+1=>by simp[rowV]
  |a::t,n+1=>by
   rw[List.take_succ_cons,qFe,qFe,qN1 t n,show(n+1)*3=n*3+3 by omega];simp only[List.take_succ_cons]
theorem qX8 {α:Type} (f:α→α) {l:List α} {k:Nat} {c:α} (hc:l[k]?=some c):((l.take k).map f++l.drop k).set k (f c)=(l.take (k+1)).map f++l.drop (k+1):=by
 have hk:k<l.length:=(List.getElem?_eq_some_iff.1 hc).1
 have e1:((l.take k).map f).length=k:=by rw[List.length_map,List.length_take];omega
 have e2:l.drop k=c::l.drop (k+1):=by
  have:=List.getElem?_eq_some_iff.1 hc;rw[List.drop_eq_getElem_cons hk,this.2]
 rw[List.set_append_right _ _ (by omega),e1,Nat.sub_self,e2,List.set_cons_zero,List.take_add_one,hc]
 simp
theorem zBi {α:Type} (f:α→α) {l:List α} {k:Nat} {c:α} (hc:l[k]?=some c):((l.take k).map f++l.drop k)[k]?=some c:=by
 have hk:k<l.length:=(List.getElem?_eq_some_iff.1 hc).1
 have e1:((l.take k).map f).length=k:=by rw[List.length_map,List.length_take];omega
 rw[List.getElem?_append_right (by omega),e1,Nat.sub_self,List.getElem?_drop];exact hc
theorem qY7 {w:World} {B n cap g:Nat} {e:TypeId} {l:List Cl} {k:Nat} {c:Cl} (h:OwnC w B e (.slice (some ⟨g,0,none⟩) n cap) l) (hc:l[k]?=some c) :
    w.cell? ⟨g,k*3,none⟩=some (.bool c.1)∧w.cell? ⟨g,k*3+1,none⟩=some (.int .i64 c.2.1)∧w.cell? ⟨g,k*3+2,none⟩=some (.string c.2.2)∧
    w.frozen? ⟨g,k*3,none⟩=false∧w.frozen? ⟨g,k*3+1,none⟩=false∧w.frozen? ⟨g,k*3+2,none⟩=false:=by
 have hl:=h.lay;have hk:k<l.length:=(List.getElem?_eq_some_iff.1 hc).1;obtain⟨k0,k1,k2⟩:=qP4 l k c hc
 have h':w.ownsRow B e 3 (.slice (some ⟨g,0,none⟩) n cap) n (rowV l):=by unfold OwnC at h;rw[←hl.1] at h;exact h
 have hn:=hl.1
 have hcell:∀j,j<n*3→w.cell? ⟨g,j,none⟩=(rowV l)[j]?:=fun j hj=>World.ownsRow.cellAt h' j hj
 exact⟨(hcell _ (by omega)).trans k0,(hcell _ (by omega)).trans k1,(hcell _ (by omega)).trans k2,World.ownsRow.frozenAt h' _,World.ownsRow.frozenAt h' _,World.ownsRow.frozenAt h' _⟩
theorem qW9 {w:World} {B n cap g:Nat} {e:TypeId} {l:List Cl} {k:Nat} {c:Cl} (h:OwnC w B e (.slice (some ⟨g,0,none⟩) n cap) l) (hk:l[k]?=some c) (s:ByteArray) :
    OwnC (w.setCell ⟨g,k*3+2,none⟩ (.string s)) B e (.slice (some ⟨g,0,none⟩) n cap) (l.set k (c.1,c.2.1,s)):=by
 have hl:=h.lay
 have h':w.ownsRow B e 3 (.slice (some ⟨g,0,none⟩) n cap) n (rowV l):=by unfold OwnC at h;rw[←hl.1] at h;exact h
 unfold OwnC;rw[List.length_set,←hl.1,←qOs l k c s hk];exact(World.ownsRow.stored h' _ _).1
theorem qWh {w:World} {B n cap g:Nat} {e:TypeId} {l:List Cl} {k:Nat} (h:OwnC w B e (.slice (some ⟨g,0,none⟩) n cap) l) (hk:k<l.length) (c:Cl) :
    OwnC (((w.setCell ⟨g,k*3,none⟩ (.bool c.1)).setCell ⟨g,k*3+1,none⟩ (.int .i64 c.2.1)).setCell ⟨g,k*3+2,none⟩ (.string c.2.2)) B e (.slice (some ⟨g,0,none⟩) n cap) (l.set k c):=by
 have hl:=h.lay
 have h':w.ownsRow B e 3 (.slice (some ⟨g,0,none⟩) n cap) n (rowV l):=by unfold OwnC at h;rw[←hl.1] at h;exact h
 unfold OwnC;rw[List.length_set,←hl.1,←qQr l k c hk];exact(World.ownsRow.stored (World.ownsRow.stored (World.ownsRow.stored h' _ _).1 _ _).1 _ _).1
theorem qRw {w:World} {B n cap:Nat} {e:TypeId} {A:Option Addr} {l:List Cl} (h:OwnC w B e (.slice A n cap) l) (hl:0<l.length):∃g,A=some ⟨g,0,none⟩:=by
 rcases h.2 with⟨_,h0⟩|⟨g,cap',cur,hv,_⟩
 · omega
 · injection hv with h1;exact⟨g,h1⟩
end Go.Ms
namespace Go.Proofs.YtikpmmipopmjaaaGreatDoor
open Go.RowKit Go.Ms Go.Lib Go.Rel
set_option maxRecDepth 100000 in
set_option maxHeartbeats 1000000 in
theorem qQb (w:World) (A:Option Addr) (n cap:Nat) (l:List Cl) (hn:n≤cap) (hcap:cap≤maxLen) (hl:l.length=n) (hA:Ext w w.heap.size A (rowV l)) :
    Calls Tryz.prog 12 #[.slice A n cap] w fun e w'=> ∃A' c',e=.returned (.slice A' (min n 40) c')∧OwnC w' w.heap.size 57 (.slice A' (min n 40) c') ((l.take 40).map qJv)∧Below w.heap.size w w':=by
 obtain⟨N,hN⟩:∃N:Nat,N=min n 40:=⟨_,rfl⟩;rw[←hN];have hc:=qJ1 w A N cap (l.take 40) (by omega) (by rw[List.length_take];omega) (by rw[show rowV (l.take 40)=(rowV l).take (40*3) from qN1 l 40];exact hA.take _)
 have hmin:min (n:Int) 40=(N:Int):=by omega
 have hN1:(N:Int)≤cap:=by omega
 have hN2:(0:Int)≤(N:Int):=by omega
 have hNc:N≤cap:=by omega
 have hNl:(l.take 40).length=N:=by rw[List.length_take];omega
 have hN40:N≤40:=by omega
 generalize hls:l.take 40=r at hc hNl ⊢
 unfold maxLen at hcap
 have HC:=Lib.hid hc;have HNL:=Lib.hid hNl
 clear hc hA hls hl hN hNl
 go_enter Tryz.func12,Tryz.ntmps12
 go_wp2_with fail
 refine HC.out.mono ?_;rintro en w1 ⟨v,rfl,ho1,b1⟩;obtain⟨A1,c1,e1,_⟩:=qAg ho1;rw[HNL.out] at e1;subst e1
 have O1:=Lib.hid ho1;have B1:=Lib.hid b1
 clear ho1 b1 hmin hN1 hN2 hNc
 go_wp2_with fail
 go_loopw [3] (fun i wr=> ∃k:Nat,k≤N∧i=.int .i64 k∧OwnC wr w.heap.size 57 (.slice A1 N c1) ((r.take k).map qJv++r.drop k)∧Below w.heap.size w wr) (fun i _=>N-(RowKit.intOf i).toNat)
 case atStart=>exact⟨0,by omega,rfl,by simpa using O1.out,B1.out⟩
 case round=>
  obtain⟨k,hk,rfl,ho,hb⟩:=hrel
  by_cases hlk:k<N
  · have hki:(k:Int)<N:=by omega
    obtain⟨c,hc⟩:∃c,r[k]?=some c:=⟨_,List.getElem?_eq_getElem (by rw[HNL.out];omega)⟩;have hca:=zBi qJv hc;have hlen:k<((r.take k).map qJv++r.drop k).length:=(List.getElem?_eq_some_iff.1 hca).1;obtain⟨g,rfl⟩:=qRw ho (by omega);obtain⟨hgb,hgl⟩:=World.ownsRow.lt ho g rfl;have hstep:=qX8 qJv hc
    have hput:=fun (W:World) (hW:OwnC W w.heap.size 57 (.slice (some ⟨g,0,none⟩) N c1) ((r.take k).map qJv++r.drop k))=>qW9 hW hca (c.2.2.extract 0 (min c.2.2.size 1100))
    rw[show((c.1,c.2.1,c.2.2.extract 0 (min c.2.2.size 1100)):Cl)=qJv c from rfl,hstep] at hput
    have hcl:=fun (W:World) (hW:OwnC W w.heap.size 57 (.slice (some ⟨g,0,none⟩) N c1) ((r.take k).map qJv++r.drop k))=>qY7 hW hca
    obtain⟨u0,m0,s0⟩:=c;obtain⟨a,ha⟩:∃a:Nat,a=min s0.size 1100:=⟨_,rfl⟩
    have ma:min (s0.size:Int) 1100=(a:Int):=by omega
    have la:(a:Int)≤s0.size:=by omega
    have la0:(0:Int)≤(a:Int):=by omega
    have la1:a≤s0.size:=by omega
    simp only[←ha] at hput
    have HO:=Lib.hid ho;have HB:=Lib.hid hb;have HPUT:=Lib.hid hput;have HCL:=Lib.hid hcl;have HMA:=Lib.hid ma;have HLA:=Lib.hid la;have HLA0:=Lib.hid la0;have HLA1:=Lib.hid la1
    clear ho hb hput hcl hca hstep hc ha ma la la0 la1 hlen
    go_wp2_with fail
    refine qDy (l:=[_,_,_,_,_,_,_,_,_,_,_,_,_,_,_,_,_]) (o:=_) (t:=[]) [isV (.slice (some ⟨g,0,none⟩) N c1),isV (.int .i64 (k:Nat)),isV (.slice (some ⟨g,0,none⟩) N c1),isV (.int .i64 (k:Nat)),isV (.pointer (some ⟨g,k*3,none⟩)),isV (.pointer (some ⟨g,k*3+2,none⟩)),isV (.string s0),isV (.slice (some ⟨g,0,none⟩) N c1),isV (.int .i64 (k:Nat)),isV (.pointer (some ⟨g,k*3,none⟩)),isV (.pointer (some ⟨g,k*3+2,none⟩)),isV (.string s0),isV (.int .i64 s0.size),isV (.int .i64 (a:Nat)),isV (.string (s0.extract 0 a)),isV (.pointer (some ⟨g,k*3,none⟩)),isV (.pointer (some ⟨g,k*3+2,none⟩))] (by kernel_rfl) (by kernel_rfl) (by kernel_rfl) (by kernel_rfl) (by kernel_rfl) (by kernel_rfl) (by kernel_rfl) ?_ ?_
    ·
      refine rb ?_;refine rb ?_;refine rb ?_;refine rb ?_;refine rf (fun ev wo E=>?_) ?_
      · have e18:ev (.tmp 18)=.slice (some ⟨g,0,none⟩) N c1:=E.e 0;have e19:ev (.tmp 19)=.int .i64 (k:Nat):=E.e 1;have h1:=hki;have h2:=hlk;go_simp;exact rv
      refine rf (fun ev wo E=>?_) ?_
      · have e20:ev (.tmp 20)=.pointer (some ⟨g,k*3,none⟩):=E.e 0;go_simp;exact rv
      refine rf (fun ev wo E=>?_) ?_
      · have e21:ev (.tmp 21)=.pointer (some ⟨g,k*3+2,none⟩):=E.e 0;obtain⟨-,-,hx,-,-,-⟩:=HCL.out _ (own_below HO.out E.bel);go_simp;exact rv
      refine rb ?_;refine rb ?_;refine rf (fun ev wo E=>?_) ?_
      · have e23:ev (.tmp 23)=.slice (some ⟨g,0,none⟩) N c1:=E.e 0;have e24:ev (.tmp 24)=.int .i64 (k:Nat):=E.e 1;have h1:=hki;have h2:=hlk;go_simp;exact rv
      refine rf (fun ev wo E=>?_) ?_
      · have e25:ev (.tmp 25)=.pointer (some ⟨g,k*3,none⟩):=E.e 0;go_simp;exact rv
      refine rf (fun ev wo E=>?_) ?_
      · have e26:ev (.tmp 26)=.pointer (some ⟨g,k*3+2,none⟩):=E.e 0;obtain⟨-,-,hx,-,-,-⟩:=HCL.out _ (own_below HO.out E.bel);go_simp;exact rv
      refine rf (fun ev wo E=>?_) ?_
      · have e27:ev (.tmp 27)=.string s0:=E.e 0;go_simp;exact rv
      refine rf (fun ev wo E=>?_) ?_
      · have e28:ev (.tmp 28)=.int .i64 s0.size:=E.e 0;have ec:=E.const;have h0:=HMA.out;go_simp;exact rv
      refine rf (fun ev wo E=>?_) ?_
      · have e22:ev (.tmp 22)=.string s0:=E.e 0;have e29:ev (.tmp 29)=.int .i64 (a:Nat):=E.e 1;have h0:=HLA.out;have h1:=HLA0.out;have h2:=HLA1.out;go_simp;exact rv
      refine rf (fun ev wo E=>?_) ?_
      · have e16:ev (.tmp 16)=.slice (some ⟨g,0,none⟩) N c1:=E.e 0;have e17:ev (.tmp 17)=.int .i64 (k:Nat):=E.e 1;have h1:=hki;have h2:=hlk;go_simp;exact rv
      refine rf (fun ev wo E=>?_) ?_
      · have e31:ev (.tmp 31)=.pointer (some ⟨g,k*3,none⟩):=E.e 0;go_simp;exact rv
      trivial
    · intro wz bz
      (iterate 17 rintro _ rfl)
      have HZ:=Lib.hid (own_below HO.out bz);have BZ:=Lib.hid (HB.out.trans (bz.mono HB.out.size))
      have j2:=(HCL.out _ HZ.out).2.2.1;have f2:=(HCL.out _ HZ.out).2.2.2.2.2;have hfin:=HPUT.out _ HZ.out;have hbf:=BZ.out.setCell (p:=⟨g,k*3+2,none⟩) hgb (.string (s0.extract 0 a))
      have HFIN:=Lib.hid hfin;have HBF:=Lib.hid hbf
      clear bz hfin hbf;simp only[qAq,qGp];unfold Oper.wp;go_simp
      go_wp2_with fail
      go_roundw
      case rel=>exact⟨k+1,by omega,by go_num,HFIN.out,HBF.out⟩
      case measure=>simp[RowKit.intOf];omega
  · have hki:¬(k:Int)<N:=by omega
    obtain rfl:k=N:=by omega
    have hfull:(r.take k).map qJv++r.drop k=r.map qJv:=by
     rw[List.take_of_length_le (by rw[HNL.out];exact Nat.le_refl _),List.drop_eq_nil_of_le (by rw[HNL.out];exact Nat.le_refl _),List.append_nil]
    rw[hfull] at ho
    have HO:=Lib.hid ho;have HB:=Lib.hid hb
    clear ho hb hfull
    go_wp2_with fail
    go_ret
    exact⟨_,_,rfl,HO.out,HB.out⟩
set_option maxRecDepth 100000 in
set_option maxHeartbeats 4000000 in
theorem qJy (w:World) (B:Nat) (v:Value) (l:List Cl) (ho:OwnC w B 57 v l) (hn:l.length≤100000) (hB:B≤w.heap.size) :
    Calls Tryz.prog 20 #[v] w fun e w'=>e=.returned (.tuple #[])∧Below B w w':=by
 obtain⟨A,c,rfl,-,-⟩:=qAg ho;obtain⟨N,hN⟩:∃N,l.length=N:=⟨_,rfl⟩;rw[hN] at ho hn ⊢
 have O0:=Lib.hid ho;have HN:=Lib.hid hN
 clear ho hN
 go_enter Tryz.func20,Tryz.ntmps20
 go_wp2_with fail
 go_loopw [2] (fun i wr=> ∃k:Nat,k≤N∧i=.int .i64 k∧(∃l':List Cl,l'.length=N∧OwnC wr B 57 (.slice A N c) l')∧Below B w wr) (fun i _=>N-(RowKit.intOf i).toNat)
 case atStart=>exact⟨0,by omega,rfl,⟨l,HN.out,O0.out⟩,⟨rfl,rfl,rfl,Nat.le_refl _,fun _ _=>rfl⟩⟩
 case round=>
  obtain⟨k,hk,rfl,⟨l',hl',ho⟩,hb⟩:=hrel
  by_cases hlk:k<N
  · have hki:(k:Int)<N:=by omega
    obtain⟨x,hx⟩:∃x,l'[k]?=some x:=⟨_,List.getElem?_eq_getElem (by omega)⟩;obtain⟨g,rfl⟩:=qRw ho (by omega);obtain⟨hgb,hgl⟩:=World.ownsRow.lt ho g rfl;obtain⟨j0,j1,j2,f0,f1,f2⟩:=qY7 ho hx;have hput:=qWh ho (by omega:k<l'.length) (false, -9,⟨#[115,112,111,105,108,116]⟩);have hbf:=((hb.setCell (p:=⟨g,k*3,none⟩) hgb (.bool false)).setCell (p:=⟨g,k*3+1,none⟩) hgb (.int .i64 (-9))).setCell (p:=⟨g,k*3+2,none⟩) hgb (.string ⟨#[115,112,111,105,108,116]⟩)
    have HPUT:=Lib.hid hput;have HBF:=Lib.hid hbf;have HL:=Lib.hid (show(l'.set k (false, -9,⟨#[115,112,111,105,108,116]⟩)).length=N by rw[List.length_set,hl'])
    clear hput hbf ho hb hl' hx
    go_wp2_with fail
    go_roundw
    case rel=>exact⟨k+1,by omega,by go_num,⟨_,HL.out,HPUT.out⟩,HBF.out⟩
    case measure=>simp[RowKit.intOf];omega
  · have hki:¬(k:Int)<N:=by omega
    have HB:=Lib.hid hb;clear hb
    go_wp2_with fail
    go_end0
    exact⟨rfl,HB.out⟩
end Go.Proofs.YtikpmmipopmjaaaGreatDoor
set_option linter.unusedSimpArgs false
namespace Go.Proofs.YtikpmmipopmjaaaGreatDoor
open Go.RowKit Go.Ms Go.Lib
set_option maxRecDepth 100000 in
set_option maxHeartbeats 4000000 in
theorem qUf (c d:Co) (w:World):Calls Tryz.prog 80 #[coA c,coA d] w fun e w'=>e=.returned (.bool (qBj c d))∧Below w.heap.size w w':=by
 obtain⟨i0,s0,⟨k0,u0⟩,n0,m0,t0⟩:=c;obtain⟨i1,s1,⟨k1,u1⟩,n1,m1,t1⟩:=d;have bb:=((Below.refl _ w).alloc (Nat.le_refl _) (.cells #[.int .i64 i0,.string s0,.int .i64 k0,.bool u0,.bool n0,.int .i64 m0,.string t0] 59)).alloc (by rw[World.size_alloc];omega) (.cells #[.int .i64 i1,.string s1,.int .i64 k1,.bool u1,.bool n1,.int .i64 m1,.string t1] 59);have BB:=Lib.hid bb;clear bb
 show Calls Tryz.prog 80 #[.agg #[.int .i64 i0,.string s0,.int .i64 k0,.bool u0,.bool n0,.int .i64 m0,.string t0],.agg #[.int .i64 i1,.string s1,.int .i64 k1,.bool u1,.bool n1,.int .i64 m1,.string t1]] w _
 have q:∀S T:ByteArray,S.toList=T.toList↔S=T:=fun S T=>by
  rw[Lib.toList_data,Lib.toList_data];exact⟨fun h=>by rw[qB8 (s:=S) rfl,qB8 (s:=T) rfl,h],fun h=>by rw[h]⟩
 have Q:=Lib.hid q;clear q
 go_enter Tryz.func80,Tryz.ntmps80
 go_wp2_with fail
 all_goals
  go_ret
  have q:=Q.out;refine⟨?_,by first|exact BB.out|(have h:=BB.out;simp_all)⟩;clear BB Q
  congr 2
  unfold qBj
  first
    |(simp_all;done)
    |(by_cases h3:k1=3 <;> by_cases h2:2=k1 <;> simp_all)
end Go.Proofs.YtikpmmipopmjaaaGreatDoor
set_option linter.unusedSimpArgs false
namespace Go.Proofs.YtikpmmipopmjaaaGreatDoor
open Go.RowKit Go.Ms Go.Lib
set_option maxRecDepth 100000 in
set_option maxHeartbeats 4000000 in
theorem qFv (A B:Option Addr) (n cap m capm:Nat) (cs:List Co) (w:World) (hn:n=cs.length) (hn':n≤100000) (h0:0<n) (hA:Lay w w.heap.size A (colV cs)) :
    Calls Tryz.prog 45 #[.agg #[.slice A n cap,.slice B m capm]] w fun e w'=>e=.returned (.int .i64 (qA7 cs))∧Below w.heap.size w w':=by
 obtain⟨⟨i1,s1,⟨k1,u1⟩,n1,m1,t1⟩,hc⟩:∃c,cs[n-1]?=some c:=⟨_,List.getElem?_eq_getElem (by omega)⟩
 have hl:qA7 cs=i1:=by
  unfold qA7;rw[List.getLast?_eq_getElem?,←hn,hc];rfl
 obtain⟨g,o,rfl,hg⟩:=hA.colAt hc;have bX:=(Below.refl w.heap.size w).alloc (Nat.le_refl _) (.cells #[.slice (some ⟨g,o,none⟩) n cap,.slice B m capm] 25);have hx:=(hg.below bX).c0;have hw:IntKind.i64.wrap ((n:Int)-1)=(n:Int)-1:=IntWalk.i64_in _ (by omega)
 have i1':(0:Int)≤(n:Int)-1:=by omega
 have i2':(n:Int)-1<n:=by omega
 have i3':(1:Int)≤n:=by omega
 have BX:=Lib.hid bX;have HL:=Lib.hid hl
 clear bX hl hc hg hA hn
 go_enter Tryz.func45,Tryz.ntmps45
 go_wp2_with fail
 go_ret
 exact⟨congrArg (fun i=>Ending.returned (.int .i64 i)) HL.out.symm,BX.out⟩
end Go.Proofs.YtikpmmipopmjaaaGreatDoor
set_option linter.unusedSimpArgs false
namespace Go.Proofs.YtikpmmipopmjaaaGreatDoor
open Go.RowKit Go.Ms Go.Lib
set_option maxRecDepth 100000 in
set_option maxHeartbeats 2000000 in
theorem qL8 (w:World) (A B:Option Addr) (n cap m capm:Nat) (cs:List Co) (v:Int) (hn':n≤maxLen) (hn:n=cs.length) (hA:Lay w w.heap.size A (colV cs)) :
    Calls Tryz.prog 74 #[.agg #[.slice A n cap,.slice B m capm],.int .i64 v] w fun e w'=>e=.returned (.tuple #[.int .i64 (qD4 (fun c=>decide (c.1=v)) cs).1,.bool (qD4 (fun c=>decide (c.1=v)) cs).2])∧Below w.heap.size w w':=by
 unfold maxLen at hn';obtain⟨X,hX⟩:∃X,X=w.alloc (.cells #[.slice A n cap,.slice B m capm] 25):=⟨_,rfl⟩
 have bX:Below w.heap.size w X:=by rw[hX];exact(Below.refl _ w).alloc (Nat.le_refl _) _
 have qX:X.heap[w.heap.size]?=some (.cells #[.slice A n cap,.slice B m capm] 25 (0,0)):=by rw[hX];exact qAf _ _
 have lA:Lay X X.heap.size A (colV cs):=(hA.below bX).more bX.size
 have HA:=Lib.hid lA;have HN:=Lib.hid hn;have BX:=Lib.hid bX;have QX:=Lib.hid qX
 clear hA hn bX qX lA
 go_enter Tryz.func74,Tryz.ntmps74
 go_wp2_with fail
 rw[←hX];clear hX
 go_loopw [6] (fun id wr=> ∃k:Nat,k≤n∧id=.int .i64 k∧Below X.heap.size X wr∧∀(j:Nat) x,j<k→cs[j]?=some x→(fun c=>decide (c.1=v)) x=false) (fun id _=>n-(RowKit.intOf id).toNat)
 case atStart=>exact⟨0,by omega,rfl,Below.refl _ _,fun j c h=>absurd h (by omega)⟩
 case round=>
  obtain⟨k,hk,rfl,hb,hp⟩:=hrel;have HP:=Lib.hid hp;have q0:=cell_of_block (i:=0) (qAb QX.out hb) rfl;clear hp
  by_cases hlk:k<n
  · have hki:(k:Int)<n:=by omega
    obtain⟨x,hx⟩:∃x,cs[k]?=some x:=⟨_,List.getElem?_eq_getElem (by rw[←HN.out];omega)⟩;obtain⟨i0,s0,⟨k0,u0⟩,n0,m0,t0⟩:=x;obtain⟨g,o,rfl,hg,h1,h2,h3,h4,h5,h6,h7⟩:=HA.out.co hx;have g1:=(hb.cell hg).trans h1;have g2:=(hb.cell hg).trans h2;simp only at g1 g2
    have HX:=Lib.hid hx;have HB:=Lib.hid hb
    clear hx hb h1 h2 h3 h4 h5 h6 h7;have _:=True.intro
    by_cases hpx:i0=v
    · have HR:=Lib.hid (qV3 (p:=(fun c=>decide (c.1=v))) HX.out HP.out (decide_eq_true hpx))
      have e1:(i0==v)=true:=by simpa using hpx
      clear hpx
      go_wp2_with fail
      all_goals (try go_quiet (fail))
      all_goals (go_wp2_with fail)
      all_goals go_ret2
      all_goals exact⟨by rw[HR.out];rfl,BX.out.trans ((qAc HB.out 0).mono BX.out.size)⟩
    · have HPX:=Lib.hid (decide_eq_false hpx)
      have e1:(i0==v)=false:=by simpa using hpx
      clear hpx
      go_wp2_with fail
      all_goals (try go_quiet (fail))
      all_goals (go_wp2_with fail)
      go_roundw
      case rel=>
       refine⟨k+1,by omega,by go_num,qAc HB.out 0,fun j y hj hy=>?_⟩
       by_cases e:j=k
       · subst e;rw[HX.out] at hy
         cases hy
         exact HPX.out
       · exact HP.out j y (by omega) hy
      case measure=>simp[RowKit.intOf];omega
  · have hki:¬(k:Int)<n:=by omega
    have HR:=Lib.hid (qP0 (p:=(fun c=>decide (c.1=v))) (l:=cs) (fun j x hx=>HP.out j x (by have:=(List.getElem?_eq_some_iff.1 hx).1;have:=HN.out;omega) hx));have HB:=Lib.hid hb;clear hb
    go_wp2_with fail
    go_ret2
    exact⟨by rw[HR.out];rfl,BX.out.trans (HB.out.mono BX.out.size)⟩
end Go.Proofs.YtikpmmipopmjaaaGreatDoor
