/- Registry's laws: two rows of versions, the same or not. Registry's laws: spoil, walked. Registry's laws: alike, walked. -/
import Derived.Test.YtainiaighnjpfaaGreatDoorZQaq
set_option maxHeartbeats 4000000
set_option maxRecDepth 100000
set_option linter.unusedVariables false
set_option linter.unusedSimpArgs false
namespace Go.Proofs.YtainiaighnjpfaaGreatDoor
open Go.RowKit Go.Ms Go.Lib Go.Rel
theorem qIk (w:World) (A B:Option Addr) (n cA m cB:Nat) (rs qs:List SRef) (L M:List Sc) (hA:qA0 w w.heap.size A rs L) (hB:qA0 w w.heap.size B qs M) (hn:n=L.length) (hm:m=M.length) (hn1:n≤100000) (hm1:m≤100000) (b:Bool) (hb:b=true↔L=M) :
    Calls Tryz.prog 65 #[.slice A n cA,.slice B m cB] w fun e w'=>e=.returned (.bool b)∧Below w.heap.size w w':=by
 by_cases hnm:n=m
 · subst hnm;have HA:=hh_ hA;have HBB:=hh_ hB;have HN:=hh_ hn;have HM:=hh_ hm;have HB:=hh_ hb;clear hA hB hn hm hb;go_enter Tryz.func65,Tryz.ntmps65;go_wp2_with fail
   go_loopw [5] (fun i wr=> ∃k:Nat,k≤n∧i=.int .i64 k∧L.take k=M.take k∧Below w.heap.size w wr) (fun i _=>n-(RowKit.intOf i).toNat)
   case atStart=>exact⟨0,by omega,rfl,rfl,Below.refl _ _⟩
   case round=>
    obtain⟨k,hk,rfl,hpre,hb⟩:=hrel;by_cases hlk:k<n
    · have hki:(k:Int)<n:=by omega
      obtain⟨s,hs⟩:∃s,L[k]?=some s:=⟨_,List.getElem?_eq_getElem (by rw[←HN.out];exact hlk)⟩;obtain⟨t,ht⟩:∃t,M[k]?=some t:=⟨_,List.getElem?_eq_getElem (by rw[←HM.out];exact hlk)⟩;obtain⟨r,hr⟩:∃r,rs[k]?=some r:=⟨_,List.getElem?_eq_getElem (by rw[HA.out.len,←HN.out];exact hlk)⟩;obtain⟨q,hq⟩:∃q,qs[k]?=some q:=⟨_,List.getElem?_eq_getElem (by rw[HBB.out.len,←HM.out];exact hlk)⟩;have HTS:=hh_ (HA.out.to hb);have HTQ:=hh_ (HBB.out.to hb);obtain⟨gA,oA,rfl,hta⟩:=HTS.out.at_ hr;obtain⟨gB,oB,rfl,htb⟩:=HTQ.out.at_ hq;have HTA:=hh_ hta;have HTB:=hh_ htb;have HS:=hh_ hs;have HT:=hh_ ht;have HR:=hh_ hr;have HQ:=hh_ hq;have HBL:=hh_ hb;have HPRE:=hh_ hpre;clear hta htb hs ht hr hq hb hpre;go_upto_region 6 with fail
      refine qDc (l:=[_,_,_,_,_,_,_,_]) (o:=_) (t:=[_]) [isV (.slice (some ⟨gA,oA,none⟩) n cA),isV (.int .i64 (k:Nat)),isV (.pointer (some ⟨gA,oA+k*2,none⟩)),isV (.agg #[.slice r.a r.n r.c,.slice r.b r.m r.d]),isV (.slice (some ⟨gB,oB,none⟩) n cB),isV (.int .i64 (k:Nat)),isV (.pointer (some ⟨gB,oB+k*2,none⟩)),isV (.agg #[.slice q.a q.n q.c,.slice q.b q.m q.d])] (by kernel_rfl) (by kernel_rfl) (by kernel_rfl) (by kernel_rfl) (by kernel_rfl) (by kernel_rfl) (by kernel_rfl) ?_ ?_
      ·
        refine rb ?_;refine rb ?_;refine rf (fun ev wo E=>?_) ?_
        · have e17:ev (.tmp 17)=.slice (some ⟨gA,oA,none⟩) n cA:=E.e 0;have e18:ev (.tmp 18)=.int .i64 (k:Nat):=E.e 1;have h1:=hki;have h2:=hlk;go_simp;exact rv
        refine rf (fun ev wo E=>?_) ?_
        · have e19:ev (.tmp 19)=.pointer (some ⟨gA,oA+k*2,none⟩):=E.e 0;have c0:=(HTA.out.below E.bel).c0;have c1:=(HTA.out.below E.bel).c1;go_simp;exact rv
        refine rb ?_;refine rb ?_;refine rf (fun ev wo E=>?_) ?_
        · have e21:ev (.tmp 21)=.slice (some ⟨gB,oB,none⟩) n cB:=E.e 0;have e22:ev (.tmp 22)=.int .i64 (k:Nat):=E.e 1;have h1:=hki;have h2:=hlk;go_simp;exact rv
        refine rf (fun ev wo E=>?_) ?_
        · have e23:ev (.tmp 23)=.pointer (some ⟨gB,oB+k*2,none⟩):=E.e 0;have c0:=(HTB.out.below E.bel).c0;have c1:=(HTB.out.below E.bel).c1;go_simp;exact rv
        trivial
      · intro wz bz
        (iterate 8 rintro _ rfl)
        have htk:L.take (k+1)=L.take k++[s]:=by rw[List.take_add_one,HS.out];rfl
        have mtk:M.take (k+1)=M.take k++[t]:=by rw[List.take_add_one,HT.out];rfl
        have hsz:=HBL.out.size;have BZ:=hh_ (HBL.out.trans (bz.mono hsz));have hl1:=HTS.out.to bz;have hl2:=HTQ.out.to bz;by_cases hst:s=t
        · have hsm:=qEj r q s t true ⟨fun _=>hst,fun _=>rfl⟩ wz (hl1.each k r s HR.out HS.out) (hl2.each k q t HQ.out HT.out);have HSM:=hh_ hsm;have HNX:=hh_ (show L.take (k+1)=M.take (k+1) by rw[htk,mtk,HPRE.out,hst]);clear hsm hst htk mtk hl1 hl2 bz hsz;simp only[qAq,qGt];unfold Oper.wp;go_simp;refine HSM.out.mono ?_;rintro en w9 ⟨rfl,b9⟩;have B9:=hh_ (BZ.out.trans (b9.mono BZ.out.size));clear b9;go_wp2_with fail
          go_roundw
          case rel=>exact⟨k+1,by omega,by go_num,HNX.out,B9.out⟩
          case measure=>simp[RowKit.intOf];omega
        · have hsm:=qEj r q s t false ⟨fun h=>(by cases h),fun h=>absurd h hst⟩ wz (hl1.each k r s HR.out HS.out) (hl2.each k q t HQ.out HT.out)
          have hbf:false=b:=by
           cases hbb:b
           · rfl
           · have e:=HB.out.1 hbb;have h1:=HS.out;rw[e,HT.out] at h1;exact absurd (Option.some.inj h1).symm hst
          have HSM:=hh_ hsm;have HBF:=hh_ hbf;clear hsm hst htk mtk hl1 hl2 bz hsz hbf;simp only[qAq,qGt];unfold Oper.wp;go_simp;refine HSM.out.mono ?_;rintro en w9 ⟨rfl,b9⟩;have B9:=hh_ (BZ.out.trans (b9.mono BZ.out.size));clear b9;go_wp2_with fail
          go_ret;have e:=HBF.out;subst e;exact⟨rfl,B9.out⟩
    · have hki:¬(k:Int)<n:=by omega
      obtain rfl:k=n:=by omega
      have e:L=M:=by rw[List.take_of_length_le (by rw[←HN.out];exact Nat.le_refl _),List.take_of_length_le (by rw[←HM.out];exact Nat.le_refl _)] at hpre;exact hpre
      have HBT:=hh_ (HB.out.2 e);have HBL:=hh_ hb;clear e hpre hb;go_wp2_with fail
      go_ret;have e:=HBT.out;subst e;exact⟨rfl,HBL.out⟩
 · have hbf:b=false:=by
     cases b
     · rfl
     · exact absurd (by rw[hn,hm,hb.1 rfl]) hnm
   subst hbf;have hd:((n:Int)==m)=false:=by rw[beq_eq_false_iff_ne];omega
   clear hA hB hn hm hb;go_enter Tryz.func65,Tryz.ntmps65;go_wp2_with fail
   go_ret;exact⟨rfl,Below.refl _ _⟩
open Go.Maps Go.WideMaps
def qYm (w:World) (r:SRef) (e:Ending) (w':World):Prop:=e=.returned (.tuple #[])∧∃wm,w.grownBy wm (Value.slice r.a r.n r.c).ownBlock∧wm.grownBy w' (Value.slice r.b r.m r.d).ownBlock
def spCo:Co:=(-9,⟨#[115,112,111,105,108,116]⟩,(0,false),(false,0,⟨#[]⟩))
theorem qGf (w:World) (B1 B2:Nat) (r:SRef) (cs:List Co) (ks:List Int) (h1:qBw w B1 45 (.slice r.a r.n r.c) cs) (h2:OwnI w B2 3 (.slice r.b r.m r.d) ks) (hn:r.n≤100000) (hm:r.m≤100000) :
    Calls Tryz.prog 28 #[.agg #[.slice r.a r.n r.c,.slice r.b r.m r.d]] w (qYm w r):=by
 obtain⟨a,n,c,b,m,d⟩:=r;simp only at h1 h2 hn hm ⊢;have e1:=h1.lay.1;have e2:=h2.lay.1;obtain⟨X,hX⟩:∃X,X=w.alloc (.cells #[.slice a n c,.slice b m d] 33):=⟨_,rfl⟩;have bX:Below w.heap.size w X:=by rw[hX];exact(Below.refl _ w).alloc le_ _
 have qX:X.heap[w.heap.size]?=some (.cells #[.slice a n c,.slice b m d] 33 (0,0)):=by rw[hX];exact qAd _ _
 have HC:=hh_ (show qBw X B1 45 (.slice a n c) cs from own_below h1 bX);have HK:=hh_ (show OwnI X B2 3 (.slice b m d) ks from own_below h2 bX);have QX:=hh_ qX;have GX:=hh_ (qBi bX (Value.slice a n c).ownBlock);have E1:=hh_ e1;have E2:=hh_ e2;have HZ:=hh_ (fun (v:Value) (k:Nat) (B:Nat) (T:TypeId) (s q:Nat) (xs:List Value) (ho:w.ownsRow B T s v q xs) (he:v.ownBlock=some k)=>(World.ownsRow.lt ho k he).2);have HL1:=hh_ (show ∀k,(Value.slice a n c).ownBlock=some k→k<w.heap.size from fun k he=>(World.ownsRow.lt h1 k he).2);have HL2:=hh_ (show ∀k,(Value.slice b m d).ownBlock=some k→k<w.heap.size from fun k he=>(World.ownsRow.lt h2 k he).2);clear bX qX h1 h2 e1 e2 HZ;go_enter Tryz.func28,Tryz.ntmps28;go_wp2_with fail
 rw[←hX];generalize w.heap.size=bs at QX HL1 HL2 ⊢;clear hX;go_loopw [2] (fun s2 wr=> ∃(j:Nat) (l:List Co),j≤n∧s2=.int .i64 j∧l.length=n∧qBw wr B1 45 (.slice a n c) l∧OwnI wr B2 3 (.slice b m d) ks∧wr.heap[bs]?=some (.cells #[.slice a n c,.slice b m d] 33 (0,0))∧w.grownBy wr (Value.slice a n c).ownBlock) (fun s2 _=>n-(RowKit.intOf s2).toNat)
 case atStart=>exact⟨0,cs,Nat.zero_le _,rfl,E1.out.symm,HC.out,HK.out,QX.out,GX.out⟩
 case round=>
  obtain⟨j,l,hj,rfl,hl,hco,hki,hqb,hgr⟩:=hrel;have z0:=cb_ 0 (v:=.slice a n c) hqb rfl;by_cases hjn:j<n
  · have tj:(j:Int)<n:=by omega
    have tj0:(0:Int)≤j:=by omega
    have hjl:j<l.length:=by omega
    obtain⟨gc,cs',ea,hlo,hq,hz⟩:=qTb hco (by omega);subst ea;obtain⟨x,hx⟩:∃x,l[j]?=some x:=⟨_,List.getElem?_eq_getElem hjl⟩;obtain⟨j0,j1,j2,j3,j4,j5,j6,f0,f1,f2,f3,f4,f5,f6⟩:=qTy hco hx;have hput:=qS4 hco hjl spCo;have hse:=qDe.seven wr gc (j*7) (.int .i64 spCo.1) (.string spCo.2.1) (.int .i64 spCo.2.2.1.1) (.bool spCo.2.2.1.2) (.bool spCo.2.2.2.1) (.int .i64 spCo.2.2.2.2.1) (.string spCo.2.2.2.2.2);have he:EffT 45 wr _:=⟨some gc,hse.g,fun g' e=>by cases e;exact⟨_,_,hq⟩⟩;have hki2:OwnI _ B2 3 (.slice b m d) ks:=EffT.row hki he (by decide);have hqb2:=he.keep hqb (by decide);have FIN:=hh_ (And.intro hput (And.intro hki2 (And.intro hqb2 (And.intro (qB1 hgr hse.g) (show(l.set j spCo).length=n by rw[List.length_set];exact hl)))));have HJN:=hh_ hjn;clear hput hse he hki2 hqb2 hco hki hqb hgr hq hz hx hlo hl;go_wp2_with fail
    go_roundw
    case rel=>exact⟨j+1,_,HJN.out,by go_num,FIN.out.2.2.2.2,FIN.out.1,FIN.out.2.1,FIN.out.2.2.1,FIN.out.2.2.2.1⟩
    case measure=>simp[RowKit.intOf];have:=HJN.out;omega
  · have tj:¬((j:Int)<n):=by omega
    have HK2:=hh_ hki;have Q2:=hh_ hqb;have G2:=hh_ hgr;clear hki hqb hgr hco hl HC HK QX GX;obtain⟨wm,hwm⟩:∃wm,wm=wr:=⟨_,rfl⟩;have HWM:=hh_ hwm;rw[←hwm] at G2;clear hwm;go_wp2_with fail
    go_loopw [3] (fun s3 wr=> ∃(j:Nat) (l:List Int),j≤m∧s3=.int .i64 j∧l.length=m∧OwnI wr B2 3 (.slice b m d) l∧wr.heap[bs]?=some (.cells #[.slice a n c,.slice b m d] 33 (0,0))∧wm.grownBy wr (Value.slice b m d).ownBlock) (fun s3 _=>m-(RowKit.intOf s3).toNat)
    case atStart=>exact⟨0,ks,Nat.zero_le _,rfl,E2.out.symm,HK2.out,Q2.out,by rw[HWM.out];exact qBi br_ _⟩
    case round=>
     obtain⟨i,l,hi,rfl,hl,hki,hqb,hgr⟩:=hrel;have z1:=cb_ 1 (v:=.slice b m d) hqb rfl;by_cases him:i<m
     · have ti:(i:Int)<m:=by omega
       have ti0:(0:Int)≤i:=by omega
       have hil:i<l.length:=by omega
       obtain⟨gb,eb⟩:=qR2 hki (by omega);subst eb;have h':wr.ownsRow B2 3 1 (.slice (some ⟨gb,0,none⟩) m d) m (intV l):=by have h:=hki;unfold OwnI at h;rw[hl] at h;exact h
       have j0:wr.cell? ⟨gb,i,none⟩=(intV l)[i]?:=World.ownsRow.cellAt h' i (by omega);rw[show(intV l)[i]?=some (.int .i64 l[i]) by unfold intV;rw[List.getElem?_map,List.getElem?_eq_getElem hil];rfl] at j0;have f0:wr.frozen? ⟨gb,i,none⟩=false:=World.ownsRow.frozenAt h' _;have hput:=qU6 (k:=i) hki (-9);have hgs:=(World.ownsRow.stored h' i (.int .i64 (-9))).2;have hne:bs≠gb:=fun e=>by have:=HL2.out gb rfl;omega
       have hqb2:=qAj (i:=i) hqb hne (.int .i64 (-9));have FIN:=hh_ (And.intro hput (And.intro hqb2 (And.intro (qB1 hgr hgs) (show(l.set i (-9)).length=m by rw[List.length_set];exact hl))));have HIM:=hh_ him;clear hput hqb2 hki hqb hgr hgs h' hne hl;go_wp2_with fail
       go_roundw
       case rel=>exact⟨i+1,_,HIM.out,by go_num,FIN.out.2.2.2,FIN.out.1,FIN.out.2.1,FIN.out.2.2.1⟩
       case measure=>simp[RowKit.intOf];have:=HIM.out;omega
     · have ti:¬((i:Int)<m):=by omega
       have G3:=hh_ hgr;clear hki hqb hgr hl HK2 Q2 HWM;go_wp2_with fail
       go_end0;exact⟨rfl,wm,G2.out,G3.out⟩
end Go.Proofs.YtainiaighnjpfaaGreatDoor
namespace Go.Ms
open Go.RowKit Go.Lib Go.Maps
structure SpSt (tS tC tI tN:TypeId) (v vn:Value) (nn:Nat) (ns:List Value) (k:Nat) (rs:List SRef) (L:List Sc) (xs:List Value) (B:Nat) (w W:World):Prop where
  own:W.ownsRow B tS 2 v rs.length xs
  at_:∀(i:Nat) r,k≤i→rs[i]?=some r→xs[i*2]?=some (.slice r.a r.n r.c)∧xs[i*2+1]?=some (.slice r.b r.m r.d)
  each:∀(i:Nat) r s,k≤i→rs[i]?=some r→L[i]?=some s→qBw W B tC (.slice r.a r.n r.c) s.1∧OwnI W B tI (.slice r.b r.m r.d) s.2∧r.n≤100000∧r.m≤100000
  apart:∀(i j:Nat) r q,i<j→rs[i]?=some r→rs[j]?=some q→OffB r q
  nm:W.ownsRow B tN 1 vn nn ns
  bel:Below B w W
section
variable {tS tC tI tN:TypeId} {v vn:Value} {nn k B:Nat} {ns:List Value} {rs:List SRef} {L:List Sc} {xs:List Value} {w W W' wm:World}
theorem SpSt.to (h:SpSt tS tC tI tN v vn nn ns k rs L xs B w W) (hB:B≤W.heap.size) (hb:Below W.heap.size W W'):SpSt tS tC tI tN v vn nn ns k rs L xs B w W':=
  ⟨own_below h.own hb,h.at_,fun i r s h0 h1 h2=>⟨own_below (h.each i r s h0 h1 h2).1 hb,own_below (h.each i r s h0 h1 h2).2.1 hb,(h.each i r s h0 h1 h2).2.2⟩,h.apart,own_below h.nm hb,h.bel.trans (hb.mono hB)⟩
theorem qT2 {W W':World} {B s n:Nat} {e:TypeId} {v:Value} {xs:List Value} {b:Option Nat} (h:W.ownsRow B e s v n xs) (hg:W.grownBy W' b) (hb:∀x,b=some x→v.ownBlock≠some x):W'.ownsRow B e s v n xs:=by
 refine World.ownsRow.kept h hg ?_
 cases hv:v.ownBlock with
 |none=>exact .inl rfl
 |some x=>exact .inr (fun e=>hb x e.symm hv)
theorem SpSt.spoil (h:SpSt tS tC tI tN v vn nn ns k rs L xs B w W) (hB:B≤W.heap.size) {r:SRef} {s:Sc} (hr:rs[k]?=some r) (hs:L[k]?=some s) (g1:W.grownBy wm (Value.slice r.a r.n r.c).ownBlock) (g2:wm.grownBy W' (Value.slice r.b r.m r.d).ownBlock)
    (n1:tS≠tC) (n2:tS≠tI) (n3:tC≠tI) (n4:tN≠tC) (n5:tN≠tI):SpSt tS tC tI tN v vn nn ns (k+1) rs L xs B w W':=by
 obtain⟨oc,oi,-,-⟩:=h.each k r s le_ hr hs;have e1:=EffT.own oc g1;have oi2:=EffT.row oi e1 (Ne.symm n3);have e2:=EffT.own oi2 g2;have bm:=qAh oc h.bel hB le_ g1;refine⟨EffT.row (EffT.row h.own e1 n1) e2 n2,fun i q h0 hq=>h.at_ i q (by omega) hq,fun i q t h0 hq ht=>?_,h.apart,EffT.row (EffT.row h.nm e1 n4) e2 n5,qAh oi2 bm (Nat.le_trans hB g1.size) le_ g2⟩;obtain⟨oc',oi',hsz⟩:=h.each i q t (by omega) hq ht;have ha:=h.apart k i r q (by omega) hr hq;exact⟨EffT.row (qT2 oc' g1 ha.1) e2 n3,qT2 (EffT.row oi' e1 (Ne.symm n3)) g2 ha.2,hsz⟩
theorem SpSt.zero {g c:Nat} (h:SpSt tS tC tI tN (.slice (some ⟨g,0,none⟩) rs.length c) vn nn ns (k+1) rs L xs B w W) (hB:B≤W.heap.size) (n1:tC≠tS) (n2:tI≠tS) (n3:tN≠tS) (u u':Value) :
    SpSt tS tC tI tN (.slice (some ⟨g,0,none⟩) rs.length c) vn nn ns (k+1) rs L ((xs.set (k*2) u).set (k*2+1) u') B w ((W.setCell ⟨g,k*2,none⟩ u).setCell ⟨g,k*2+1,none⟩ u'):=by
 have s1:=World.ownsRow.stored h.own (k*2) u;have s2:=World.ownsRow.stored s1.1 (k*2+1) u';have e1:=EffT.own h.own s1.2;have e2:=EffT.own s1.1 s2.2;have b1:=qAh h.own h.bel hB le_ s1.2;refine⟨s2.1,fun i r h0 hr=>?_,fun i r s h0 hr hs=>?_,h.apart,EffT.row (EffT.row h.nm e1 n3) e2 n3,qAh s1.1 b1 (Nat.le_trans hB s1.2.size) le_ s2.2⟩
 · have ha:=h.at_ i r h0 hr;rw[List.getElem?_set_ne (by omega),List.getElem?_set_ne (by omega),List.getElem?_set_ne (by omega),List.getElem?_set_ne (by omega)];exact ha
 · obtain⟨o1,o2,hsz⟩:=h.each i r s h0 hr hs;exact⟨EffT.row (EffT.row o1 e1 n1) e2 n1,EffT.row (EffT.row o2 e1 n2) e2 n2,hsz⟩
theorem ChO.sp {vn:Value} {ns:List Value} {nn:Nat} (h:ChO tS tC tI v rs L w W) (hn:W.ownsRow w.heap.size tN 1 vn nn ns):SpSt tS tC tI tN v vn nn ns 0 rs L (scsV rs) w.heap.size w W:=
  ⟨h.own,fun i r _ hr=>by
   have h0:=qOx rs i r hr
   exact h0,fun i r s _ hr hs=>⟨(h.each i r s hr hs).co,(h.each i r s hr hs).ki,(h.each i r s hr hs).ty.lay.nn,(h.each i r s hr hs).ty.lay.mm⟩,h.apart,hn,h.bel⟩
end
end Go.Ms
namespace Go.Proofs.YtainiaighnjpfaaGreatDoor
open Go.RowKit Go.Ms Go.Lib Go.Maps Go.WideMaps Go.Rel
abbrev PlY (Kr Km:Nat→Prop) (g m B:Nat) (vn vc:Value) (H:List ChR) (G G':Rg) (W:World):Prop:=PlX Tryz.prog 9 87 71 112 36 Kr Km g m B vn vc H G G' W
theorem qN6 {Kr Km:Nat→Prop} (g m B:Nat) (vn vc:Value) (H:List ChR) (G:Rg) (S:ByteArray) (w:World) (hS:S.size≤100000) (h:PlY Kr Km g m B vn vc H G G w) :
    Calls Tryz.prog 32 #[.pointer (some ⟨g,0,none⟩),.pointer (some ⟨m,0,none⟩),.string S] w fun e w'=>e=.returned (.bool true)∧Below w.heap.size w w':=by
 have hok:=h.lm.ok
 have hlen:(rgAt G S.data.toList).length≤64:=by
  by_cases e:rgAt G S.data.toList=[]
  · rw[e];exact Nat.zero_le _
  · exact hok.few _ (qEq e)
 have hgl:=hok.len;have h1:=fun (W:World) (hb:Below w.heap.size w W)=>qM3 g G S W hS (h.lr.to hb)
 have h2:=fun (W:World) (hb:Below w.heap.size w W)=>qD9 g G W (h.lr.to hb)
 have h3:=fun (W:World) (hb:Below w.heap.size w W)=>qFx g G S W hS (h.lr.to hb)
 have h4:=fun (W:World) (hb:Below w.heap.size w W)=>qQs B m vn vc H G S W (h.lm.to hb)
 have h5:=fun (W:World) (hb:Below w.heap.size w W)=>qN7 B m vn vc H G S W (h.lm.to hb)
 have h6:=fun (W:World) (hb:Below w.heap.size w W)=>qKh B m vn vc H G W (h.lm.to hb)
 obtain⟨L,hL⟩:∃L,L=rgAt G S.data.toList:=⟨_,rfl⟩;rw[←hL] at h1 h3 h4 h5 hlen;obtain⟨N,hN⟩:∃N,N=G.map Prod.fst:=⟨_,rfl⟩;have hnl:G.length=N.length:=by rw[hN,List.length_map]
 have hnv:nmsV G=N.map Go.Proofs.encStr:=by rw[hN];rfl
 rw[←hN] at h2;rw[hnv,hnl] at h6;rw[hnl] at hgl;obtain⟨n,hn⟩:∃n,L.length=n:=⟨_,rfl⟩;obtain⟨nn,hnn⟩:∃nn,N.length=nn:=⟨_,rfl⟩;rw[hn] at h3 h4 hlen;rw[hnn] at hgl h6;have H1:=hh_ h1;have H2:=hh_ h2;have H3:=hh_ h3;have H4:=hh_ h4;have H5:=hh_ h5;have H6:=hh_ h6;have HN:=hh_ hn;have HNN:=hh_ hnn;clear h1 h2 h3 h4 h5 h6 hn hnn hL hN hnl hnv hok h hS;go_enter Tryz.func32,Tryz.ntmps32;go_wp2_with fail
 refine(H1.out w br_).mono ?_;rintro en w1 ⟨v1,rs,rfl,hrl,hst⟩;obtain⟨A1,c1,e1,hc1,hcm1⟩:=qAf hst.own;subst e1;have hrn:rs.length=n:=hrl.trans HN.out;have S1:=hh_ hst;have HRN:=hh_ hrn;have B1:=hh_ hst.bel;rw[hrn] at hc1 ⊢;clear hst hrl hrn;go_wp2_with fail
 refine(H2.out w1 B1.out).mono ?_;rintro en w2 ⟨v2,rfl,ho2,b2⟩;obtain⟨A2,c2,e2,hc2,hcm2⟩:=qAf ho2;rw[HNN.out] at e2 hc2 ho2;subst e2;have S2:=hh_ (S1.out.to b2);have B2:=hh_ (B1.out.trans (b2.mono B1.out.size));have O2:=hh_ (qAv ho2 B1.out.size);clear ho2 b2 S1 B1;go_wp2_with fail
 refine(H3.out w2 B2.out).mono ?_;rintro en w2' ⟨rfl,hw⟩;rw[hw];clear hw;go_wp2_with fail
 refine(H4.out w2 B2.out).mono ?_;rintro en w3 ⟨rfl,b3⟩;have S3:=hh_ (S2.out.to b3);have B3:=hh_ (B2.out.trans (b3.mono B2.out.size));have O3:=hh_ (own_below O2.out b3);clear b3 S2 B2 O2;go_wp2_with fail
 refine(H5.out w3 B3.out).mono ?_;rintro en w4 ⟨v4,qs,rfl,hql,hck⟩;obtain⟨A4,c4,e4,hc4,hcm4,hsl4⟩:=hck.scs hql;subst e4;have hqn:qs.length=n:=hql.trans HN.out;rw[hqn];have b4:Below w3.heap.size w3 w4:=hck.bel;have S4:=hh_ (S3.out.to b4);have B4:=hh_ (B3.out.trans (b4.mono B3.out.size));have O4:=hh_ (own_below O3.out b4);have L4:=hh_ hsl4;clear hck hql hc4 hcm4 hsl4 b4 hqn S3 B3 O3;go_wp2_with fail
 obtain⟨_,_,e1,-,-,hs1⟩:=S4.out.scs (HRN.out.trans HN.out.symm);cases e1;have hch:=qIk w4 A1 A4 n c1 n c4 rs qs L L hs1 L4.out HN.out.symm HN.out.symm (by omega) (by omega) true ⟨fun _=>rfl,fun _=>rfl⟩;refine hch.mono ?_;clear hch hs1;rintro en w5 ⟨rfl,b5⟩;have S5:=hh_ (S4.out.to b5);have B5:=hh_ (B4.out.trans (b5.mono B4.out.size));have O5:=hh_ (own_below O4.out b5);clear b5 S4 B4 O4 L4;go_wp2_with fail
 refine(H6.out w5 B5.out).mono ?_;rintro en w6 ⟨v6,rfl,ho6,b6⟩;obtain⟨A6,c6,e6,hc6,hcm6⟩:=qAf ho6;subst e6;have S6:=hh_ (S5.out.to b6);have B6:=hh_ (B5.out.trans (b6.mono B5.out.size));have O6:=hh_ (own_below O5.out b6);have Q6:=hh_ (Lay.of_own ho6 le_);clear ho6 b6 S5 B5 O5;go_wp2_with fail
 refine(qFd w6 A2 A6 nn c2 c6 N (by omega) HNN.out.symm (Lay.of_own O6.out le_) Q6.out).mono ?_;rintro en w7 ⟨rfl,b7⟩;have SP:=hh_ ((S6.out.to b7).sp (own_below O6.out b7));have B7:=hh_ (B6.out.trans (b7.mono B6.out.size));clear b7 S6 B6 O6 Q6 hc6 hcm6;go_wp2_with fail
 go_loopw [9] (fun s9 wr=> ∃(k:Nat) (xs:List Value),k≤n∧s9=.int .i64 k∧SpSt 33 45 3 9 (.slice A1 rs.length c1) (.slice A2 nn c2) nn (N.map Go.Proofs.encStr) k rs L xs w.heap.size w wr) (fun s9 _=>n-(RowKit.intOf s9).toNat)
 case atStart=>exact⟨0,_,Nat.zero_le _,rfl,SP.out⟩
 case round=>
  obtain⟨k,xs,hk,rfl,hst⟩:=hrel;by_cases hk2:k<n
  · have tk:(k:Int)<n:=by omega
    have tk0:(0:Int)≤k:=by omega
    obtain⟨s,hs⟩:∃s,L[k]?=some s:=⟨_,List.getElem?_eq_getElem (by rw[HN.out];exact hk2)⟩;obtain⟨r,hr⟩:∃r,rs[k]?=some r:=⟨_,List.getElem?_eq_getElem (by rw[HRN.out];exact hk2)⟩;obtain⟨x0,x1⟩:=hst.at_ k r le_ hr;have ho:=hst.own
    obtain⟨gA,rfl⟩:∃gA,A1=some ⟨gA,0,none⟩:=by
     rcases ho.2 with⟨e,_⟩|⟨g',cap,cur,e,_⟩
     · have h0:=(Value.slice.inj e).2.1;rw[HRN.out] at h0;omega
     · exact⟨_,(Value.slice.inj e).1⟩
    have y0:wr.cell? ⟨gA,k*2,none⟩=some (.slice r.a r.n r.c):=(World.ownsRow.cellAt ho (k*2) (by rw[HRN.out];omega)).trans x0;have y1:wr.cell? ⟨gA,k*2+1,none⟩=some (.slice r.b r.m r.d):=(World.ownsRow.cellAt ho (k*2+1) (by rw[HRN.out];omega)).trans x1;obtain⟨oc,oi,hn1,hn2⟩:=hst.each k r s le_ hr hs;have ST:=hh_ hst;have HS:=hh_ hs;have HR:=hh_ hr;have OC:=hh_ oc;have OI:=hh_ oi;have HB0:=hh_ hst.bel.size;clear hst hs hr oc oi ho x0 x1 SP;go_wp2_with fail
    refine(qGf wr w.heap.size w.heap.size r s.1 s.2 OC.out OI.out hn1 hn2).mono ?_;rintro en w2 ⟨rfl,wm,g1,g2⟩;have hs2:=ST.out.spoil HB0.out HR.out HS.out g1 g2 (by decide) (by decide) (by decide) (by decide) (by decide);have f0:=World.ownsRow.frozenAt hs2.own (k*2);have f1:=World.ownsRow.frozenAt hs2.own (k*2+1);have Z:=hh_ (hs2.zero (Nat.le_trans HB0.out (Nat.le_trans g1.size g2.size)) (by decide) (by decide) (by decide) (.slice none 0 0) (.slice none 0 0));have y0:w2.cell? ⟨gA,k*2,none⟩=xs[k*2]?:=World.ownsRow.cellAt hs2.own (k*2) (by rw[HRN.out];omega);have y1:w2.cell? ⟨gA,k*2+1,none⟩=xs[k*2+1]?:=World.ownsRow.cellAt hs2.own (k*2+1) (by rw[HRN.out];omega);obtain⟨x0,x1⟩:=ST.out.at_ k r le_ HR.out;rw[x0] at y0;rw[x1] at y1;clear hs2 g1 g2 ST OC OI x0 x1;go_wp2_with fail
    go_roundw
    case rel=>exact⟨k+1,_,by omega,by go_num,Z.out⟩
    case measure=>simp[RowKit.intOf];omega
  · obtain rfl:k=n:=by omega
    have NM:=hh_ hst.nm;have BL:=hh_ hst.bel;clear hst SP;go_wp2_with fail
    go_loopw [10] (fun s10 wr=> ∃(j:Nat) (ys:List Value),j≤nn∧s10=.int .i64 j∧wr.ownsRow w.heap.size 9 1 (.slice A2 nn c2) nn ys∧Below w.heap.size w wr) (fun s10 _=>nn-(RowKit.intOf s10).toNat)
    case atStart=>exact⟨0,_,Nat.zero_le _,rfl,NM.out,BL.out⟩
    case round=>
     obtain⟨j,ys,hj,rfl,ho,hb⟩:=hrel;by_cases hj2:j<nn
     · have tj:(j:Int)<nn:=by omega
       have tj0:(0:Int)≤j:=by omega
       obtain⟨gB,rfl⟩:∃gB,A2=some ⟨gB,0,none⟩:=by
        rcases ho.2 with⟨e,_⟩|⟨g',cap,cur,e,_⟩
        · cases e;omega
        · cases e;exact⟨_,rfl⟩
       have hs:=World.ownsRow.stored ho j (.string ⟨#[115,112,111,105,108,116]⟩);have f0:=World.ownsRow.frozenAt ho j;have y0:wr.cell? ⟨gB,j,none⟩=ys[j]?:=World.ownsRow.cellAt ho j (by omega);obtain⟨u,hu⟩:∃u,ys[j]?=some u:=⟨_,List.getElem?_eq_getElem (by have:=ho.1;omega)⟩;rw[hu] at y0;have Z1:=hh_ hs.1;have Z2:=hh_ (qAh ho hb hb.size le_ hs.2);clear hs ho hb hu NM BL;go_wp2_with fail
       go_roundw
       case rel=>exact⟨j+1,_,by omega,by go_num,Z1.out,Z2.out⟩
       case measure=>simp[RowKit.intOf];omega
     · obtain rfl:j=nn:=by omega
       have B8:=hh_ hb;clear ho hb NM BL;go_wp2_with fail
       refine(H1.out wr B8.out).mono ?_;rintro en w1 ⟨v1,ps,rfl,hpl,hst⟩;obtain⟨A3,c3,e3,-,-,hs3⟩:=hst.scs hpl;subst e3;have b1:=hst.bel;have L3:=hh_ hs3;have B9:=hh_ (B8.out.trans (b1.mono B8.out.size));have hpn:ps.length=k:=hpl.trans HN.out;rw[hpn];clear hst hs3 b1 hpl hpn;go_wp2_with fail
       refine(H5.out w1 B9.out).mono ?_;rintro en w4 ⟨v4,qs',rfl,hql,hck⟩;obtain⟨A5,c5,e5,-,-,hsl5⟩:=hck.scs hql;subst e5;have hqn:qs'.length=k:=hql.trans HN.out;rw[hqn];have b4:=hck.bel;have B10:=hh_ (B9.out.trans (b4.mono B9.out.size));have hch:=qIk w4 A3 A5 k c3 k c5 ps qs' L L (L3.out.to b4) hsl5 HN.out.symm HN.out.symm (by omega) (by omega) true ⟨fun _=>rfl,fun _=>rfl⟩;have HCH:=hh_ hch;clear hck hql hqn hsl5 b4 hch L3;go_wp2_with fail
       refine HCH.out.mono ?_;rintro en w5 ⟨rfl,b5⟩;have B11:=hh_ (B10.out.trans (b5.mono B10.out.size));clear b5 HCH;go_wp2_with fail
       refine(H2.out w5 B11.out).mono ?_;rintro en w6 ⟨v6,rfl,ho6,b6⟩;obtain⟨A7,c7,e7,-,-⟩:=qAf ho6;rw[HNN.out] at e7 ho6;subst e7;have B12:=hh_ (B11.out.trans (b6.mono B11.out.size));have L6:=hh_ (Lay.of_own ho6 le_);clear ho6 b6;go_wp2_with fail
       refine(H6.out w6 B12.out).mono ?_;rintro en w7 ⟨v7,rfl,ho7,b7⟩;obtain⟨A8,c8,e8,-,-⟩:=qAf ho7;subst e8;have B13:=hh_ (B12.out.trans (b7.mono B12.out.size));have hrt:=qFd w7 A7 A8 j c7 c8 N (by omega) HNN.out.symm ((L6.out.below b7).more b7.size) (Lay.of_own ho7 le_);have HRT:=hh_ hrt;clear ho7 b7 hrt L6;go_wp2_with fail
       refine HRT.out.mono ?_;rintro en w8 ⟨rfl,b8⟩;have B14:=hh_ (B13.out.trans (b8.mono B13.out.size));clear b8 HRT;go_wp2_with fail
       go_ret;exact⟨rfl,B14.out⟩
end Go.Proofs.YtainiaighnjpfaaGreatDoor
