/- Rows: what Check answers. Schemas that follow each other, plainly: the chain of a seed. Schemas that follow each other, plainly: a seed's versions are a chain. Schemas that follow each other, plainly: a seed's rows, and what the laws say of them. Schemas that follow each other, plainly: a row carried in parts; what EvolveRows and EvolveCells say. Evolve: a row moved on by one step: the package's answer. -/
import Derived.Test.YtainiaighnjpfaaGreatDoorZQn
import Derived.Test.YtainiaighnjpfaaGreatDoorZQc
import Derived.Test.YtainiaighnjpfaaGreatDoorZQz
set_option linter.unusedVariables false
namespace Go.Proofs.YtainiaighnjpfaaGreatDoor
open Go.RowKit Go.Ms Go.Lib
structure qDt (w:World) (p:Addr) (A:Option Addr) (n cap:Nat) (ts:List Ty) (xs:List Value):Prop where
  box:w.cell? p=some (.slice A n cap)
  cols:Cols w w.heap.size A ts xs
  len:n=ts.length
theorem qNv (w:World) (i:Nat) (c:Cl) (p:Addr) (A:Option Addr) (n cap:Nat) (ts:List Ty) (xs:List Value) (t:Ty) (hsz:c.2.2.size≤100000) (hn:n≤maxLen) (hi:ts[i]?=some t) (hS:qDt w p A n cap ts xs) (hE:Env w) :
    Calls Tryz.prog 86 #[.int .i64 i,.agg #[.bool c.1,.int .i64 c.2.1,.string c.2.2],.pointer (some p)] w fun e w'=>e=.returned (.int .i64 (qDw t c))∧Below w.heap.size w w':=by
 unfold maxLen at hn
 have hin:i<n:=by rw[hS.len];exact(List.getElem?_eq_some_iff.1 hi).1
 obtain⟨g,o,rfl,hb,h2,h3⟩:=hS.cols.ty hi;have hbox:=hS.box;obtain⟨u,m,S⟩:=c;obtain⟨k,tn⟩:=t
 have hcc:∀w',Env w'→Calls Tryz.prog 72 #[.agg #[.int .i64 k,.bool tn],.agg #[.bool u,.int .i64 m,.string S]] w' fun e w''=>e=.returned (.int .i64 (qDw (k,tn) (u,m,S)))∧Below w'.heap.size w' w'':=fun w' h=>qBz k tn u m S w' hsz h
 generalize qDw (k,tn) (u,m,S)=C at *
 have HC:=Lib.hid hcc;have HE:=Lib.hid hE;simp only at h2 h3;clear hcc hE hS hi hn;have l1:=qAx hbox;obtain⟨V,hV⟩:∃V,w.alloc (.cells #[.bool u,.int .i64 m,.string S] 43)=V:=⟨_,rfl⟩
 have hbel:Below w.heap.size w V:=by rw[←hV];exact(Below.refl _ _).alloc (Nat.le_refl _) _
 have hnew:V.heap[w.heap.size]?=some (.cells #[.bool u,.int .i64 m,.string S] 43 (0,0)):=by rw[←hV];exact heap_alloc_new w _
 have hD:(V.drew.cell? ⟨w.heap.size,0,none⟩=some (.bool u)∧V.drew.cell? ⟨w.heap.size,1,none⟩=some (.int .i64 m)∧V.drew.cell? ⟨w.heap.size,2,none⟩=some (.string S)∧V.drew.cell? p=some (.slice (some ⟨g,o,none⟩) n cap)∧V.drew.cell? ⟨g,o+i*7+2,none⟩=some (.int .i64 k)∧V.drew.cell? ⟨g,o+i*7+2+1,none⟩=some (.bool tn))∧Below w.heap.size w V.drew:=
   ⟨⟨by show V.cell? _=_;rw[Lib.cell_of_heap hnew];rfl,by show V.cell? _=_;rw[Lib.cell_of_heap hnew];rfl,by show V.cell? _=_;rw[Lib.cell_of_heap hnew];rfl,(hbel.cell l1).trans hbox,(hbel.cell hb).trans h2,(hbel.cell hb).trans h3⟩,qAc hbel 1⟩
 have HV:=Lib.hid hV;have HD:=Lib.hid hD;clear hV hbel hnew hD hbox h2 h3
 go_enter Tryz.func86,Tryz.ntmps86
 go_wp2_with fail
 rw[HV.out]
 go_region_held3 (fun w'=>(w'.cell? ⟨w.heap.size,0,none⟩=some (.bool u)∧w'.cell? ⟨w.heap.size,1,none⟩=some (.int .i64 m)∧w'.cell? ⟨w.heap.size,2,none⟩=some (.string S)∧w'.cell? p=some (.slice (some ⟨g,o,none⟩) n cap)∧w'.cell? ⟨g,o+i*7+2,none⟩=some (.int .i64 k)∧w'.cell? ⟨g,o+i*7+2+1,none⟩=some (.bool tn))∧Below w.heap.size w w')
   (first
     |exact HD.out
     |exact qS2 HD.out bb
     |exact qS2 (by assumption) bb
     |(go_keep;done))
   (((with_reducible refine(HC.out _ ?_).mono ?_);exact HE.out.below (And.right (by assumption));rintro en w5 ⟨rfl,bb⟩))
 all_goals
  go_wp2_with fail
  go_ret
  exact⟨rfl,endK (by assumption)⟩
theorem qDt.below {w w':World} {p:Addr} {A:Option Addr} {n cap:Nat} {ts:List Ty} {xs:List Value} (h:qDt w p A n cap ts xs) (hb:Below w.heap.size w w'):qDt w' p A n cap ts xs:=
  ⟨(hb.cell (qAx h.box)).trans h.box,(h.cols.below hb).more hb.size,h.len⟩
theorem qKc {ts:List Ty} {cs:List Cl} {k:Nat} {t:Ty} {c:Cl} (ht:ts[k]?=some t) (hc:cs[k]?=some c) :
    qDf (ts.drop k) (cs.drop k)=if qDw t c=0 then qDf (ts.drop (k+1)) (cs.drop (k+1)) else qDw t c:=by
 obtain⟨h1,rfl⟩:=List.getElem?_eq_some_iff.1 ht;obtain⟨h2,rfl⟩:=List.getElem?_eq_some_iff.1 hc;rw[List.drop_eq_getElem_cons h1,List.drop_eq_getElem_cons h2];rfl
set_option maxRecDepth 100000 in
theorem qJs (w:World) (p:Addr) (A B:Option Addr) (n cap m capm:Nat) (ts:List Ty) (xs:List Value) (cs:List Cl) (hsz:∀c∈cs,c.2.2.size≤100000) (hn:n≤maxLen) (hm:m=cs.length) (hlen:n=m) (hS:qDt w p A n cap ts xs) (hL:Lay w w.heap.size B (rowV cs)) (hE:Env w) :
    Calls Tryz.prog 85 #[.slice B m capm,.func (.func 86) #[] #[.pointer (some p)]] w fun e w'=>e=.returned (.int .i64 (qDf ts cs))∧Below w.heap.size w w':=by
 have hlt:ts.length=cs.length:=by rw[←hS.len,←hm];exact hlen
 have hck:=fun (w':World) (i:Nat) (c:Cl) (t:Ty) (hc:c.2.2.size≤100000) (hi:ts[i]?=some t) (hS':qDt w' p A n cap ts xs) (hE':Env w')=>qNv w' i c p A n cap ts xs t hc hn hi hS' hE'
 unfold maxLen at hn
 have HS:=Lib.hid hS;have HL:=Lib.hid hL;have HE:=Lib.hid hE;have HK:=Lib.hid hck;have HZ:=Lib.hid hsz
 have HM:=Lib.hid hm;have HT:=Lib.hid hlt
 have hmb:m≤9223372036854775807:=by omega
 clear hS hL hE hck hsz hm hlt hlen
 go_enter Tryz.func85,Tryz.ntmps85
 go_wp2_with fail
 go_loopw [10] (fun id wr=> ∃k:Nat,k≤m∧id=.int .i64 k∧Below w.heap.size w wr∧qDf ts cs=qDf (ts.drop k) (cs.drop k)) (fun id _=>m-(RowKit.intOf id).toNat)
 case atStart=>exact⟨0,by omega,rfl,Below.refl _ _,rfl⟩
 case round=>
  obtain⟨k,hk,rfl,hb,hr⟩:=hrel;have HR:=Lib.hid hr;clear hr
  by_cases hlk:k<m
  · have hki:(k:Int)<m:=by omega
    obtain⟨c,hc⟩:∃c,cs[k]?=some c:=⟨_,List.getElem?_eq_getElem (by rw[←HM.out];exact hlk)⟩;obtain⟨t,ht⟩:∃t,ts[k]?=some t:=⟨_,List.getElem?_eq_getElem (by rw[HT.out,←HM.out];exact hlk)⟩;obtain⟨g,o,rfl,hg,h1,h2,h3⟩:=HL.out.cl hc;have g1:=(hb.cell hg).trans h1;have g2:=(hb.cell hg).trans h2;have g3:=(hb.cell hg).trans h3;have hz:c.2.2.size≤100000:=HZ.out c (List.mem_of_getElem? hc);have hd:=qKc ht hc;obtain⟨u,nn,S⟩:=c;simp only at g1 g2 g3 hz
    have hcall:=fun w' (h:qDt w' p A n cap ts xs) (h':Env w')=>HK.out w' k (u,nn,S) t hz ht h h'
    have HC:=Lib.hid hcall;have HD:=Lib.hid hd;have HB:=Lib.hid hb
    clear hcall hd hc ht h1 h2 h3 hb
    generalize qDw t (u,nn,S)=C at *
    by_cases hz0:C=0
    · subst hz0
      go_wp2_with fail
      refine(HC.out _ (HS.out.below (HB.out.alloc HB.out.size _)) (HE.out.below (HB.out.alloc HB.out.size _))).mono ?_;rintro en w1 ⟨rfl,b1⟩;have hb1:=(HB.out.alloc HB.out.size (.cells #[.bool u,.int .i64 nn,.string S] 43)).trans (b1.mono (HB.out.alloc HB.out.size _).size);have HB1:=Lib.hid hb1;clear hb1 b1
      go_wp2_with fail
      go_roundw
      case rel=>exact⟨k+1,by omega,by go_num,HB1.out,by rw[HR.out,HD.out];simp⟩
      case measure=>simp[RowKit.intOf];omega
    · have hz1:(C != 0)=true:=by simpa using hz0
      go_wp2_with fail
      refine(HC.out _ (HS.out.below (HB.out.alloc HB.out.size _)) (HE.out.below (HB.out.alloc HB.out.size _))).mono ?_;rintro en w1 ⟨rfl,b1⟩;have hb1:=(HB.out.alloc HB.out.size (.cells #[.bool u,.int .i64 nn,.string S] 43)).trans (b1.mono (HB.out.alloc HB.out.size _).size);have HB1:=Lib.hid hb1;have HZ1:=Lib.hid hz0;clear hb1 b1 hz0
      go_wp2_with fail
      go_ret
      exact⟨by rw[HR.out,HD.out,if_neg HZ1.out];rfl,HB1.out⟩
  · have hki:¬(k:Int)<m:=by omega
    have hkm:k=m:=by omega
    have h0:qDf ts cs=0:=by
     rw[HR.out,hkm,HM.out,List.drop_length]
     cases List.drop cs.length ts <;> rfl
    have H0:=Lib.hid h0;have HB:=Lib.hid hb;clear h0 hb hkm
    go_wp2_with fail
    go_ret
    exact⟨by rw[H0.out];rfl,HB.out⟩
theorem qJ5 (w:World) (A B:Option Addr) (n cap m capm:Nat) (ts:List Ty) (xs:List Value) (cs:List Cl) (hsz:∀c∈cs,c.2.2.size≤100000) (hn:n≤maxLen) (hm':m≤maxLen) (hn':n=ts.length) (hm:m=cs.length) (hC:Cols w w.heap.size A ts xs) (hL:Lay w w.heap.size B (rowV cs)) (hE:Env w) :
    Calls Tryz.prog 44 #[.slice A n cap,.slice B m capm] w fun e w'=>e=.returned (.int .i64 (qDb ts cs))∧Below w.heap.size w w':=by
 have hb0:Below w.heap.size w (w.alloc (.cells #[.slice A n cap] 30)):=(Below.refl _ _).alloc (Nat.le_refl _) _
 by_cases h:n=m
 · have hc:w.heap.size<(w.alloc (.cells #[.slice A n cap] 30)).heap.size:=by simp
   have hcall:=qJs (w.alloc (.cells #[.slice A n cap] 30)) ⟨w.heap.size,0,none⟩ A B n cap m capm ts xs cs hsz hn hm h ⟨by rw[Lib.cell_of_heap (heap_alloc_new w _)];rfl,(hC.below hb0).more (by simp),hn'⟩ ((hL.below hb0).more (by simp)) (hE.below hb0)
   have hr:qDb ts cs=qDf ts cs:=by unfold qDb;rw[if_pos (by omega)]
   rw[hr];subst h;unfold maxLen at hn
   have HC:=Lib.hid hcall;have HB:=Lib.hid hb0
   clear hcall hC hL hE hn' hr hc hb0 hm
   go_enter Tryz.func44,Tryz.ntmps44
   go_wp2_with fail
   refine HC.out.mono ?_;rintro en w1 ⟨rfl,b1⟩;have HB1:=Lib.hid (HB.out.trans (b1.mono HB.out.size));clear b1
   go_wp2_with fail
   go_ret
   exact⟨rfl,HB1.out⟩
 · have hr:qDb ts cs=100:=by unfold qDb;rw[if_neg (by omega)]
   rw[hr]
   have hne:((n:Int) != m)=true:=by simp;omega
   have hne2:(n != m)=true:=by simpa using h
   unfold maxLen at hn hm';clear hr hm hn' h hC hL;have HB:=Lib.hid hb0;clear hb0
   go_enter Tryz.func44,Tryz.ntmps44
   go_wp2_with fail
   go_ret
   exact⟨rfl,HB.out⟩
end Go.Proofs.YtainiaighnjpfaaGreatDoor
set_option linter.unusedSimpArgs false
namespace Go.Ms
end Go.Ms
set_option linter.unusedSimpArgs false
namespace Go.Ms
end Go.Ms
set_option linter.unusedSimpArgs false
namespace Go.Ms
end Go.Ms
set_option linter.unusedSimpArgs false
namespace Go.Ms
theorem qQz {L:List Sc} (h:qAu L=0):∀t∈L,scOk t.1 t.2=true:=by
 cases L with
 |nil=>intro t ht;simp at ht
 |cons s l=>exact(qL0 h).2.1
theorem qQl {L:List Sc} {p q:Nat} (h1:1≤p) (h2:p≤q) (h3:q≤L.length):(L.getD (p-1) zSc::(L.drop p).take (q-p)).getLast (by simp)=L.getD (q-1) zSc:=by
 rw[List.getLast_eq_getElem]
 have hlen:(L.getD (p-1) zSc::(L.drop p).take (q-p)).length=q-p+1:=by simp;omega
 have key:(L.getD (p-1) zSc::(L.drop p).take (q-p))[q-p]?=some (L.getD (q-1) zSc):=by
  by_cases e:q=p
  · subst e
    simp
  · rw[show q-p=(q-p-1)+1 by omega,List.getElem?_cons_succ,List.getElem?_take,if_pos (by omega),List.getElem?_drop,show p+(q-p-1)=q-1 by omega,List.getD_eq_getElem?_getD,List.getElem?_eq_getElem (by omega)];rfl
 obtain⟨h5,h6⟩:=List.getElem?_eq_some_iff.1 key;rw[←h6]
 congr 1
 omega
end Go.Ms
set_option linter.unusedSimpArgs false
namespace Go.Ms
open Go.RowKit Go.Lib
structure SRef where
  a:Option Addr
  n:Nat
  c:Nat
  b:Option Addr
  m:Nat
  d:Nat
structure qCi (W:World) (B:Nat) (r:SRef) (s:Sc):Prop where
  n:r.n=s.1.length
  m:r.m=s.2.length
  nn:r.n≤100000
  mm:r.m≤100000
  la:Lay W B r.a (colV s.1)
  lb:Lay W B r.b (intV s.2)
theorem qCi.to {W W':World} {r:SRef} {s:Sc} (h:qCi W W.heap.size r s) (hb:Below W.heap.size W W'):qCi W' W'.heap.size r s:=⟨h.n,h.m,h.nn,h.mm,(h.la.below hb).more hb.size,(h.lb.below hb).more hb.size⟩
theorem qCi.below {W W':World} {B:Nat} {r:SRef} {s:Sc} (h:qCi W B r s) (hb:Below B W W'):qCi W' B r s:=⟨h.n,h.m,h.nn,h.mm,h.la.below hb,h.lb.below hb⟩
theorem qCi.more {W:World} {B B':Nat} {r:SRef} {s:Sc} (h:qCi W B r s) (hb:B≤B'):qCi W B' r s:=⟨h.n,h.m,h.nn,h.mm,h.la.more hb,h.lb.more hb⟩
theorem qS3 {s:Sc} (h:scOk s.1 s.2=true):qOe s.1∧∀c∈s.1,1≤c.1∧c.1≤1048576:=by
 have h1:=(qFf s.1 s.2).1 h;refine⟨qVj h1,fun c hc=>?_⟩;obtain⟨i,hi⟩:=List.getElem?_of_mem hc;exact h1.id i c hi
structure qKo (W:World) (C:Option Addr) (q:Nat) (r:List Cl):Prop where
  ql:q=r.length
  qq:q≤100000
  lay:Lay W W.heap.size C (rowV r)
  sz:∀c∈r,c.2.2.size≤100000
theorem qKo.to {W W':World} {C:Option Addr} {q:Nat} {r:List Cl} (h:qKo W C q r) (hb:Below W.heap.size W W'):qKo W' C q r:=⟨h.ql,h.qq,(h.lay.below hb).more hb.size,h.sz⟩
end Go.Ms
namespace Go.Proofs.YtainiaighnjpfaaGreatDoor
open Go.RowKit Go.Ms Go.Lib Go.Shelf Go.Rel
def qPs (w:World) (R:List Cl) (E:Int):Ending→World→Prop:=fun e w'=> ∃v,e=.returned (.tuple #[v,.int .i64 E])∧OwnC w' w.heap.size 43 v R∧Below w.heap.size w w'
end Go.Proofs.YtainiaighnjpfaaGreatDoor
