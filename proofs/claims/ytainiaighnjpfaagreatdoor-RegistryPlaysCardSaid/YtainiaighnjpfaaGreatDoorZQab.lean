/- Rows: what Check answers. Schemas that follow each other, plainly: the chain of a seed. Schemas that follow each other, plainly: a seed's versions are a chain. Schemas that follow each other, plainly: a seed's rows, and what the laws say of them. Schemas that follow each other, plainly: a row carried in parts; what EvolveRows and EvolveCells say. Evolve: a row moved on by one step: the package's answer. -/
import Derived.Test.YtainiaighnjpfaaGreatDoorZQaa
set_option linter.unusedVariables false
namespace Go.Proofs.YtainiaighnjpfaaGreatDoor
open Go.RowKit Go.Ms Go.Lib
structure qEt (w:World) (p:Addr) (A:Option Addr) (n cap:Nat) (ts:List Ty) (xs:List Value):Prop where
  box:w.cell? p=some (.slice A n cap)
  cols:Cols w w.heap.size A ts xs
  len:n=ts.length
theorem qQj (w:World) (i:Nat) (c:Cl) (p:Addr) (A:Option Addr) (n cap:Nat) (ts:List Ty) (xs:List Value) (t:Ty) (hsz:c.2.2.size≤100000) (hn:n≤maxLen) (hi:ts[i]?=some t) (hS:qEt w p A n cap ts xs) (hE:Env w) :
    Calls Tryz.prog 86 #[.int .i64 i,.agg #[.bool c.1,.int .i64 c.2.1,.string c.2.2],.pointer (some p)] w fun e w'=>e=.returned (.int .i64 (qDw t c))∧Below w.heap.size w w':=by
 unfold maxLen at hn;have hin:i<n:=by rw[hS.len];exact(List.getElem?_eq_some_iff.1 hi).1
 obtain⟨g,o,rfl,hb,h2,h3⟩:=hS.cols.ty hi;have hbox:=hS.box;obtain⟨u,m,S⟩:=c;obtain⟨k,tn⟩:=t;have hcc:∀w',Env w'→Calls Tryz.prog 72 #[.agg #[.int .i64 k,.bool tn],.agg #[.bool u,.int .i64 m,.string S]] w' fun e w''=>e=.returned (.int .i64 (qDw (k,tn) (u,m,S)))∧Below w'.heap.size w' w'':=fun w' h=>qCc k tn u m S w' hsz h
 generalize qDw (k,tn) (u,m,S)=C at *; have HC:=hh_ hcc;have HE:=hh_ hE;simp only at h2 h3;clear hcc hE hS hi hn;have l1:=qAg hbox;obtain⟨V,hV⟩:∃V,w.alloc (.cells #[.bool u,.int .i64 m,.string S] 43)=V:=⟨_,rfl⟩;have hbel:Below w.heap.size w V:=by rw[←hV];exact br_.alloc le_ _
 have hnew:V.heap[w.heap.size]?=some (.cells #[.bool u,.int .i64 m,.string S] 43 (0,0)):=by rw[←hV];exact heap_alloc_new w _
 have hD:(V.drew.cell? ⟨w.heap.size,0,none⟩=some (.bool u)∧V.drew.cell? ⟨w.heap.size,1,none⟩=some (.int .i64 m)∧V.drew.cell? ⟨w.heap.size,2,none⟩=some (.string S)∧V.drew.cell? p=some (.slice (some ⟨g,o,none⟩) n cap)∧V.drew.cell? ⟨g,o+i*7+2,none⟩=some (.int .i64 k)∧V.drew.cell? ⟨g,o+i*7+2+1,none⟩=some (.bool tn))∧Below w.heap.size w V.drew:=
   ⟨⟨by show V.cell? _=_;rw[Lib.cell_of_heap hnew];rfl,by show V.cell? _=_;rw[Lib.cell_of_heap hnew];rfl,by show V.cell? _=_;rw[Lib.cell_of_heap hnew];rfl,(hbel.cell l1).trans hbox,(hbel.cell hb).trans h2,(hbel.cell hb).trans h3⟩,qAa hbel 1⟩
 have HV:=hh_ hV;have HD:=hh_ hD;clear hV hbel hnew hD hbox h2 h3;go_enter Tryz.func86,Tryz.ntmps86;go_wp2_with fail
 rw[HV.out]
 go_region_held3 (fun w'=>(w'.cell? ⟨w.heap.size,0,none⟩=some (.bool u)∧w'.cell? ⟨w.heap.size,1,none⟩=some (.int .i64 m)∧w'.cell? ⟨w.heap.size,2,none⟩=some (.string S)∧w'.cell? p=some (.slice (some ⟨g,o,none⟩) n cap)∧w'.cell? ⟨g,o+i*7+2,none⟩=some (.int .i64 k)∧w'.cell? ⟨g,o+i*7+2+1,none⟩=some (.bool tn))∧Below w.heap.size w w')
   (first
     |exact HD.out
     |exact qYe HD.out bb
     |exact qYe (by assumption) bb
     |(go_keep;done))
   (((with_reducible refine(HC.out _ ?_).mono ?_);exact HE.out.below (And.right (by assumption));rintro en w5 ⟨rfl,bb⟩))
 all_goals
  go_wp2_with fail
  go_ret;exact⟨rfl,endK (by assumption)⟩
theorem qEt.below {w w':World} {p:Addr} {A:Option Addr} {n cap:Nat} {ts:List Ty} {xs:List Value} (h:qEt w p A n cap ts xs) (hb:Below w.heap.size w w'):qEt w' p A n cap ts xs:=
  ⟨(hb.cell (qAg h.box)).trans h.box,(h.cols.below hb).more hb.size,h.len⟩
theorem qH9 {ts:List Ty} {cs:List Cl} {k:Nat} {t:Ty} {c:Cl} (ht:ts[k]?=some t) (hc:cs[k]?=some c) :
    qCv (ts.drop k) (cs.drop k)=if qDw t c=0 then qCv (ts.drop (k+1)) (cs.drop (k+1)) else qDw t c:=by
 obtain⟨h1,rfl⟩:=List.getElem?_eq_some_iff.1 ht;obtain⟨h2,rfl⟩:=List.getElem?_eq_some_iff.1 hc;rw[List.drop_eq_getElem_cons h1,List.drop_eq_getElem_cons h2];rfl
set_option maxRecDepth 100000 in
theorem qLx (w:World) (p:Addr) (A B:Option Addr) (n cap m capm:Nat) (ts:List Ty) (xs:List Value) (cs:List Cl) (hsz:∀c∈cs,c.2.2.size≤100000) (hn:n≤maxLen) (hm:m=cs.length) (hlen:n=m) (hS:qEt w p A n cap ts xs) (hL:Lay w w.heap.size B (rowV cs)) (hE:Env w) :
    Calls Tryz.prog 85 #[.slice B m capm,.func (.func 86) #[] #[.pointer (some p)]] w fun e w'=>e=.returned (.int .i64 (qCv ts cs))∧Below w.heap.size w w':=by
 have hlt:ts.length=cs.length:=by rw[←hS.len,←hm];exact hlen
 have hck:=fun (w':World) (i:Nat) (c:Cl) (t:Ty) (hc:c.2.2.size≤100000) (hi:ts[i]?=some t) (hS':qEt w' p A n cap ts xs) (hE':Env w')=>qQj w' i c p A n cap ts xs t hc hn hi hS' hE'
 unfold maxLen at hn;have HS:=hh_ hS;have HL:=hh_ hL;have HE:=hh_ hE;have HK:=hh_ hck;have HZ:=hh_ hsz;have HM:=hh_ hm;have HT:=hh_ hlt;have hmb:m≤9223372036854775807:=by omega
 clear hS hL hE hck hsz hm hlt hlen;go_enter Tryz.func85,Tryz.ntmps85;go_wp2_with fail
 go_loopw [10] (fun id wr=> ∃k:Nat,k≤m∧id=.int .i64 k∧Below w.heap.size w wr∧qCv ts cs=qCv (ts.drop k) (cs.drop k)) (fun id _=>m-(RowKit.intOf id).toNat)
 case atStart=>exact⟨0,by omega,rfl,Below.refl _ _,rfl⟩
 case round=>
  obtain⟨k,hk,rfl,hb,hr⟩:=hrel;have HR:=hh_ hr;clear hr;by_cases hlk:k<m
  · have hki:(k:Int)<m:=by omega
    obtain⟨c,hc⟩:∃c,cs[k]?=some c:=⟨_,List.getElem?_eq_getElem (by rw[←HM.out];exact hlk)⟩;obtain⟨t,ht⟩:∃t,ts[k]?=some t:=⟨_,List.getElem?_eq_getElem (by rw[HT.out,←HM.out];exact hlk)⟩;obtain⟨g,o,rfl,hg,h1,h2,h3⟩:=HL.out.cl hc;have g1:=(hb.cell hg).trans h1;have g2:=(hb.cell hg).trans h2;have g3:=(hb.cell hg).trans h3;have hz:c.2.2.size≤100000:=HZ.out c (List.mem_of_getElem? hc);have hd:=qH9 ht hc;obtain⟨u,nn,S⟩:=c;simp only at g1 g2 g3 hz;have hcall:=fun w' (h:qEt w' p A n cap ts xs) (h':Env w')=>HK.out w' k (u,nn,S) t hz ht h h'
    have HC:=hh_ hcall;have HD:=hh_ hd;have HB:=hh_ hb;clear hcall hd hc ht h1 h2 h3 hb;generalize qDw t (u,nn,S)=C at *; by_cases hz0:C=0
    · subst hz0;go_wp2_with fail
      refine(HC.out _ (HS.out.below (HB.out.alloc HB.out.size _)) (HE.out.below (HB.out.alloc HB.out.size _))).mono ?_;rintro en w1 ⟨rfl,b1⟩;have hb1:=(HB.out.alloc HB.out.size (.cells #[.bool u,.int .i64 nn,.string S] 43)).trans (b1.mono (HB.out.alloc HB.out.size _).size);have HB1:=hh_ hb1;clear hb1 b1;go_wp2_with fail
      go_roundw
      case rel=>exact⟨k+1,by omega,by go_num,HB1.out,by rw[HR.out,HD.out];simp⟩
      case measure=>simp[RowKit.intOf];omega
    · have hz1:(C != 0)=true:=by simpa using hz0
      go_wp2_with fail
      refine(HC.out _ (HS.out.below (HB.out.alloc HB.out.size _)) (HE.out.below (HB.out.alloc HB.out.size _))).mono ?_;rintro en w1 ⟨rfl,b1⟩;have hb1:=(HB.out.alloc HB.out.size (.cells #[.bool u,.int .i64 nn,.string S] 43)).trans (b1.mono (HB.out.alloc HB.out.size _).size);have HB1:=hh_ hb1;have HZ1:=hh_ hz0;clear hb1 b1 hz0;go_wp2_with fail
      go_ret;exact⟨by rw[HR.out,HD.out,if_neg HZ1.out];rfl,HB1.out⟩
  · have hki:¬(k:Int)<m:=by omega
    have hkm:k=m:=by omega
    have h0:qCv ts cs=0:=by
     rw[HR.out,hkm,HM.out,List.drop_length];cases List.drop cs.length ts <;> rfl
    have H0:=hh_ h0;have HB:=hh_ hb;clear h0 hb hkm;go_wp2_with fail
    go_ret;exact⟨by rw[H0.out];rfl,HB.out⟩
theorem qNo (w:World) (A B:Option Addr) (n cap m capm:Nat) (ts:List Ty) (xs:List Value) (cs:List Cl) (hsz:∀c∈cs,c.2.2.size≤100000) (hn:n≤maxLen) (hm':m≤maxLen) (hn':n=ts.length) (hm:m=cs.length) (hC:Cols w w.heap.size A ts xs) (hL:Lay w w.heap.size B (rowV cs)) (hE:Env w) :
    Calls Tryz.prog 44 #[.slice A n cap,.slice B m capm] w fun e w'=>e=.returned (.int .i64 (qCj ts cs))∧Below w.heap.size w w':=by
 have hb0:Below w.heap.size w (w.alloc (.cells #[.slice A n cap] 30)):=br_.alloc le_ _;by_cases h:n=m
 · have hc:w.heap.size<(w.alloc (.cells #[.slice A n cap] 30)).heap.size:=by simp
   have hcall:=qLx (w.alloc (.cells #[.slice A n cap] 30)) ⟨w.heap.size,0,none⟩ A B n cap m capm ts xs cs hsz hn hm h ⟨by rw[Lib.cell_of_heap (heap_alloc_new w _)];rfl,(hC.below hb0).more (by simp),hn'⟩ ((hL.below hb0).more (by simp)) (hE.below hb0);have hr:qCj ts cs=qCv ts cs:=by unfold qCj;rw[if_pos (by omega)]
   rw[hr];subst h;unfold maxLen at hn;have HC:=hh_ hcall;have HB:=hh_ hb0;clear hcall hC hL hE hn' hr hc hb0 hm;go_enter Tryz.func44,Tryz.ntmps44;go_wp2_with fail
   refine HC.out.mono ?_;rintro en w1 ⟨rfl,b1⟩;have HB1:=hh_ (HB.out.trans (b1.mono HB.out.size));clear b1;go_wp2_with fail
   go_ret;exact⟨rfl,HB1.out⟩
 · have hr:qCj ts cs=100:=by unfold qCj;rw[if_neg (by omega)]
   rw[hr];have hne:((n:Int) != m)=true:=by simp;omega
   have hne2:(n != m)=true:=by simpa using h
   unfold maxLen at hn hm';clear hr hm hn' h hC hL;have HB:=hh_ hb0;clear hb0;go_enter Tryz.func44,Tryz.ntmps44;go_wp2_with fail
   go_ret;exact⟨rfl,HB.out⟩
end Go.Proofs.YtainiaighnjpfaaGreatDoor
set_option linter.unusedSimpArgs false
namespace Go.Ms
theorem qPn {L:List Sc} (h:qAs L=0):∀t∈L,scOk t.1 t.2=true:=by
 cases L with
 |nil=>intro t ht;simp at ht
 |cons s l=>exact(qGj h).2.1
theorem qTr {L:List Sc} {p q:Nat} (h1:1≤p) (h2:p≤q) (h3:q≤L.length):(L.getD (p-1) zSc::(L.drop p).take (q-p)).getLast (by simp)=L.getD (q-1) zSc:=by
 rw[List.getLast_eq_getElem];have hlen:(L.getD (p-1) zSc::(L.drop p).take (q-p)).length=q-p+1:=by simp;omega
 have key:(L.getD (p-1) zSc::(L.drop p).take (q-p))[q-p]?=some (L.getD (q-1) zSc):=by
  by_cases e:q=p
  · subst e;simp
  · rw[show q-p=(q-p-1)+1 by omega,List.getElem?_cons_succ,List.getElem?_take,if_pos (by omega),List.getElem?_drop,show p+(q-p-1)=q-1 by omega,List.getD_eq_getElem?_getD,List.getElem?_eq_getElem (by omega)];rfl
 obtain⟨h5,h6⟩:=List.getElem?_eq_some_iff.1 key;rw[←h6];congr 1
 omega
open Go.RowKit Go.Lib
structure SRef where
  a:Option Addr
  n:Nat
  c:Nat
  b:Option Addr
  m:Nat
  d:Nat
structure qBv (W:World) (B:Nat) (r:SRef) (s:Sc):Prop where
  n:r.n=s.1.length
  m:r.m=s.2.length
  nn:r.n≤100000
  mm:r.m≤100000
  la:Lay W B r.a (colV s.1)
  lb:Lay W B r.b (intV s.2)
theorem qBv.to {W W':World} {r:SRef} {s:Sc} (h:qBv W W.heap.size r s) (hb:Below W.heap.size W W'):qBv W' W'.heap.size r s:=⟨h.n,h.m,h.nn,h.mm,(h.la.below hb).more hb.size,(h.lb.below hb).more hb.size⟩
theorem qBv.below {W W':World} {B:Nat} {r:SRef} {s:Sc} (h:qBv W B r s) (hb:Below B W W'):qBv W' B r s:=⟨h.n,h.m,h.nn,h.mm,h.la.below hb,h.lb.below hb⟩
theorem qBv.more {W:World} {B B':Nat} {r:SRef} {s:Sc} (h:qBv W B r s) (hb:B≤B'):qBv W B' r s:=⟨h.n,h.m,h.nn,h.mm,h.la.more hb,h.lb.more hb⟩
theorem qPo {s:Sc} (h:scOk s.1 s.2=true):qOs s.1∧∀c∈s.1,1≤c.1∧c.1≤1048576:=by
 have h1:=(qFy s.1 s.2).1 h;refine⟨zBo h1,fun c hc=>?_⟩;obtain⟨i,hi⟩:=List.getElem?_of_mem hc;exact h1.id i c hi
structure qIm (W:World) (C:Option Addr) (q:Nat) (r:List Cl):Prop where
  ql:q=r.length
  qq:q≤100000
  lay:Lay W W.heap.size C (rowV r)
  sz:∀c∈r,c.2.2.size≤100000
theorem qIm.to {W W':World} {C:Option Addr} {q:Nat} {r:List Cl} (h:qIm W C q r) (hb:Below W.heap.size W W'):qIm W' C q r:=⟨h.ql,h.qq,(h.lay.below hb).more hb.size,h.sz⟩
end Go.Ms
namespace Go.Proofs.YtainiaighnjpfaaGreatDoor
open Go.RowKit Go.Ms Go.Lib Go.Shelf Go.Rel
def qJq (w:World) (R:List Cl) (E:Int):Ending→World→Prop:=fun e w'=> ∃v,e=.returned (.tuple #[v,.int .i64 E])∧OwnC w' w.heap.size 43 v R∧Below w.heap.size w w'
end Go.Proofs.YtainiaighnjpfaaGreatDoor
