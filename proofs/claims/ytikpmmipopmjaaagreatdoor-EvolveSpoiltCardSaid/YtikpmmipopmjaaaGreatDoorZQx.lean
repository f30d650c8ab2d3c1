/- A region that draws its order, whose last operation waits for all others: as XRel's rule, the last one carried out behind it. A region that draws its order, reads, and fills two new boxes: q, then two new boxes, then a store into each. A region that draws its order and ends in operations that wait for all others and for each other, one after the other. Schemas that follow each other, plainly: a row that is moved is a row of the later columns, and has the same key. Schemas that follow each other, plainly: as the package asks it. -/
import Derived.Test.YtikpmmipopmjaaaGreatDoorZQp
import Derived.Test.YtikpmmipopmjaaaGreatDoorZQw
import Derived.Test.YtikpmmipopmjaaaGreatDoorZQj
set_option linter.unusedVariables false
set_option linter.unusedSimpArgs false
namespace Go.Rel
open Go Go.RowKit
def qEw (l:Array Oper):Bool:=l.toList.all fun o=>match o.guard with
 |none=>true
 |some (g,_)=>decide (g<l.size)
def qGs (md:Region.Mode) (n:Nat) (o:Oper):Bool:=((List.range n).all fun k=>o.after.toList.any fun e=>Region.binds md e&&e.on==k)&&o.after.toList.all fun e=> !Region.binds md e||decide (e.on<n)
section
variable {P:Program} {md:Region.Mode} {l:Array Oper} {a0:Act} {w0:World} {prs:Nat→Value→World→Prop} {o:Oper}
theorem qOt (tmps:Array Value) {g:Nat} (hg:g<l.size):yielded (l.push o) tmps g=yielded l tmps g:=by
 unfold yielded;rw[Array.getElem?_push_lt hg,Array.getElem?_eq_getElem hg]
theorem qKe {x:Oper} {i:Nat} (hgi:qEw l=true) (hx:l[i]?=some x) (a:Act):Region.wanted x (yielded (l.push o) a.tmps)=qAv l a.eval x:=by
 rw[←qFu];unfold qEw at hgi;have:=List.all_eq_true.1 hgi x (Array.mem_toList_iff.2 (Array.mem_of_getElem? hx));unfold Region.wanted
 cases hq:x.guard with
 |none=>rfl
 |some p=>
  obtain⟨g,b⟩:=p;rw[hq] at this;simp only[decide_eq_true_eq] at this
  simp only
  rw[qOt _ this]
theorem qBv {listed:Array Bool} {i:Nat} {b d:Bool} (hi:i<listed.size):(listed.push b).getD i d=listed.getD i d:=by
 simp[Array.getElem?_push_lt hi,hi]
theorem qNd {listed:Array Bool} {i:Nat} {b:Bool} (hi:i<listed.size):(listed.push b).setIfInBounds i true=(listed.setIfInBounds i true).push b:=by
 apply Array.ext_getElem?
 intro j
 by_cases hj:j=i
 · subst hj;rw[Array.getElem?_setIfInBounds_self_of_lt (by simp;omega),Array.getElem?_push_lt (by simpa using hi)]
   simp[hi]
 · rw[Array.getElem?_setIfInBounds_ne (fun e=>hj e.symm)]
   by_cases hjl:j<listed.size
   · rw[Array.getElem?_push_lt hjl,Array.getElem?_push_lt (by simpa using hjl)];rw[←Array.getElem?_eq_getElem,←Array.getElem?_eq_getElem,Array.getElem?_setIfInBounds_ne (fun e=>hj e.symm)]
   · have hne:i≠j:=fun e=>hj e.symm
     simp[Array.getElem?_push,Array.getElem?_setIfInBounds_ne hne]
theorem qNx (hg:good md l a0.tmps.size=true) (hgi:qEw l=true) (hw:qGs md l.size o=true) (hno:o.guard=none) (hp:∀k x,l[k]?=some x→Prem P md l a0 w0 prs k x) {Q:Exit→Act→World→Prop}
    (hQ:∀(listed:Array Bool) a w,(∀i,i<l.size→listed.getD i false=true)→Inv (ops:=l) (a0:=a0) (w0:=w0) (prs:=prs) listed a w→o.wp P a w (fun a w=>Q .normal a w) Q) :
    ∀(fuel:Nat) (listed:Array Bool) (a:Act) (w:World),listed.size=l.size→left listed=fuel→Inv (ops:=l) (a0:=a0) (w0:=w0) (prs:=prs) listed a w→wpAny P md (l.push o) Q (fuel+1) (listed.push false) a w:=by
 unfold qGs at hw;simp only[Bool.and_eq_true] at hw
 have hon:∀e∈o.after,Region.binds md e=true→e.on<l.size:=fun e he hb=>by
  have:=List.all_eq_true.1 hw.2 e (Array.mem_toList_iff.2 he)
  simpa[hb] using this
 have hwa:∀k,k<l.size→∃e∈o.after,Region.binds md e=true∧e.on=k:=fun k hk=>by
  have:=List.all_eq_true.1 hw.1 k (List.mem_range.2 hk);obtain⟨e,he,h2⟩:=List.any_eq_true.1 this;simp only[Bool.and_eq_true,beq_iff_eq] at h2;exact⟨e,Array.mem_toList_iff.1 he,h2⟩
 intro fuel
 induction fuel with
 | zero=>
  intro listed a w hl h0 hI
  have hall:∀i,i<l.size→listed.getD i false=true:=by
   intro i hi
   have hil:i<listed.size:=by omega
   unfold left at h0;have:=List.countP_eq_zero.1 h0 (listed[i]) (Array.mem_toList_iff.2 (Array.getElem_mem hil))
   simp[hil]
   simpa using this
  have hn:(l.push o)[l.size]?=some o:=by simp
  have hend:∀j,j≤l.size→((listed.push false).setIfInBounds l.size true).getD j false=true:=by
   intro j hj
   rw[qBn (by simp;omega)]
   by_cases hjn:j=l.size
   · exact .inl hjn
   · exact .inr (by rw[qBv (by omega)];exact hall j (by omega))
  refine⟨fun hr=>?_,fun i hi=>?_⟩
  · exfalso
    have:l.size∈Region.ready md (l.push o) (listed.push false):=by
     rw[mem_ready];refine⟨by rw[←hl];simp,o,hn,fun e he hb=>?_⟩;have h2:=hon e he hb;rw[qBv (by omega)];exact hall _ h2
    rw[hr] at this
    cases this
  · obtain⟨hu,x,hx,hdep⟩:=mem_ready.1 hi
    have hin:i=l.size:=by
     have h1:=(Array.getElem?_eq_some_iff.1 hx).1;rw[Array.size_push] at h1
     by_cases h2:i<l.size
     · exfalso
       have h3:=hall i h2;rw[qBv (by omega)] at hu
       have hil:i<listed.size:=by omega
       simp[hil] at hu h3
       rw[h3] at hu
       cases hu
     · omega
    subst hin;unfold wpOp;rw[hn]
    simp only
    rw[if_pos (by unfold Region.wanted;rw[hno])];refine .inl (Oper.wp_mono (fun a w h=>⟨?_,h⟩) (hQ listed a w hall hI))
    apply List.eq_nil_iff_forall_not_mem.2
    intro j hj
    obtain⟨h1,y,hy,_⟩:=mem_ready.1 hj;have hjl:=(Array.getElem?_eq_some_iff.1 hy).1;rw[Array.size_push] at hjl;have h2:=hend j (by omega)
    have hjs:j<((listed.push false).setIfInBounds l.size true).size:=by simp;omega
    simp only[Array.getD_eq_getD_getElem?,Array.getElem?_eq_getElem hjs,Option.getD_some] at h1 h2;rw[h1] at h2
    cases h2
 | succ fuel ih=>
  intro listed a w hl h0 hI
  obtain⟨u,hul,huf⟩:∃i,i<l.size∧listed.getD i false=false:=by
   unfold left at h0
   have hpos:0<listed.toList.countP (· ==false):=by omega
   obtain⟨b,hb,hbf⟩:=List.countP_pos_iff.1 hpos;obtain⟨i,hi,hib⟩:=List.getElem_of_mem hb
   have hil:i<listed.size:=by simpa using hi
   refine⟨i,by omega,?_⟩
   have:listed[i]=b:=by simpa using hib
   simp[hil,this]
   simpa using hbf
  refine⟨fun hr=>?_,fun i hi=>?_⟩
  · exfalso
    have h1:=qGr hg hl hul huf;obtain⟨j,hj⟩:=List.exists_mem_of_ne_nil _ h1;obtain⟨h2,x,hx,hd⟩:=mem_ready.1 hj;have hjl:=(Array.getElem?_eq_some_iff.1 hx).1
    have:j∈Region.ready md (l.push o) (listed.push false):=by
     rw[mem_ready];refine⟨by rw[qBv (by omega)];exact h2,x,by rw[Array.getElem?_push_lt hjl];rw[Array.getElem?_eq_getElem hjl] at hx;exact hx,fun e he hb=>?_⟩;obtain⟨_,_,_,_,hlt⟩:=qD9 hg hx;have:=hlt e he hb;rw[qBv (by omega)];exact hd e he hb
    rw[hr] at this
    cases this
  · obtain⟨hu,x,hx,hdep⟩:=mem_ready.1 hi;have hxs:=(Array.getElem?_eq_some_iff.1 hx).1;rw[Array.size_push] at hxs
    have hil:i<l.size:=by
     by_cases h2:i<l.size
     · exact h2
     · exfalso
       have hin:i=l.size:=by omega
       subst hin
       have hxo:x=o:=by
        have:(l.push o)[l.size]?=some o:=by simp
        rw[this] at hx;exact(Option.some.inj hx).symm
       subst hxo;obtain⟨e,he,hb,hek⟩:=hwa u hul;have h3:=hdep e he hb;rw[hek,qBv (by omega),huf] at h3
       cases h3
    have hx':l[i]?=some x:=by rw[Array.getElem?_push_lt hil] at hx;rw[Array.getElem?_eq_getElem hil];exact hx
    have hils:i<listed.size:=by omega
    have hu':listed.getD i true=false:=by rw[qBv hils] at hu;exact hu
    have hstep:∀v w',Below w.heap.size w w'→prs i v w'→wpAny P md (l.push o) Q (fuel+1) ((listed.push false).setIfInBounds i true) (a.put x.dst v) w':=fun v w' hb hv=>by
     rw[qNd hils];exact ih _ _ _ (by simpa using hl) (by have:=qG2 hils hu';omega) (Inv.put hg (fun k o h=>(hp k o h).1) hl hx' hI hb hv)
    have hprem:=(hp i x hx').2 a.eval w hI.bel (fun t ht=>?_) (fun _=>rfl) (fun _=>rfl) (fun _=>rfl) (fun k e hk hb d hd=>hI.claim e.on d (by
      have he:=Array.mem_of_getElem? hk;obtain⟨_,_,_,_,hlt⟩:=qD9 hg hx';have h4:=hdep e he hb;rw[qBv (by have:=hlt e he hb;omega)] at h4
      exact h4) hd)
    · unfold wpOp;rw[hx]
      simp only
      rw[qKe hgi hx']
      split
      · rename_i hw'
        rw[if_pos hw'] at hprem;exact .inl (qD3 (qCm (fun v w' h=>hstep v w' h.1 h.2) hprem))
      · rename_i hw'
        rw[if_neg hw'] at hprem;exact hstep _ _ (Below.refl _ _) hprem
    · have:=hI.base t fun j _ hd=>by rw[qG0 hd] at ht;cases ht
      simp[Act.eval,this]
end
theorem qDt {P:Program} {id:Nat} {Q:Exit→Act→World→Prop} {l:List Oper} {o:Oper} (ps:List (Value→World→Prop)) {a0:Act} {w0:World} (hm:P.follows .mixedOrders=true) (hg:good .any l.toArray a0.tmps.size=true)
    (hgi:qEw l.toArray=true) (hw:qGs .any l.toArray.size o=true) (hno:o.guard=none)
    (hp:qHd P .any l.toArray a0 w0 (sel ps) 0 l) (hend:∀w,Below w0.heap.size w0 w→qAq (sel ps) w (fun a=>o.wp P a w (fun a w=>Q .normal a w) Q) 0 l a0):(Code.region id (l.toArray.push o) true).wp P Q a0 w0:=by
 refine wp_region_any hm ?_
 have hpa:∀k o,l.toArray[k]?=some o→Prem P .any l.toArray a0 w0 (sel ps) k o:=fun k o h=>by
  have:=qEx l 0 hp k o (by simpa using h)
  rwa [Nat.zero_add] at this
 have hrep:Array.replicate (l.toArray.push o).size false=(Array.replicate l.toArray.size false).push false:=by
  rw[Array.size_push];exact Array.replicate_succ
 have hfuel:(l.toArray.push o).size=l.toArray.size+1:=Array.size_push _;rw[hrep,hfuel];refine qNx hg hgi hw hno hpa (fun listed a w hall hI=>?_) _ _ _ _ (by simp) ?_ ⟨rfl,rfl,fun _ _=>rfl,fun i d hi=>?_,⟨rfl,rfl,rfl,Nat.le_refl _,fun _ _=>rfl⟩⟩
 · have h := qC2 (fun i=>match qAn l.toArray i with|some d=>a.eval (.tmp d)|none=>undef) l 0 a0 (hend w hI.bel) (fun k hk=>?_)
   · have he :qIe (fun i=>match qAn l.toArray i with|some d=>a.eval (.tmp d)|none=>undef) 0 l a0=a:=by
       obtain⟨h1,h2⟩:=qDp (fun i=>match qAn l.toArray i with|some d=>a.eval (.tmp d)|none=>undef) l 0 a0;refine qId ?_ (h2.trans hI.defers.symm)
       apply Array.ext_getElem?
       intro t
       by_cases ht:t<a0.tmps.size
       · refine qEr _ t _ l 0 a0 ht (fun k o hk hd=>?_) ?_
         · have hdk:qAn l.toArray (0+k)=some t:=by unfold qAn;rw[Nat.zero_add];simp[hk,hd]
           rw[hdk]
           have hta:t<a.tmps.size:=by rw[hI.size];exact ht
           simp[Act.eval,hta]
         · by_cases hex:∃(k:Nat) (o:Oper),l[k]?=some o∧o.dst=some t
           · exact .inr hex
           · left
             refine(hI.base t fun j _ hd=>hex ?_).symm;unfold qAn at hd
             cases hoj:l.toArray[j]? with
             |none=>simp[hoj] at hd
             |some oj=>exact⟨j,oj,by simpa using hoj,by simpa[hoj] using hd⟩
       · rw[Array.getElem?_eq_none (by rw[h1];omega),Array.getElem?_eq_none (by rw[hI.size];omega)]
     rw[he] at h;exact h
   · rw[Nat.zero_add];obtain⟨o,ho⟩:∃o,l.toArray[k]?=some o:=⟨_,Array.getElem?_eq_getElem (by simpa using hk)⟩;obtain⟨d,hd,_⟩:=qD9 hg ho
     have hdk:qAn l.toArray k=some d:=by unfold qAn;rw[ho];exact hd
     have:=hI.claim k d (hall k (by simpa using hk)) hdk;simp only[hdk];exact this
 · unfold left;rw[Array.toList_replicate,List.countP_replicate]
   simp
 · exfalso
   have h2:(Array.replicate l.toArray.size false).getD i false=false:=by
    by_cases h:i<l.length
    · simp[h]
    · simp[h]
   rw[h2] at hi
   cases hi
end Go.Rel
set_option linter.unusedSimpArgs false
namespace Go.Rel
open Go Go.RowKit
def qGu (md:Region.Mode) (ops:Array Oper):Bool:=(List.range ops.size).all fun i=>match ops[i]? with
 |none=>true
 |some o=>o.after.toList.all fun e=> !Region.binds md e||decide (e.on<i)
def qRd (ops:Array Oper) (n:Nat):Bool:=(List.range ops.size).all fun i=>match qAn ops i with
 |none=>true
 |some d=>decide (d<n)&&(List.range ops.size).all fun j=>j==i||qAn ops j != some d
def waitsFor (md:Region.Mode) (o:Oper) (k:Nat):Bool:=o.after.toList.any fun e=>Region.binds md e&&e.on==k
section
variable {P:Program} {md:Region.Mode} {ops:Array Oper} {a0:Act} {w0:World}
theorem qPt (h:qGu md ops=true) {i:Nat} {o:Oper} (hi:ops[i]?=some o):∀e∈o.after,Region.binds md e=true→e.on<i:=fun e he hb=>by
 unfold qGu at h;have:=List.all_eq_true.1 h i (List.mem_range.2 (Array.getElem?_eq_some_iff.1 hi).1);rw[hi] at this;have:=List.all_eq_true.1 this e (Array.mem_toList_iff.2 he)
 simpa[hb] using this
theorem qZc {i:Nat} {d:Tmp} (h:qAn ops i=some d):i<ops.size:=by
 unfold qAn at h
 cases ho:ops[i]? with
 |none=>simp[ho] at h
 |some o=>exact(Array.getElem?_eq_some_iff.1 ho).1
theorem qHf (h:qRd ops a0.tmps.size=true) {i:Nat} {d:Tmp} (hi:qAn ops i=some d):d<a0.tmps.size∧∀j,j≠i→qAn ops j≠some d:=by
 unfold qRd at h;have:=List.all_eq_true.1 h i (List.mem_range.2 (qZc hi));rw[hi] at this;simp only[Bool.and_eq_true,decide_eq_true_eq] at this;refine⟨this.1,fun j hj hdj=>?_⟩;have:=List.all_eq_true.1 this.2 j (List.mem_range.2 (qZc hdj))
 simp[hj,hdj] at this
theorem qR8 (hg:qGu md ops=true) {listed:Array Bool} (hl:listed.size=ops.size) {i:Nat} (hi:i<ops.size) (hu:listed.getD i false=false):Region.ready md ops listed≠[]:=by
 obtain ⟨m,hm,hmin⟩:∃m,(m<ops.size∧listed.getD m false=false)∧∀j,j<m→listed.getD j false=true:=by
  have:∀n,(∃k,k≤n∧k<ops.size∧listed.getD k false=false)→∃m,(m<ops.size∧listed.getD m false=false)∧∀j,j<m→listed.getD j false=true:=by
   intro n
   induction n with
   |zero=>
    rintro⟨k,hk,h1,h2⟩
    obtain rfl:k=0:=by omega
    exact⟨0,⟨h1,h2⟩,fun j hj=>by omega⟩
   |succ n ih=>
    rintro⟨k,hk,h1,h2⟩
    by_cases hex:∃k,k≤n∧k<ops.size∧listed.getD k false=false
    · exact ih hex
    · have hkn:k=n+1:=by
        by_cases hkn:k≤n
        · exact absurd ⟨k,hkn,h1,h2⟩ hex
        · omega
      refine⟨k,⟨h1,h2⟩,fun j hj=>?_⟩
      cases hjv:listed.getD j false with
      |true=>rfl
      |false=>exact absurd ⟨j,by omega,by omega,hjv⟩ hex
  exact this i ⟨i,Nat.le_refl _,hi,hu⟩
 intro h
 obtain⟨o,ho⟩:∃o,ops[m]?=some o:=⟨_,Array.getElem?_eq_getElem hm.1⟩
 have:m∈Region.ready md ops listed:=by
  rw[mem_ready];refine⟨?_,o,ho,fun e he hb=>hmin _ (qPt hg ho e he hb)⟩;have:=hm.2
  have hml:m<listed.size:=by rw[hl];exact hm.1
  simp[hml] at this ⊢
  exact this
 rw[h] at this
 cases this
theorem qCl {listed:Array Bool} {i j:Nat} (h:j≠i) (b:Bool):(listed.setIfInBounds i true).getD j b=listed.getD j b:=by
 have:i≠j:=fun e=>h e.symm
 simp[Array.getElem?_setIfInBounds_ne this]
theorem qI7 {listed:Array Bool} {i:Nat} (h:i<listed.size) (b:Bool):(listed.setIfInBounds i true).getD i b=true:=by simp[h]
theorem qQy {listed:Array Bool} {i:Nat} (h:listed.getD i true=false):listed.getD i false=false:=by
 by_cases hi:i<listed.size
 · simp[hi] at h ⊢;exact h
 · simp[hi] at h
theorem qQw {listed:Array Bool} {a:Act} {i:Nat} {o:Oper} {v:Value} (hil:i<listed.size) (ho:ops[i]?=some o) (h:∀t,(∀i,listed.getD i false=true→qAn ops i≠some t)→a.tmps[t]?=a0.tmps[t]?) :
    ∀t,(∀j,(listed.setIfInBounds i true).getD j false=true→qAn ops j≠some t)→(a.put o.dst v).tmps[t]?=a0.tmps[t]?:=fun t ht=>by
 have h0:=h t fun j hj=>ht j ((qBn hil).2 (.inr hj))
 cases hd:o.dst with
 |none=>exact h0
 |some d=>
  have h1:d≠t:=fun e=>ht i ((qBn hil).2 (.inl rfl)) (by unfold qAn;rw[ho];simp[hd,e])
  rw[←h0]
  simp[Act.put,Array.getElem?_setIfInBounds_ne h1]
theorem size_put (a:Act) (d:Option Tmp) (v:Value):(a.put d v).tmps.size=a.tmps.size∧(a.put d v).defers=a.defers:=by
 cases d <;> simp[Act.put]
end
end Go.Rel
namespace Go.Rel
open Go Go.RowKit
section
variable {P:Program} {md:Region.Mode} {ops:Array Oper} {a0:Act} {w0:World}
end
end Go.Rel
namespace Go.Rel
open Go Go.RowKit
theorem qH6 (n i:Nat):¬(Array.replicate n false).getD i false=true:=by
 by_cases h:i<n
 · simp[h]
 · simp[h]
end Go.Rel
set_option linter.unusedSimpArgs false
namespace Go.Rel
open Go Go.RowKit
def qGp (P:Program) (Q:Exit→Act→World→Prop):List Oper→Act→World→Prop
  |[],a,w=>Q .normal a w
  |o::r,a,w=>o.wp P a w (fun a w=>qGp P Q r a w) Q
def qHv (md:Region.Mode) (ops:Array Oper) (n:Nat):Bool:=(List.range n).all fun k=>(List.range (n+1)).any fun j=>decide (k<j)&&(match ops[j]? with
 |some o=>waitsFor md o k
 |none=>false)
def qLl (md:Region.Mode) (ops:Array Oper) (n m:Nat):Bool:=(List.range m).all fun j=>match ops[n+j]? with
 |some o=>o.guard.isNone&&(j==0||waitsFor md o (n+j-1))
 |none=>false
section
variable {P:Program} {md:Region.Mode} {ops:Array Oper} {a0:Act} {w0:World}
theorem qQ2 {Q:Exit→Act→World→Prop} (hg:qGu md ops=true) (I:Array Bool→Act→World→Prop)
    (hstep:∀listed a w i o,listed.size=ops.size→ops[i]?=some o→listed.getD i true=false→(∀e∈o.after,Region.binds md e=true→listed.getD e.on false=true)→I listed a w→
      if qAv ops a.eval o=true then o.wp P a w (fun a' w'=>I (listed.setIfInBounds i true) a' w') Q else I (listed.setIfInBounds i true) (a.put o.dst undef) w)
    (hQ:∀listed a w,listed.size=ops.size→(∀i,i<ops.size→listed.getD i false=true)→I listed a w→Q .normal a w) :
    ∀(fuel:Nat) (listed:Array Bool) (a:Act) (w:World),listed.size=ops.size→left listed=fuel→I listed a w→wpAny P md ops Q fuel listed a w:=by
 intro fuel
 induction fuel with
 | zero=>
  intro listed a w hl h0 hI
  have hall:∀i,i<ops.size→listed.getD i false=true:=by
   intro i hi
   have hil:i<listed.size:=by omega
   unfold left at h0;have:=List.countP_eq_zero.1 h0 (listed[i]) (Array.mem_toList_iff.2 (Array.getElem_mem hil))
   simp[hil]
   simpa using this
  refine⟨?_,hQ _ _ _ hl hall hI⟩
  apply List.eq_nil_iff_forall_not_mem.2
  intro j hj
  obtain⟨h1,o,ho,_⟩:=mem_ready.1 hj;have hjl:=(Array.getElem?_eq_some_iff.1 ho).1;have:=hall j hjl
  have hjl':j<listed.size:=by omega
  simp[hjl'] at h1 this
  rw[h1] at this
  cases this
 |succ fuel ih=>
  intro listed a w hl h0 hI
  refine⟨fun hr=>?_,fun i hi=>?_⟩
  · exfalso
    have:∃i,i<ops.size∧listed.getD i false=false:=by
     unfold left at h0
     have hpos:0<listed.toList.countP (· ==false):=by omega
     obtain⟨b,hb,hbf⟩:=List.countP_pos_iff.1 hpos;obtain⟨i,hi,hib⟩:=List.getElem_of_mem hb
     have hil:i<listed.size:=by simpa using hi
     refine⟨i,by omega,?_⟩
     have:listed[i]=b:=by simpa using hib
     simp[hil,this]
     simpa using hbf
    obtain⟨i,hi,hu⟩:=this;exact qR8 hg hl hi hu hr
  · obtain⟨hu,o,ho,hdep⟩:=mem_ready.1 hi
    have hil:i<listed.size:=by rw[hl];exact(Array.getElem?_eq_some_iff.1 ho).1
    have hs:=hstep listed a w i o hl ho hu hdep hI
    have hgo:∀a' w',I (listed.setIfInBounds i true) a' w'→wpAny P md ops Q fuel (listed.setIfInBounds i true) a' w':=fun a' w' h=>
     ih _ _ _ (by simpa using hl) (by have:=qG2 hil hu;omega) h
    unfold wpOp;rw[ho]
    simp only
    rw[qFu]
    split
    · rename_i hw
      rw[if_pos hw] at hs;exact .inl (Oper.wp_mono hgo hs)
    · rename_i hw
      rw[if_neg hw] at hs;exact hgo _ _ hs
structure InvL (md:Region.Mode) (ops:Array Oper) (n:Nat) (a0:Act) (w0:World) (prs:Nat→Value→World→Prop) (listed:Array Bool) (a:Act) (w:World):Prop where
  size:a.tmps.size=a0.tmps.size
  defers:a.defers=a0.defers
  base:∀t,(∀i,listed.getD i false=true→qAn ops i≠some t)→a.tmps[t]?=a0.tmps[t]?
  claim:∀i d,i<n→listed.getD i false=true→qAn ops i=some d→prs i (a.eval (.tmp d)) w
  bel:Below w0.heap.size w0 w
  none_:∀j,n≤j→listed.getD j false=false
  closed:∀i o,ops[i]?=some o→listed.getD i false=true→∀e∈o.after,Region.binds md e=true→listed.getD e.on false=true
theorem qHk {n:Nat} {o:Oper} (hc:qHv md ops n=true) (hn:ops[n]?=some o) {listed:Array Bool}
    (hcl:∀i o,ops[i]?=some o→listed.getD i false=true→∀e∈o.after,Region.binds md e=true→listed.getD e.on false=true)
    (hd:∀e∈o.after,Region.binds md e=true→listed.getD e.on false=true):∀m k,k<n→n-k≤m→listed.getD k false=true
  |0,k,hk,hm=>by omega
  | m+1,k,hk,hm=>by
   unfold qHv at hc;have h1:=List.all_eq_true.1 hc k (List.mem_range.2 hk);obtain⟨j,hj,h2⟩:=List.any_eq_true.1 h1;have hjn:j<n+1:=List.mem_range.1 hj;simp only[Bool.and_eq_true,decide_eq_true_eq] at h2;obtain⟨hkj,h3⟩:=h2
   cases hoj:ops[j]? with
   |none=>rw[hoj] at h3;cases h3
   |some oj=>
    rw[hoj] at h3;have h3:waitsFor md oj k=true:=h3;unfold waitsFor at h3;obtain⟨e,he,h4⟩:=List.any_eq_true.1 h3;simp only[Bool.and_eq_true,beq_iff_eq] at h4;have he':=Array.mem_toList_iff.1 he;rw[←h4.2]
    by_cases hjn2:j=n
    · subst hjn2;obtain rfl:o=oj:=Option.some.inj (hn.symm.trans hoj);exact hd e he' h4.1
    · exact hcl j oj hoj (qHk hc hn hcl hd m j (by omega) (by omega)) e he' h4.1
end
theorem qDy {P:Program} {id:Nat} {Q:Exit→Act→World→Prop} {l:List Oper} {o:Oper} {t:List Oper} (ps:List (Value→World→Prop)) {a0:Act} {w0:World} (hm:P.follows .mixedOrders=true)
    (hd:qRd (l++o::t).toArray a0.tmps.size=true) (hg:qGu .any (l++o::t).toArray=true) (hqd:l.all (fun o=>o.dst.isSome)=true)
    (hcov:qHv .any (l++o::t).toArray l.length=true) (hrow:qLl .any (l++o::t).toArray l.length (t.length+1)=true)
    (hgi:qEw l.toArray=true) (hp:qHd P .any l.toArray a0 w0 (sel ps) 0 l)
    (hend:∀w,Below w0.heap.size w0 w→qAq (sel ps) w (fun a=>qGp P Q (o::t) a w) 0 l a0) :
    (Code.region id (l++o::t).toArray true).wp P Q a0 w0:=by
 refine wp_region_any hm ?_
 generalize hops:(l++o::t).toArray=ops at *
 have hsz:ops.size=l.length+(t.length+1):=by rw[←hops];simp
 have atl:∀k,k<l.length→ops[k]?=l[k]?:=fun k hk=>by rw[←hops];simp only[List.getElem?_toArray];rw[List.getElem?_append_left hk]
 have dsl:∀k,k<l.length→qAn l.toArray k=qAn ops k:=fun k hk=>by unfold qAn;rw[atl k hk];simp only[List.getElem?_toArray]
 have wl:∀(x:Oper) (k:Nat) (ev:Operand→Value),l[k]?=some x→qAv l.toArray ev x=qAv ops ev x:=fun x k ev hx=>by
  have hgx:=List.all_eq_true.1 hgi x (by simpa using List.mem_of_getElem? hx);unfold qAv Region.wanted
  cases hq:x.guard with
  |none=>rfl
  |some p=>
   obtain⟨g,b⟩:=p;rw[hq] at hgx;simp only[decide_eq_true_eq,List.size_toArray] at hgx
   simp only
   rw[dsl g hgx]
 have att:∀j,ops[l.length+j]?=(o::t)[j]?:=fun j=>by rw[←hops];simp only[List.getElem?_toArray];rw[List.getElem?_append_right (by omega)];congr 1;omega
 have hfin:∀listed a w,InvL .any ops l.length a0 w0 (sel ps) listed a w→(∀k,k<l.length→listed.getD k false=true)→qGp P Q (o::t) a w:=by
  intro listed a w hI hall
  have h:=qC2 (fun i=>match qAn ops i with|some d=>a.eval (.tmp d)|none=>undef) l 0 a0 (hend w hI.bel) (fun k hk=>?_)
  · have he : qIe (fun i=>match qAn ops i with|some d=>a.eval (.tmp d)|none=>undef) 0 l a0=a:=by
      obtain⟨h1,h2⟩:=qDp (fun i=>match qAn ops i with|some d=>a.eval (.tmp d)|none=>undef) l 0 a0;refine qId ?_ (h2.trans hI.defers.symm)
      apply Array.ext_getElem?
      intro x
      by_cases hx:x<a0.tmps.size
      · refine qEr _ x _ l 0 a0 hx (fun k o' hk hd'=>?_) ?_
        · have hkl:=(List.getElem?_eq_some_iff.1 hk).1
          have hdk:qAn ops (0+k)=some x:=by unfold qAn;rw[Nat.zero_add,atl k hkl,hk];exact hd'
          rw[hdk]
          have hta:x<a.tmps.size:=by rw[hI.size];exact hx
          simp[Act.eval,hta]
        · by_cases hex:∃(k:Nat) (o':Oper),l[k]?=some o'∧o'.dst=some x
          · exact .inr hex
          · left
            refine(hI.base x fun j hj hd'=>?_).symm
            by_cases hjl:j<l.length
            · unfold qAn at hd';rw[atl j hjl] at hd'
              cases hoj:l[j]? with
              |none=>simp[hoj] at hd'
              |some oj=>exact hex ⟨j,oj,hoj,by simpa[hoj] using hd'⟩
            · rw[hI.none_ j (by omega)] at hj;cases hj
      · rw[Array.getElem?_eq_none (by rw[h1];omega),Array.getElem?_eq_none (by rw[hI.size];omega)]
    rw[he] at h;exact h
  · rw[Nat.zero_add];obtain⟨o',ho⟩:∃o,ops[k]?=some o:=⟨_,Array.getElem?_eq_getElem (by omega)⟩
    cases hdk:qAn ops k with
    |none=>
     exfalso
     rw[atl k hk] at ho;have:=List.all_eq_true.1 hqd o' (List.mem_of_getElem? ho);unfold qAn at hdk;rw[atl k hk,ho] at hdk;have hdk:o'.dst=none:=hdk;rw[hdk] at this
     cases this
    |some d=>exact hI.claim k d hk (hall k hk) hdk
 refine qQ2 hg (fun listed a w=>InvL .any ops l.length a0 w0 (sel ps) listed a w∨∃j,j≤t.length∧(∀k,k<l.length+(j+1)→listed.getD k false=true)∧(∀k,l.length+(j+1)≤k→listed.getD k false=false)∧qGp P Q (t.drop j) a w) ?_ ?_ _ _ _ _ (by simp) ?_ (.inl ⟨rfl,rfl,fun _ _=>rfl,fun i d _ hi=>absurd hi (qH6 _ _),⟨rfl,rfl,rfl,Nat.le_refl _,fun _ _=>rfl⟩,fun j _=>?_,fun i o _ hi=>absurd hi (qH6 _ _)⟩)
 · intro listed a w i oi hl ho hu hdep hI
   have hul:=qQy hu;have his:=(Array.getElem?_eq_some_iff.1 ho).1
   have hil:i<listed.size:=by rw[hl];exact his
   rcases hI with hI|⟨j,hj,h1,h2,h3⟩
   · by_cases hiq:i<l.length
     · -- one ahead of the tail
       have hq:l[i]?=some oi:=by rw[←atl i hiq];exact ho
       have hpr:=qEx l 0 hp i oi hq;rw[Nat.zero_add] at hpr
       have fin:∀v w',Below w.heap.size w w'→sel ps i v w'→InvL .any ops l.length a0 w0 (sel ps) (listed.setIfInBounds i true) (a.put oi.dst v) w':=fun v w' hb hv=>by
        have keep:∀t j,j≠i→qAn ops j=some t→(a.put oi.dst v).eval (.tmp t)=a.eval (.tmp t):=fun t j hj hjt=>by
         cases hd':oi.dst with
         |none=>rfl
         |some d=>
          have hdi:qAn ops i=some d:=by unfold qAn;rw[ho];exact hd'
          exact qCx (fun e=>(qHf hd hdi).2 j hj (by rw[hjt,e]))
        refine⟨(size_put _ _ _).1.trans hI.size,(size_put _ _ _).2.trans hI.defers,qQw hil ho hI.base,fun j d hj hlj hjd=>?_,hI.bel.trans (hb.mono hI.bel.size),fun j hj=>?_,fun k ok hk hlk e he hbd=>?_⟩
        · by_cases hji:j=i
          · subst hji
            have hod:oi.dst=some d:=by unfold qAn at hjd;rw[ho] at hjd;exact hjd
            rw[hod,eval_put_same (by rw[hI.size];exact(qHf hd hjd).1)];exact hv
          · rw[keep d j hji hjd];rw[qCl hji] at hlj;obtain⟨oj,hoj⟩:∃oj,l[j]?=some oj:=⟨_,List.getElem?_eq_getElem hj⟩;have hpj:=qEx l 0 hp j oj hoj;rw[Nat.zero_add] at hpj;exact hpj.1 _ _ _ (hI.claim j d hj hlj hjd) hb
        · rw[qCl (by omega)];exact hI.none_ j hj
        · by_cases hki:k=i
          · subst hki;obtain rfl:oi=ok:=Option.some.inj (ho.symm.trans hk);have:=hdep e he hbd
            by_cases hei:e.on=k
            · rw[hei];exact qI7 hil false
            · rw[qCl hei];exact this
          · rw[qCl hki] at hlk;have:=hI.closed k ok hk hlk e he hbd
            by_cases hei:e.on=i
            · rw[hei];exact qI7 hil false
            · rw[qCl hei];exact this
       have hwl:=wl oi i a.eval hq;have hprem:=hpr.2 a.eval w hI.bel (fun t ht=>?_) (fun _=>rfl) (fun _=>rfl) (fun _=>rfl) (fun k e hk hb d hd'=>?_)
       · rw[hwl] at hprem
         split
         · rename_i hw
           rw[if_pos hw] at hprem;exact qD3 (qCm (fun v w' h=>.inl (fin v w' h.1 h.2)) hprem)
         · rename_i hw
           rw[if_neg hw] at hprem;exact .inl (fin _ _ (Below.refl _ _) hprem)
       · have:=hI.base t fun j hj hd'=>by
           have hjl:j<l.length:=by
            by_cases hjl:j<l.length
            · exact hjl
            · rw[hI.none_ j (by omega)] at hj;cases hj
           rw[←dsl j hjl] at hd';rw[qG0 hd'] at ht
           cases ht
         simp[Act.eval,this]
       · have he:=Array.mem_of_getElem? hk;have hlt:=qPt hg ho e he hb;rw[dsl e.on (by omega)] at hd';exact hI.claim e.on d (by omega) (hdep e he hb) hd'
     · -- the first of the tail
       have hin:i=l.length:=by
        by_cases hin:i=l.length
        · exact hin
        · exfalso
          unfold qLl at hrow;have h1:=List.all_eq_true.1 hrow (i-l.length) (List.mem_range.2 (by omega));rw[show l.length+(i-l.length)=i by omega,ho] at h1;simp only[Bool.and_eq_true,Bool.or_eq_true,beq_iff_eq] at h1
          rcases h1.2 with h2|h2
          · omega
          · unfold waitsFor at h2;obtain⟨e,he,h4⟩:=List.any_eq_true.1 h2;simp only[Bool.and_eq_true,beq_iff_eq] at h4;have:=hdep e (Array.mem_toList_iff.1 he) h4.1;rw[h4.2,hI.none_ _ (by omega)] at this
            cases this
       subst hin
       have hall:∀k,k<l.length→listed.getD k false=true:=fun k hk=>qHk hcov ho hI.closed hdep _ k hk (Nat.le_refl _)
       have htl:=hfin listed a w hI hall
       obtain rfl:o=oi:=by have:=att 0;rw[Nat.add_zero,ho] at this;exact(Option.some.inj this).symm
       have hgn:qAv ops a.eval o=true:=by
        unfold qLl at hrow;have h1:=List.all_eq_true.1 hrow 0 (List.mem_range.2 (by omega));rw[Nat.add_zero,ho] at h1;simp only[Bool.and_eq_true] at h1;unfold qAv Region.wanted
        cases hgo:o.guard with
        |none=>rfl
        |some g=>rw[hgo] at h1;simp at h1
       rw[if_pos hgn];refine Oper.wp_mono (fun a' w' h=>.inr ⟨0,by omega,fun k hk=>?_,fun k hk=>?_,h⟩) htl
       · by_cases hkl:k=l.length
         · subst hkl;exact qI7 hil false
         · rw[qCl hkl];exact hall k (by omega)
       · rw[qCl (by omega)];exact hI.none_ k (by omega)
   · -- one of the tail
     have hin:i=l.length+(j+1):=by
      by_cases hlt:i<l.length+(j+1)
      · rw[h1 i hlt] at hul;cases hul
      · by_cases hin:i=l.length+(j+1)
        · exact hin
        · exfalso
          unfold qLl at hrow;have h1':=List.all_eq_true.1 hrow (i-l.length) (List.mem_range.2 (by omega));rw[show l.length+(i-l.length)=i by omega,ho] at h1';simp only[Bool.and_eq_true,Bool.or_eq_true,beq_iff_eq] at h1'
          rcases h1'.2 with h4|h4
          · omega
          · unfold waitsFor at h4;obtain⟨e,he,h5⟩:=List.any_eq_true.1 h4;simp only[Bool.and_eq_true,beq_iff_eq] at h5;have:=hdep e (Array.mem_toList_iff.1 he) h5.1;rw[h5.2,h2 _ (by omega)] at this
            cases this
     have hoi:t[j]?=some oi:=by have:=att (j+1);rw[←hin,ho] at this;simpa using this.symm
     have hjt:=(List.getElem?_eq_some_iff.1 hoi).1
     have hdr:t.drop j=oi::t.drop (j+1):=by
      rw[List.drop_eq_getElem_cons hjt,(List.getElem?_eq_some_iff.1 hoi).2]
     rw[hdr] at h3
     have hgn:qAv ops a.eval oi=true:=by
      unfold qLl at hrow;have h1':=List.all_eq_true.1 hrow (j+1) (List.mem_range.2 (by omega));rw[←hin,ho] at h1';simp only[Bool.and_eq_true] at h1';unfold qAv Region.wanted
      cases hgo:oi.guard with
      |none=>rfl
      |some g=>rw[hgo] at h1';simp at h1'
     rw[if_pos hgn];refine Oper.wp_mono (fun a' w' h=>.inr ⟨j+1,by omega,fun k hk=>?_,fun k hk=>?_,h⟩) h3
     · by_cases hki:k=i
       · subst hki;exact qI7 hil false
       · rw[qCl hki];exact h1 k (by omega)
     · rw[qCl (by omega)];exact h2 k (by omega)
 · intro listed a w hl hall hI
   rcases hI with hI|⟨j,hj,h1,h2,h3⟩
   · have h4:=hall l.length (by omega);rw[hI.none_ _ (Nat.le_refl _)] at h4
     cases h4
   · have hjt:j=t.length:=by
       by_cases hjt:j=t.length
       · exact hjt
       · have h4:=hall (l.length+(j+1)) (by omega);rw[h2 _ (Nat.le_refl _)] at h4
         cases h4
     subst hjt;rw[List.drop_length] at h3;exact h3
 · unfold left;rw[Array.toList_replicate,List.countP_replicate]
   simp
 · cases h:(Array.replicate ops.size false).getD j false with
  |false=>rfl
  |true=>exact absurd h (qH6 _ _)
end Go.Rel
set_option linter.unusedSimpArgs false
namespace Go.Ms
theorem qKu {u nu:Bool} {n:Int} {s:Bs} (h:qAt 2 u nu n s=0):qAt 3 u nu n s=0:=by
 have h1:=(qGy h).2;unfold qAt;rw[if_pos (by decide)]
 have:kOk 3 u nu n s=true:=by
  unfold kOk at *
  split
  · rename_i e;rw[if_pos e] at h1;exact h1
  · rename_i e
    rw[if_neg e] at h1;unfold kIs at *
    simp at *
    exact⟨⟨h1.1.1,by omega⟩,by omega⟩
 rw[if_pos this]
theorem qUs {a b:Co} (h:qBj a b=true):a.2.2.1=b.2.2.1∨(a.2.2.1.1=2∧b.2.2.1.1=3∧a.2.2.1.2=b.2.2.1.2):=by
 unfold qBj at h;simp only[Bool.and_eq_true,Bool.or_eq_true,decide_eq_true_eq,beq_iff_eq] at h
 rcases h.2 with h2|h2
 · exact .inl (Prod.ext h2 h.1.2)
 · exact .inr ⟨h2.1,h2.2,h.1.2⟩
theorem qE0 {ts:List Ty} {cs:List Cl} (h:qBx ts cs=0):ts.length=cs.length∧qCk ts cs=0:=by
 unfold qBx at h
 split at h
 · exact⟨by assumption,h⟩
 · omega
theorem qC9 (cs:List Co):(qC0 cs).length=cs.length:=by unfold qC0;rw[List.length_map]
def qDi (c:Co):Co:=(c.1,c.2.1,(3,c.2.2.1.2),c.2.2.2)
end Go.Ms
set_option linter.unusedSimpArgs false
namespace Go.Ms
def evAs (c:Co):Co:=if c.2.2.1.1=2 then qDi c else c
theorem qZ9 {c d:Co} (h:c.1=d.1):(decide (evAs c=evAs d)&& !(decide (c.2.2.1.1=3)&&decide (d.2.2.1.1=2)))=qBj c d:=by
 obtain⟨i,nm,⟨k,u⟩,df⟩:=c;obtain⟨j,nm',⟨k',u'⟩,df'⟩:=d;simp only at h;subst h;rw[Bool.eq_iff_iff];unfold evAs qBj qDi;simp only[Bool.and_eq_true,Bool.or_eq_true,Bool.not_eq_true',Bool.and_eq_false_iff,decide_eq_true_eq,decide_eq_false_iff_not,beq_iff_eq]
 by_cases h1:k=2
 · by_cases h2:k'=2
   · rw[if_pos h1,if_pos h2];simp only[Prod.mk.injEq,true_and]
     constructor
     · rintro⟨⟨a,b,c⟩,_⟩;exact⟨⟨⟨a,c⟩,b⟩,.inl (h1.trans h2.symm)⟩
     · rintro⟨⟨⟨a,c⟩,b⟩,_⟩;exact⟨⟨a,b,c⟩,.inl (by omega)⟩
   · rw[if_pos h1,if_neg h2];simp only[Prod.mk.injEq,true_and]
     constructor
     · rintro⟨⟨a,⟨e,b⟩,c⟩,_⟩;exact⟨⟨⟨a,c⟩,b⟩,.inr ⟨h1,e.symm⟩⟩
     · rintro⟨⟨⟨a,c⟩,b⟩,e⟩;exact⟨⟨a,⟨by omega,b⟩,c⟩,.inl (by omega)⟩
 · by_cases h2:k'=2
   · rw[if_neg h1,if_pos h2];simp only[Prod.mk.injEq,true_and]
     constructor
     · rintro⟨⟨a,⟨e,b⟩,c⟩,n⟩;omega
     · rintro⟨⟨⟨a,c⟩,b⟩,e⟩;omega
   · rw[if_neg h1,if_neg h2];simp only[Prod.mk.injEq,true_and]
     constructor
     · rintro⟨⟨a,⟨e,b⟩,c⟩,n⟩;exact⟨⟨⟨a,c⟩,b⟩,.inl e⟩
     · rintro⟨⟨⟨a,c⟩,b⟩,e⟩;exact⟨⟨a,⟨by omega,b⟩,c⟩,.inr h2⟩
theorem qVq (cs:List Co) (c:Co):qA7 (cs++[c])=c.1:=by unfold qA7;simp
def qHl (a:List Co) (r:List Cl) (i:Nat) (id:Int):Option Cl:=match evAt (a.take i) id with
 |some k=>some (r.getD k zCl)
 |none=>none
theorem qYe (a:List Co) (r:List Cl) (id:Int):qHl a r 0 id=none:=by unfold qHl;simp[evAt]
theorem qWs {a:List Co} (hu:qKy a) {r:List Cl} {i:Nat} {c:Co} (h:a[i]?=some c) (id:Int):qHl a r (i+1) id=if id=c.1 then some (r.getD i zCl) else qHl a r i id:=by
 have hut:qKy (a.take (i+1)):=fun j q x y hq hx hy=>by
  rw[List.getElem?_take] at hx hy
  split at hx
  · split at hy
    · exact hu j q x y hq hx hy
    · cases hy
  · cases hx
 have hl:=(List.getElem?_eq_some_iff.1 h).1
 have hat:(a.take (i+1))[i]?=some c:=by rw[List.getElem?_take,if_pos (by omega)];exact h
 unfold qHl
 by_cases e:id=c.1
 · rw[if_pos e,e,qIj hut hat]
 · rw[if_neg e]
   have:evAt (a.take (i+1)) id=evAt (a.take i) id:=by
    rw[List.take_add_one,h];unfold evAt;rw[List.findIdx?_append]
    have hn:([c]:List Co).findIdx? (fun c=>decide (c.1=id))=none:=by
     rw[List.findIdx?_eq_none_iff]
     intro x hx
     obtain rfl:=List.mem_singleton.1 hx
     simpa using fun e'=>e e'.symm
    simp only[Option.toList_some,hn,Option.map_none,Option.or_none]
   rw[this]
theorem zAb {a:List Co} {r:List Cl} (id:Int):qHl a r a.length id=match evAt a id with
    |some k=>some (r.getD k zCl)
    |none=>none:=by unfold qHl;rw[List.take_length]
end Go.Ms
