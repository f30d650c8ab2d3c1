/- A region that draws its order and ends in operations that wait for all others and for each other, one after the other. -/
import Derived.Test.YtainiaighnjpfaaGreatDoorZQaf
set_option linter.unusedVariables false
set_option linter.unusedSimpArgs false
namespace Go.Rel
open Go.Ms (br_ le_)
open Go Go.RowKit
def qGt (P:Program) (Q:Exit→Act→World→Prop):List Oper→Act→World→Prop
  |[],a,w=>Q .normal a w
  |o::r,a,w=>o.wp P a w (fun a w=>qGt P Q r a w) Q
def qJh (md:Region.Mode) (ops:Array Oper) (n:Nat):Bool:=(List.range n).all fun k=>(List.range (n+1)).any fun j=>decide (k<j)&&(match ops[j]? with
 |some o=>waitsFor md o k
 |none=>false)
def qSz (md:Region.Mode) (ops:Array Oper) (n m:Nat):Bool:=(List.range m).all fun j=>match ops[n+j]? with
 |some o=>o.guard.isNone&&(j==0||waitsFor md o (n+j-1))
 |none=>false
section
variable {P:Program} {md:Region.Mode} {ops:Array Oper} {a0:Act} {w0:World}
theorem qVe {Q:Exit→Act→World→Prop} (hg:qG3 md ops=true) (I:Array Bool→Act→World→Prop)
    (hstep:∀listed a w i o,listed.size=ops.size→ops[i]?=some o→listed.getD i true=false→(∀e∈o.after,Region.binds md e=true→listed.getD e.on false=true)→I listed a w→
      if qBk ops a.eval o=true then o.wp P a w (fun a' w'=>I (listed.setIfInBounds i true) a' w') Q else I (listed.setIfInBounds i true) (a.put o.dst undef) w)
    (hQ:∀listed a w,listed.size=ops.size→(∀i,i<ops.size→listed.getD i false=true)→I listed a w→Q .normal a w) :
    ∀(fuel:Nat) (listed:Array Bool) (a:Act) (w:World),listed.size=ops.size→left listed=fuel→I listed a w→wpAny P md ops Q fuel listed a w:=by
 intro fuel
 induction fuel with
 | zero=>
  intro listed a w hl h0 hI
  have hall:∀i,i<ops.size→listed.getD i false=true:=by
   intro i hi;have hil:i<listed.size:=by omega
   unfold left at h0;have:=List.countP_eq_zero.1 h0 (listed[i]) (Array.mem_toList_iff.2 (Array.getElem_mem hil));simp[hil]
   simpa using this
  refine⟨?_,hQ _ _ _ hl hall hI⟩;apply List.eq_nil_iff_forall_not_mem.2;intro j hj;obtain⟨h1,o,ho,_⟩:=mem_ready.1 hj;have hjl:=(Array.getElem?_eq_some_iff.1 ho).1;have:=hall j hjl;have hjl':j<listed.size:=by omega
  simp[hjl'] at h1 this;rw[h1] at this;cases this
 |succ fuel ih=>
  intro listed a w hl h0 hI;refine⟨fun hr=>?_,fun i hi=>?_⟩
  · exfalso
    have:∃i,i<ops.size∧listed.getD i false=false:=by
     unfold left at h0;have hpos:0<listed.toList.countP (· ==false):=by omega
     obtain⟨b,hb,hbf⟩:=List.countP_pos_iff.1 hpos;obtain⟨i,hi,hib⟩:=List.getElem_of_mem hb;have hil:i<listed.size:=by simpa using hi
     refine⟨i,by omega,?_⟩;have:listed[i]=b:=by simpa using hib
     simp[hil,this]
     simpa using hbf
    obtain⟨i,hi,hu⟩:=this;exact qQn hg hl hi hu hr
  · obtain⟨hu,o,ho,hdep⟩:=mem_ready.1 hi;have hil:i<listed.size:=by rw[hl];exact(Array.getElem?_eq_some_iff.1 ho).1
    have hs:=hstep listed a w i o hl ho hu hdep hI
    have hgo:∀a' w',I (listed.setIfInBounds i true) a' w'→wpAny P md ops Q fuel (listed.setIfInBounds i true) a' w':=fun a' w' h=>
     ih _ _ _ (by simpa using hl) (by have:=qIy hil hu;omega) h
    unfold wpOp;rw[ho];simp only;rw[qEr];split
    · rename_i hw
      rw[if_pos hw] at hs;exact .inl (Oper.wp_mono hgo hs)
    · rename_i hw
      rw[if_neg hw] at hs;exact hgo _ _ hs
structure InvL (md:Region.Mode) (ops:Array Oper) (n:Nat) (a0:Act) (w0:World) (prs:Nat→Value→World→Prop) (listed:Array Bool) (a:Act) (w:World):Prop where
  size:a.tmps.size=a0.tmps.size
  defers:a.defers=a0.defers
  base:∀t,(∀i,listed.getD i false=true→qAy ops i≠some t)→a.tmps[t]?=a0.tmps[t]?
  claim:∀i d,i<n→listed.getD i false=true→qAy ops i=some d→prs i (a.eval (.tmp d)) w
  bel:Below w0.heap.size w0 w
  none_:∀j,n≤j→listed.getD j false=false
  closed:∀i o,ops[i]?=some o→listed.getD i false=true→∀e∈o.after,Region.binds md e=true→listed.getD e.on false=true
theorem qJv {n:Nat} {o:Oper} (hc:qJh md ops n=true) (hn:ops[n]?=some o) {listed:Array Bool}
    (hcl:∀i o,ops[i]?=some o→listed.getD i false=true→∀e∈o.after,Region.binds md e=true→listed.getD e.on false=true)
    (hd:∀e∈o.after,Region.binds md e=true→listed.getD e.on false=true):∀m k,k<n→n-k≤m→listed.getD k false=true
  |0,k,hk,hm=>by omega
  | m+1,k,hk,hm=>by
   unfold qJh at hc;have h1:=List.all_eq_true.1 hc k (List.mem_range.2 hk);obtain⟨j,hj,h2⟩:=List.any_eq_true.1 h1;have hjn:j<n+1:=List.mem_range.1 hj;simp only[Bool.and_eq_true,decide_eq_true_eq] at h2;obtain⟨hkj,h3⟩:=h2
   cases hoj:ops[j]? with
   |none=>rw[hoj] at h3;cases h3
   |some oj=>
    rw[hoj] at h3;have h3:waitsFor md oj k=true:=h3;unfold waitsFor at h3;obtain⟨e,he,h4⟩:=List.any_eq_true.1 h3;simp only[Bool.and_eq_true,beq_iff_eq] at h4;have he':=Array.mem_toList_iff.1 he;rw[←h4.2];by_cases hjn2:j=n
    · subst hjn2;obtain rfl:o=oj:=Option.some.inj (hn.symm.trans hoj);exact hd e he' h4.1
    · exact hcl j oj hoj (qJv hc hn hcl hd m j (by omega) (by omega)) e he' h4.1
end
theorem qDc {P:Program} {id:Nat} {Q:Exit→Act→World→Prop} {l:List Oper} {o:Oper} {t:List Oper} (ps:List (Value→World→Prop)) {a0:Act} {w0:World} (hm:P.follows .mixedOrders=true)
    (hd:qT7 (l++o::t).toArray a0.tmps.size=true) (hg:qG3 .any (l++o::t).toArray=true) (hqd:l.all (fun o=>o.dst.isSome)=true)
    (hcov:qJh .any (l++o::t).toArray l.length=true) (hrow:qSz .any (l++o::t).toArray l.length (t.length+1)=true)
    (hgi:qG0 l.toArray=true) (hp:qDo P .any l.toArray a0 w0 (sel ps) 0 l)
    (hend:∀w,Below w0.heap.size w0 w→qAq (sel ps) w (fun a=>qGt P Q (o::t) a w) 0 l a0) :
    (Code.region id (l++o::t).toArray true).wp P Q a0 w0:=by
 refine wp_region_any hm ?_;generalize hops:(l++o::t).toArray=ops at *; have hsz:ops.size=l.length+(t.length+1):=by rw[←hops];simp
 have atl:∀k,k<l.length→ops[k]?=l[k]?:=fun k hk=>by rw[←hops];simp only[List.getElem?_toArray];rw[List.getElem?_append_left hk]
 have dsl:∀k,k<l.length→qAy l.toArray k=qAy ops k:=fun k hk=>by unfold qAy;rw[atl k hk];simp only[List.getElem?_toArray]
 have wl:∀(x:Oper) (k:Nat) (ev:Operand→Value),l[k]?=some x→qBk l.toArray ev x=qBk ops ev x:=fun x k ev hx=>by
  have hgx:=List.all_eq_true.1 hgi x (by simpa using List.mem_of_getElem? hx);unfold qBk Region.wanted
  cases hq:x.guard with
  |none=>rfl
  |some p=>
   obtain⟨g,b⟩:=p;rw[hq] at hgx;simp only[decide_eq_true_eq,List.size_toArray] at hgx;simp only;rw[dsl g hgx]
 have att:∀j,ops[l.length+j]?=(o::t)[j]?:=fun j=>by rw[←hops];simp only[List.getElem?_toArray];rw[List.getElem?_append_right (by omega)];congr 1;omega
 have hfin:∀listed a w,InvL .any ops l.length a0 w0 (sel ps) listed a w→(∀k,k<l.length→listed.getD k false=true)→qGt P Q (o::t) a w:=by
  intro listed a w hI hall;have h:=qDy (fun i=>match qAy ops i with|some d=>a.eval (.tmp d)|none=>undef) l 0 a0 (hend w hI.bel) (fun k hk=>?_)
  · have he : qJc (fun i=>match qAy ops i with|some d=>a.eval (.tmp d)|none=>undef) 0 l a0=a:=by
      obtain⟨h1,h2⟩:=qEk (fun i=>match qAy ops i with|some d=>a.eval (.tmp d)|none=>undef) l 0 a0;refine qLr ?_ (h2.trans hI.defers.symm);apply Array.ext_getElem?;intro x;by_cases hx:x<a0.tmps.size
      · refine qE7 _ x _ l 0 a0 hx (fun k o' hk hd'=>?_) ?_
        · have hkl:=(List.getElem?_eq_some_iff.1 hk).1;have hdk:qAy ops (0+k)=some x:=by unfold qAy;rw[Nat.zero_add,atl k hkl,hk];exact hd'
          rw[hdk];have hta:x<a.tmps.size:=by rw[hI.size];exact hx
          simp[Act.eval,hta]
        · by_cases hex:∃(k:Nat) (o':Oper),l[k]?=some o'∧o'.dst=some x
          · exact .inr hex
          · left;refine(hI.base x fun j hj hd'=>?_).symm;by_cases hjl:j<l.length
            · unfold qAy at hd';rw[atl j hjl] at hd'
              cases hoj:l[j]? with
              |none=>simp[hoj] at hd'
              |some oj=>exact hex ⟨j,oj,hoj,by simpa[hoj] using hd'⟩
            · rw[hI.none_ j (by omega)] at hj;cases hj
      · rw[Array.getElem?_eq_none (by rw[h1];omega),Array.getElem?_eq_none (by rw[hI.size];omega)]
    rw[he] at h;exact h
  · rw[Nat.zero_add];obtain⟨o',ho⟩:∃o,ops[k]?=some o:=⟨_,Array.getElem?_eq_getElem (by omega)⟩
    cases hdk:qAy ops k with
    |none=>
     exfalso;rw[atl k hk] at ho;have:=List.all_eq_true.1 hqd o' (List.mem_of_getElem? ho);unfold qAy at hdk;rw[atl k hk,ho] at hdk;have hdk:o'.dst=none:=hdk;rw[hdk] at this;cases this
    |some d=>exact hI.claim k d hk (hall k hk) hdk
 refine qVe hg (fun listed a w=>InvL .any ops l.length a0 w0 (sel ps) listed a w∨∃j,j≤t.length∧(∀k,k<l.length+(j+1)→listed.getD k false=true)∧(∀k,l.length+(j+1)≤k→listed.getD k false=false)∧qGt P Q (t.drop j) a w) ?_ ?_ _ _ _ _ (by simp) ?_ (.inl ⟨rfl,rfl,fun _ _=>rfl,fun i d _ hi=>absurd hi (qSy _ _),⟨rfl,rfl,rfl,Nat.le_refl _,fun _ _=>rfl⟩,fun j _=>?_,fun i o _ hi=>absurd hi (qSy _ _)⟩)
 · intro listed a w i oi hl ho hu hdep hI;have hul:=qXn hu;have his:=(Array.getElem?_eq_some_iff.1 ho).1;have hil:i<listed.size:=by rw[hl];exact his
   rcases hI with hI|⟨j,hj,h1,h2,h3⟩
   · by_cases hiq:i<l.length
     · -- one ahead of the tail
       have hq:l[i]?=some oi:=by rw[←atl i hiq];exact ho
       have hpr:=qFt l 0 hp i oi hq;rw[Nat.zero_add] at hpr
       have fin:∀v w',Below w.heap.size w w'→sel ps i v w'→InvL .any ops l.length a0 w0 (sel ps) (listed.setIfInBounds i true) (a.put oi.dst v) w':=fun v w' hb hv=>by
        have keep:∀t j,j≠i→qAy ops j=some t→(a.put oi.dst v).eval (.tmp t)=a.eval (.tmp t):=fun t j hj hjt=>by
         cases hd':oi.dst with
         |none=>rfl
         |some d=>
          have hdi:qAy ops i=some d:=by unfold qAy;rw[ho];exact hd'
          exact qF8 (fun e=>(qTv hd hdi).2 j hj (by rw[hjt,e]))
        refine⟨(size_put _ _ _).1.trans hI.size,(size_put _ _ _).2.trans hI.defers,qWb hil ho hI.base,fun j d hj hlj hjd=>?_,hI.bel.trans (hb.mono hI.bel.size),fun j hj=>?_,fun k ok hk hlk e he hbd=>?_⟩
        · by_cases hji:j=i
          · subst hji;have hod:oi.dst=some d:=by unfold qAy at hjd;rw[ho] at hjd;exact hjd
            rw[hod,eval_put_same (by rw[hI.size];exact(qTv hd hjd).1)];exact hv
          · rw[keep d j hji hjd];rw[qGs hji] at hlj;obtain⟨oj,hoj⟩:∃oj,l[j]?=some oj:=⟨_,List.getElem?_eq_getElem hj⟩;have hpj:=qFt l 0 hp j oj hoj;rw[Nat.zero_add] at hpj;exact hpj.1 _ _ _ (hI.claim j d hj hlj hjd) hb
        · rw[qGs (by omega)];exact hI.none_ j hj
        · by_cases hki:k=i
          · subst hki;obtain rfl:oi=ok:=Option.some.inj (ho.symm.trans hk);have:=hdep e he hbd;by_cases hei:e.on=k
            · rw[hei];exact qPw hil false
            · rw[qGs hei];exact this
          · rw[qGs hki] at hlk;have:=hI.closed k ok hk hlk e he hbd;by_cases hei:e.on=i
            · rw[hei];exact qPw hil false
            · rw[qGs hei];exact this
       have hwl:=wl oi i a.eval hq;have hprem:=hpr.2 a.eval w hI.bel (fun t ht=>?_) (fun _=>rfl) (fun _=>rfl) (fun _=>rfl) (fun k e hk hb d hd'=>?_)
       · rw[hwl] at hprem;split
         · rename_i hw
           rw[if_pos hw] at hprem;exact qJ8 (qD5 (fun v w' h=>.inl (fin v w' h.1 h.2)) hprem)
         · rename_i hw
           rw[if_neg hw] at hprem;exact .inl (fin _ _ br_ hprem)
       · have:=hI.base t fun j hj hd'=>by
           have hjl:j<l.length:=by
            by_cases hjl:j<l.length
            · exact hjl
            · rw[hI.none_ j (by omega)] at hj;cases hj
           rw[←dsl j hjl] at hd';rw[qI0 hd'] at ht;cases ht
         simp[Act.eval,this]
       · have he:=Array.mem_of_getElem? hk;have hlt:=qTw hg ho e he hb;rw[dsl e.on (by omega)] at hd';exact hI.claim e.on d (by omega) (hdep e he hb) hd'
     · -- the first of the tail
       have hin:i=l.length:=by
        by_cases hin:i=l.length
        · exact hin
        · exfalso;unfold qSz at hrow;have h1:=List.all_eq_true.1 hrow (i-l.length) (List.mem_range.2 (by omega));rw[show l.length+(i-l.length)=i by omega,ho] at h1;simp only[Bool.and_eq_true,Bool.or_eq_true,beq_iff_eq] at h1;rcases h1.2 with h2|h2
          · omega
          · unfold waitsFor at h2;obtain⟨e,he,h4⟩:=List.any_eq_true.1 h2;simp only[Bool.and_eq_true,beq_iff_eq] at h4;have:=hdep e (Array.mem_toList_iff.1 he) h4.1;rw[h4.2,hI.none_ _ (by omega)] at this;cases this
       subst hin;have hall:∀k,k<l.length→listed.getD k false=true:=fun k hk=>qJv hcov ho hI.closed hdep _ k hk le_
       have htl:=hfin listed a w hI hall;obtain rfl:o=oi:=by have:=att 0;rw[Nat.add_zero,ho] at this;exact(Option.some.inj this).symm
       have hgn:qBk ops a.eval o=true:=by
        unfold qSz at hrow;have h1:=List.all_eq_true.1 hrow 0 (List.mem_range.2 (by omega));rw[Nat.add_zero,ho] at h1;simp only[Bool.and_eq_true] at h1;unfold qBk Region.wanted
        cases hgo:o.guard with
        |none=>rfl
        |some g=>rw[hgo] at h1;simp at h1
       rw[if_pos hgn];refine Oper.wp_mono (fun a' w' h=>.inr ⟨0,by omega,fun k hk=>?_,fun k hk=>?_,h⟩) htl
       · by_cases hkl:k=l.length
         · subst hkl;exact qPw hil false
         · rw[qGs hkl];exact hall k (by omega)
       · rw[qGs (by omega)];exact hI.none_ k (by omega)
   · -- one of the tail
     have hin:i=l.length+(j+1):=by
      by_cases hlt:i<l.length+(j+1)
      · rw[h1 i hlt] at hul;cases hul
      · by_cases hin:i=l.length+(j+1)
        · exact hin
        · exfalso;unfold qSz at hrow;have h1':=List.all_eq_true.1 hrow (i-l.length) (List.mem_range.2 (by omega));rw[show l.length+(i-l.length)=i by omega,ho] at h1';simp only[Bool.and_eq_true,Bool.or_eq_true,beq_iff_eq] at h1';rcases h1'.2 with h4|h4
          · omega
          · unfold waitsFor at h4;obtain⟨e,he,h5⟩:=List.any_eq_true.1 h4;simp only[Bool.and_eq_true,beq_iff_eq] at h5;have:=hdep e (Array.mem_toList_iff.1 he) h5.1;rw[h5.2,h2 _ (by omega)] at this;cases this
     have hoi:t[j]?=some oi:=by have:=att (j+1);rw[←hin,ho] at this;simpa using this.symm
     have hjt:=(List.getElem?_eq_some_iff.1 hoi).1
     have hdr:t.drop j=oi::t.drop (j+1):=by
      rw[List.drop_eq_getElem_cons hjt,(List.getElem?_eq_some_iff.1 hoi).2]
     rw[hdr] at h3
     have hgn:qBk ops a.eval oi=true:=by
      unfold qSz at hrow;have h1':=List.all_eq_true.1 hrow (j+1) (List.mem_range.2 (by omega));rw[←hin,ho] at h1';simp only[Bool.and_eq_true] at h1';unfold qBk Region.wanted
      cases hgo:oi.guard with
      |none=>rfl
      |some g=>rw[hgo] at h1';simp at h1'
     rw[if_pos hgn];refine Oper.wp_mono (fun a' w' h=>.inr ⟨j+1,by omega,fun k hk=>?_,fun k hk=>?_,h⟩) h3
     · by_cases hki:k=i
       · subst hki;exact qPw hil false
       · rw[qGs hki];exact h1 k (by omega)
     · rw[qGs (by omega)];exact h2 k (by omega)
 · intro listed a w hl hall hI;rcases hI with hI|⟨j,hj,h1,h2,h3⟩
   · have h4:=hall l.length (by omega);rw[hI.none_ _ le_] at h4;cases h4
   · have hjt:j=t.length:=by
       by_cases hjt:j=t.length
       · exact hjt
       · have h4:=hall (l.length+(j+1)) (by omega);rw[h2 _ le_] at h4;cases h4
     subst hjt;rw[List.drop_length] at h3;exact h3
 · unfold left;rw[Array.toList_replicate,List.countP_replicate];simp
 · cases h:(Array.replicate ops.size false).getD j false with
  |false=>rfl
  |true=>exact absurd h (qSy _ _)
end Go.Rel
