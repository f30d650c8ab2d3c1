/- Schemas: kinds' words, and where a word stands. A region that draws its order and only reads, makes memory of its own and calls what does so: what each operation leaves, shown once, holds in every order. A drawn region, further: an operation that is not carried out. -/
import Derived.Test.YtainiaighnjpfaaGreatDoorZQo
import Derived.Orders
set_option linter.unusedVariables false
set_option linter.unusedSimpArgs false
namespace Go.Ms
open Go.RowKit Go.Lib
def strV (l:List ByteArray):List Value:=l.map Value.string
theorem Lay.strs {w:World} {B:Nat} {A:Option Addr} {l:List ByteArray} {i:Nat} {p:ByteArray} (h:Lay w B A (strV l)) (hi:l[i]?=some p) :
    ∃g o,A=some ⟨g,o,none⟩∧g<B∧w.cell? ⟨g,o+i,none⟩=some (.string p):=by
 have h1:(strV l)[i]?=some (.string p):=by simp[strV,hi]
 have hl:i<l.length:=(List.getElem?_eq_some_iff.1 hi).1;obtain⟨g,o,e,hb,hc⟩:=h.some_ (by simp[strV];omega);exact⟨g,o,e,hb,hc _ _ h1⟩
theorem qUx (s t:ByteArray):(s.toList==t.toList)=decide (s=t):=by
 rw[Lib.toList_data,Lib.toList_data];by_cases h:s=t
 · subst h;simp
 · rw[decide_eq_false h,beq_eq_false_iff_ne];intro e;apply h;cases s;cases t;simp only[Array.toList_inj] at e;rw[e]
end Go.Ms
namespace Go.Proofs.YtainiaighnjpfaaGreatDoor
open Go.RowKit Go.Ms Go.Lib
theorem qSh (w:World):Calls Tryz.prog 126 #[] w fun e w'=>e=.returned (.slice (some ⟨w.heap.size,0,none⟩) 6 6)∧w.alloc (.cells (strV qJ3).toArray 9)=w':=by
 go_enter Tryz.func126,Tryz.ntmps126;go_wp2_with fail
 go_ret;exact⟨rfl,rfl⟩
set_option maxRecDepth 100000 in
set_option maxHeartbeats 1000000 in
theorem qQx (w:World) (A:Option Addr) (n cap:Nat) (l:List ByteArray) (S:ByteArray) (hn':n≤maxLen) (hn:n=l.length) (hA:Lay w w.heap.size A (strV l)) :
    Calls Tryz.prog 125 #[.slice A n cap,.string S] w fun e w'=>e=.returned (.int .i64 (idxL (fun t=>decide (S=t)) l))∧Below w.heap.size w w':=by
 unfold maxLen at hn';have HA:=hh_ hA;have HN:=hh_ hn;clear hA hn;go_enter Tryz.func125,Tryz.ntmps125;go_wp2_with fail
 go_loopw [8] (fun id wr=> ∃k:Nat,k≤n∧id=.int .i64 k∧Below w.heap.size w wr∧∀(j:Nat) x,j<k→l[j]?=some x→(fun t=>decide (S=t)) x=false) (fun id _=>n-(RowKit.intOf id).toNat)
 case atStart=>exact⟨0,by omega,rfl,Below.refl _ _,fun j c h=>absurd h (by omega)⟩
 case round=>
  obtain⟨k,hk,rfl,hb,hp⟩:=hrel;have HP:=hh_ hp;clear hp;by_cases hlk:k<n
  · have hki:(k:Int)<n:=by omega
    obtain⟨x,hx⟩:∃x,l[k]?=some x:=⟨_,List.getElem?_eq_getElem (by rw[←HN.out];omega)⟩;obtain⟨g,o,rfl,hg,h1⟩:=HA.out.strs hx;have g1:=(hb.cell hg).trans h1;have hq:=qUx S x;have HX:=hh_ hx;have HB:=hh_ hb;clear hx hb h1
    cases hpx:decide (S=x) with
    |true=>
     have HR:=hh_ (qMn (p:=fun t=>decide (S=t)) HX.out HP.out hpx);rw[hpx] at hq;clear hpx;go_wp2_with fail
     go_ret;exact⟨congrArg (fun i=>Ending.returned (.int .i64 i)) HR.out.symm,HB.out⟩
    | false=>
     have HPX:=hh_ hpx;rw[hpx] at hq;clear hpx;go_wp2_with fail
     go_roundw
     case rel=>
      refine⟨k+1,by omega,by go_num,HB.out,fun j y hj hy=>?_⟩;by_cases e:j=k
      · subst e;rw[HX.out] at hy;cases hy;exact HPX.out
      · exact HP.out j y (by omega) hy
     case measure=>simp[RowKit.intOf];omega
  · have hki:¬(k:Int)<n:=by omega
    have HR:=hh_ (qG9 (p:=fun t=>decide (S=t)) (l:=l) (fun j x hx=>HP.out j x (by have:=(List.getElem?_eq_some_iff.1 hx).1;have:=HN.out;omega) hx));have HB:=hh_ hb;clear hb;go_wp2_with fail
    go_ret;exact⟨congrArg (fun i=>Ending.returned (.int .i64 i)) HR.out.symm,HB.out⟩
end Go.Proofs.YtainiaighnjpfaaGreatDoor
namespace Go.Rel
open Go Go.RowKit
def qB8 (P:Program) (K:Value→World→Prop):Result Next→Prop
  | .ok (.value v) w'=>K v w'
  | .ok .skip w'=>K undef w'
  | .ok (.enter f args) w'=>Calls P f args w' fun e w''=> ∃v,e=.returned v∧K v w''
  |_=>False
def qAy (ops:Array Oper) (i:Nat):Option Tmp:=(ops[i]?).bind (·.dst)
def qOf (ops:Array Oper) (t:Tmp):Bool:=ops.toList.any fun o=>o.dst==some t
def qBk (ops:Array Oper) (ev:Operand→Value) (o:Oper):Bool:=
  Region.wanted o fun j=>match qAy ops j with
   |some d=>(match ev (.tmp d) with| .bool b=>some b|_=>none)
   |none=>none
def good (md:Region.Mode) (ops:Array Oper) (n:Nat):Bool:=
  (List.range ops.size).all fun i=>match ops[i]? with
   |none=>true
   |some o=>(match o.dst with
    |some d=>decide (d<n)&&(List.range ops.size).all fun j=>j==i||qAy ops j != some d
    |none=>false)&&o.after.toList.all fun e=> !Region.binds md e||decide (e.on<i)
section
variable (P:Program) (md:Region.Mode) (ops:Array Oper) (a0:Act) (w0:World) (prs:Nat→Value→World→Prop)
def Prem (i:Nat) (o:Oper):Prop:=
  (∀v w w',prs i v w→Below w.heap.size w w'→prs i v w')∧
  ∀ (ev:Operand→Value) (w:World),Below w0.heap.size w0 w→(∀(t:Tmp),qOf ops t=false→ev (.tmp t)=a0.eval (.tmp t))→(∀v,ev (.const v)=v)→(∀f,ev (.func f)=.func (.func f) #[] #[])→(∀g,ev (.global g)=.pointer (some ⟨g,0,none⟩))→
    (∀(k:Nat) (e:Edge),o.after[k]?=some e→Region.binds md e=true→∀d,qAy ops e.on=some d→prs e.on (ev (.tmp d)) w)→
    if qBk ops ev o=true then qB8 P (fun v w'=>Below w.heap.size w w'∧prs i v w') ((execOp ev o).run P w) else prs i undef w
def qDo:Nat→List Oper→Prop
  |_,[]=>True
  |i,o::rest=>Prem P md ops a0 w0 prs i o∧qDo (i+1) rest
def qAq (w:World) (K:Act→Prop):Nat→List Oper→Act→Prop
  |_,[],a=>K a
  |i,o::rest,a=> ∀v,prs i v w→qAq w K (i+1) rest (a.put o.dst v)
variable {P md ops a0 w0 prs} {o:Oper}
theorem qFt:∀(l:List Oper) (i:Nat),qDo P md ops a0 w0 prs i l→∀k o,l[k]?=some o→Prem P md ops a0 w0 prs (i+k) o
  |[],_,_,k,o,h=>by simp at h
  |o::r,i,h,0,o',h'=>by
   have h':o=o':=by simpa using h'
   subst h';exact h.1
  |o::r,i,h,k+1,o',h'=>by
   have:=qFt r (i+1) h.2 k o' (by simpa using h')
   rwa [show i+(k+1)=i+1+k by omega]
structure Inv (listed:Array Bool) (a:Act) (w:World):Prop where
  size:a.tmps.size=a0.tmps.size
  defers:a.defers=a0.defers
  base:∀t,(∀i,listed.getD i false=true→qAy ops i≠some t)→a.tmps[t]?=a0.tmps[t]?
  claim:∀i d,listed.getD i false=true→qAy ops i=some d→prs i (a.eval (.tmp d)) w
  bel:Below w0.heap.size w0 w
theorem qI0 {t:Tmp} {i:Nat} (h:qAy ops i=some t):qOf ops t=true:=by
 unfold qAy at h
 cases ho:ops[i]? with
 |none=>simp[ho] at h
 |some o=>
  simp[ho] at h;unfold qOf;rw[List.any_eq_true];exact⟨o,Array.mem_toList_iff.2 (Array.mem_of_getElem? ho),by simp[h]⟩
theorem qGc (hg:good md ops a0.tmps.size=true) {i:Nat} {o:Oper} (hi:ops[i]?=some o) :
    ∃d,o.dst=some d∧d<a0.tmps.size∧(∀j,j≠i→qAy ops j≠some d)∧∀e∈o.after,Region.binds md e=true→e.on<i:=by
 have hlt:i<ops.size:=(Array.getElem?_eq_some_iff.1 hi).1;unfold good at hg;have:=List.all_eq_true.1 hg i (List.mem_range.2 hlt);rw[hi] at this;simp only[Bool.and_eq_true] at this;obtain⟨h1,h2⟩:=this
 cases hd:o.dst with
 |none=>rw[hd] at h1;cases h1
 |some d=>
  rw[hd] at h1;simp only[Bool.and_eq_true,decide_eq_true_eq] at h1;refine⟨d,rfl,h1.1,fun j hj hdj=>?_,fun e he hb=>?_⟩
  · have hjl:j<ops.size:=by
      unfold qAy at hdj
      cases hoj:ops[j]? with
      |none=>simp[hoj] at hdj
      |some oj=>exact(Array.getElem?_eq_some_iff.1 hoj).1
    have:=List.all_eq_true.1 h1.2 j (List.mem_range.2 hjl);simp[hj,hdj] at this
  · have:=List.all_eq_true.1 h2 e (Array.mem_toList_iff.2 he)
    simpa[hb] using this
theorem eval_put_same {a:Act} {d:Tmp} {v:Value} (h:d<a.tmps.size):(a.put (some d) v).eval (.tmp d)=v:=by
 simp[Act.put,Act.eval,h]
theorem qF8 {a:Act} {d t:Tmp} {v:Value} (h:d≠t):(a.put (some d) v).eval (.tmp t)=a.eval (.tmp t):=by
 simp[Act.put,Act.eval,Array.getElem?_setIfInBounds_ne h]
theorem qDq {listed:Array Bool} {i j:Nat} (hi:i<listed.size):(listed.setIfInBounds i true).getD j false=true↔j=i∨listed.getD j false=true:=by
 by_cases h:j=i
 · subst h;simp[hi]
 · have:i≠j:=fun e=>h e.symm
   simp[Array.getElem?_setIfInBounds_ne this,h]
theorem Inv.put {listed:Array Bool} {a:Act} {w w':World} {i:Nat} {o:Oper} {v:Value} (hg:good md ops a0.tmps.size=true) (hst:∀k o,ops[k]?=some o→∀v w w',prs k v w→Below w.heap.size w w'→prs k v w') (hl:listed.size=ops.size) (hi:ops[i]?=some o) (h:Inv (ops:=ops) (a0:=a0) (w0:=w0) (prs:=prs) listed a w)
    (hb:Below w.heap.size w w') (hp:prs i v w'):Inv (ops:=ops) (a0:=a0) (w0:=w0) (prs:=prs) (listed.setIfInBounds i true) (a.put o.dst v) w':=by
 obtain⟨d,hd,hdl,hdis,_⟩:=qGc hg hi;have hil:i<listed.size:=by rw[hl];exact(Array.getElem?_eq_some_iff.1 hi).1
 have hdi:qAy ops i=some d:=by unfold qAy;rw[hi];exact hd
 rw[hd];refine⟨by simp[Act.put,h.size],h.defers,fun t ht=>?_,fun j e hj he=>?_,h.bel.trans (hb.mono h.bel.size)⟩
 · have h1:d≠t:=fun e=>ht i ((qDq hil).2 (.inl rfl)) (by rw[hdi,e])
   rw[←h.base t fun j hj=>ht j ((qDq hil).2 (.inr hj))];simp[Act.put,Array.getElem?_setIfInBounds_ne h1]
 · by_cases hji:j=i
   · subst hji;rw[hdi] at he;cases he;rw[eval_put_same (by rw[h.size];exact hdl)];exact hp
   · have hde:d≠e:=fun x=>hdis j hji (by rw[he,x])
     rw[qF8 hde];have hlj:=((qDq hil).1 hj).resolve_left hji
     obtain⟨oj,hoj⟩:∃oj,ops[j]?=some oj:=by
      unfold qAy at he
      cases hoj:ops[j]? with
      |none=>simp[hoj] at he
      |some oj=>exact⟨oj,rfl⟩
     exact hst j oj hoj _ _ _ (h.claim j e hlj he) hb
theorem qEr {a:Act} {o:Oper}:Region.wanted o (yielded ops a.tmps)=qBk ops a.eval o:=by
 unfold qBk Region.wanted
 cases o.guard with
 |none=>rfl
 | some g=>
  obtain⟨j,b⟩:=g;show(yielded ops a.tmps j==some b)=_
  congr 1
  unfold yielded;show(match (qAy ops j).bind (a.tmps[·]?) with|some (.bool b)=>some b|_=>none)=_
  cases hdj:qAy ops j with
  |none=>simp[hdj]
  |some d=>
   simp only[hdj];show(match a.tmps[d]? with|some (.bool b)=>some b|_=>none)=(match a.eval (.tmp d) with| .bool b=>some b|_=>none)
   have:a.eval (.tmp d)=(a.tmps[d]?).getD undef:=by simp[Act.eval]
   rw[this]
   cases a.tmps[d]? with
   |none=>rfl
   |some v=>cases v <;> rfl
theorem qJ8 {o:Oper} {a:Act} {w:World} {K:Act→World→Prop} {Q:Exit→Act→World→Prop} (h:qB8 P (fun v w'=>K (a.put o.dst v) w') ((execOp a.eval o).run P w)):o.wp P a w K Q:=by
 unfold Oper.wp;generalize (execOp a.eval o).run P w=r at *
 cases r with
 |ok n w'=>
  cases n <;> simp only[qB8] at h <;> simp only[Oper.upon]
  case enter f args=>exact Calls.mono h fun e w'' ⟨v,he,hk⟩=>by subst he;exact hk
  all_goals exact h
 |halt x w'=>cases x <;> simp only[qB8] at h
theorem qD5 {K K':Value→World→Prop} (hk:∀v w,K v w→K' v w) {r:Result Next} (h:qB8 P K r):qB8 P K' r:=by
 cases r with
 |ok n w'=>
  cases n <;> simp only[qB8] at h ⊢
  case enter f args=>exact Calls.mono h fun e w'' ⟨v,he,h1⟩=>⟨v,he,hk _ _ h1⟩
  all_goals exact hk _ _ h
 |halt x w'=>cases x <;> simp only[qB8] at h
theorem qHx (hg:good md ops a0.tmps.size=true) {listed:Array Bool} (hl:listed.size=ops.size) {i:Nat} (hi:i<ops.size) (hu:listed.getD i false=false):Region.ready md ops listed≠[]:=by
 obtain ⟨m,hm,hmin⟩:∃m,(m<ops.size∧listed.getD m false=false)∧∀j,j<m→listed.getD j false=true:=by
  have:∀n,(∃k,k≤n∧k<ops.size∧listed.getD k false=false)→∃m,(m<ops.size∧listed.getD m false=false)∧∀j,j<m→listed.getD j false=true:=by
   intro n
   induction n with
   |zero=>
    rintro⟨k,hk,h1,h2⟩;obtain rfl:k=0:=by omega
    exact⟨0,⟨h1,h2⟩,fun j hj=>by omega⟩
   |succ n ih=>
    rintro⟨k,hk,h1,h2⟩;by_cases hex:∃k,k≤n∧k<ops.size∧listed.getD k false=false
    · exact ih hex
    · have hkn:k=n+1:=by
        by_cases hkn:k≤n
        · exact absurd ⟨k,hkn,h1,h2⟩ hex
        · omega
      refine⟨k,⟨h1,h2⟩,fun j hj=>?_⟩
      cases hjv:listed.getD j false with
      |true=>rfl
      |false=>exact absurd ⟨j,by omega,by omega,hjv⟩ hex
  exact this i ⟨i,Nat.le_refl _,hi,hu⟩
 intro h;obtain⟨o,ho⟩:∃o,ops[m]?=some o:=⟨_,Array.getElem?_eq_getElem hm.1⟩;obtain⟨_,_,_,_,hdep⟩:=qGc hg ho
 have:m∈Region.ready md ops listed:=by
  rw[mem_ready];refine⟨?_,o,ho,fun e he hb=>hmin _ (hdep e he hb)⟩;have:=hm.2;have hml:m<listed.size:=by rw[hl];exact hm.1
  simp[hml] at this ⊢;exact this
 rw[h] at this;cases this
def left (listed:Array Bool):Nat:=listed.toList.countP (· ==false)
theorem qIy {listed:Array Bool} {i:Nat} (hi:i<listed.size) (hu:listed.getD i true=false):left (listed.setIfInBounds i true)+1=left listed:=by
 unfold left;rw[Array.toList_setIfInBounds]
 have h1:listed.toList[i]?=some false:=by
  rw[Array.getElem?_toList];simp[hi] at hu;rw[Array.getElem?_eq_getElem hi,hu]
 generalize listed.toList=l at *; clear hi hu
 induction l generalizing i with
 |nil=>simp at h1
 | cons b t ih=>
  cases i with
  |zero=>
   have:b=false:=by simpa using h1
   subst this;simp
  |succ i=>
   have:=ih (i:=i) (by simpa using h1);rw[List.set_cons_succ,List.countP_cons,List.countP_cons];omega
theorem qZx (hg:good md ops a0.tmps.size=true) (hp:∀k o,ops[k]?=some o→Prem P md ops a0 w0 prs k o) {Q:Exit→Act→World→Prop}
    (hQ:∀(listed:Array Bool) a w,(∀i,i<ops.size→listed.getD i false=true)→Inv (ops:=ops) (a0:=a0) (w0:=w0) (prs:=prs) listed a w→Q .normal a w) :
    ∀(fuel:Nat) (listed:Array Bool) (a:Act) (w:World),listed.size=ops.size→left listed=fuel→Inv (ops:=ops) (a0:=a0) (w0:=w0) (prs:=prs) listed a w→wpAny P md ops Q fuel listed a w:=by
 intro fuel
 induction fuel with
 | zero=>
  intro listed a w hl h0 hI
  have hall:∀i,i<ops.size→listed.getD i false=true:=by
   intro i hi;have hil:i<listed.size:=by omega
   unfold left at h0;have:=List.countP_eq_zero.1 h0 (listed[i]) (Array.mem_toList_iff.2 (Array.getElem_mem hil));simp[hil]
   simpa using this
  refine⟨?_,hQ _ _ _ hall hI⟩;apply List.eq_nil_iff_forall_not_mem.2;intro j hj;obtain⟨h1,o,ho,_⟩:=mem_ready.1 hj;have hjl:=(Array.getElem?_eq_some_iff.1 ho).1;have:=hall j hjl;have hjl':j<listed.size:=by omega
  simp[hjl'] at h1 this;rw[h1] at this;cases this
 | succ fuel ih=>
  intro listed a w hl h0 hI;refine⟨fun hr=>?_,fun i hi=>?_⟩
  · exfalso
    have:∃i,i<ops.size∧listed.getD i false=false:=by
     unfold left at h0;have hpos:0<listed.toList.countP (· ==false):=by omega
     obtain⟨b,hb,hbf⟩:=List.countP_pos_iff.1 hpos;obtain⟨i,hi,hib⟩:=List.getElem_of_mem hb;have hil:i<listed.size:=by simpa using hi
     refine⟨i,by omega,?_⟩;have:listed[i]=b:=by simpa using hib
     simp[hil,this]
     simpa using hbf
    obtain⟨i,hi,hu⟩:=this;exact qHx hg hl hi hu hr
  · obtain⟨hu,o,ho,hdep⟩:=mem_ready.1 hi;have hil:i<listed.size:=by rw[hl];exact(Array.getElem?_eq_some_iff.1 ho).1
    have hstep:∀v w',Below w.heap.size w w'→prs i v w'→wpAny P md ops Q fuel (listed.setIfInBounds i true) (a.put o.dst v) w':=fun v w' hb hv=>
     ih _ _ _ (by simpa using hl) (by have:=qIy hil hu;omega) (Inv.put hg (fun k o h=>(hp k o h).1) hl ho hI hb hv)
    have hprem:=(hp i o ho).2 a.eval w hI.bel (fun t ht=>?_) (fun _=>rfl) (fun _=>rfl) (fun _=>rfl) (fun k e hk hb d hd=>hI.claim e.on d (hdep e (Array.mem_of_getElem? hk) hb) hd)
    · unfold wpOp;rw[ho];simp only;rw[qEr];split
      · rename_i hw
        rw[if_pos hw] at hprem;exact .inl (qJ8 (qD5 (fun v w' h=>hstep v w' h.1 h.2) hprem))
      · rename_i hw
        rw[if_neg hw] at hprem;exact hstep _ _ (Below.refl _ _) hprem
    · have:=hI.base t fun j _ hd=>by rw[qI0 hd] at ht;cases ht
      simp[Act.eval,this]
def qJc (vs:Nat→Value):Nat→List Oper→Act→Act
  |_,[],a=>a
  |i,o::r,a=>qJc vs (i+1) r (a.put o.dst (vs i))
theorem qDy {w:World} {K:Act→Prop} (vs:Nat→Value):∀(l:List Oper) (i:Nat) (a:Act),qAq prs w K i l a→(∀k,k<l.length→prs (i+k) (vs (i+k)) w)→K (qJc vs i l a)
  |[],_,_,h,_=>h
  |o::r,i,a,h,hv=>qDy vs r (i+1) _ (h (vs i) (hv 0 (by simp))) fun k hk=>by
   have:=hv (k+1) (by simpa using hk)
   rwa [show i+(k+1)=i+1+k by omega] at this
theorem qEk (vs:Nat→Value):∀(l:List Oper) (i:Nat) (a:Act),(qJc vs i l a).tmps.size=a.tmps.size∧(qJc vs i l a).defers=a.defers
  |[],_,a=>⟨rfl,rfl⟩
  |o::r,i,a=>by
   have:=qEk vs r (i+1) (a.put o.dst (vs i));unfold qJc;refine⟨this.1.trans ?_,this.2.trans ?_⟩
   · cases h:o.dst <;> simp[Act.put]
   · cases h:o.dst <;> simp[Act.put]
theorem qE7 (vs:Nat→Value) (t:Tmp) (X:Option Value):∀(l:List Oper) (i:Nat) (a:Act),t<a.tmps.size→(∀(k:Nat) (o:Oper),l[k]?=some o→o.dst=some t→X=some (vs (i+k)))→(a.tmps[t]?=X∨∃(k:Nat) (o:Oper),l[k]?=some o∧o.dst=some t)→(qJc vs i l a).tmps[t]?=X
  |[],i,a,_,_,h=>by
   rcases h with h|⟨k,o,h,_⟩
   · exact h
   · simp at h
  | o :: r,i,a,ht,hv,h=>by
   unfold qJc;have hsz:(a.put o.dst (vs i)).tmps.size=a.tmps.size:=by cases h:o.dst <;> simp[Act.put]
   refine qE7 vs t X r (i+1) _ (by rw[hsz];exact ht) (fun k o' hk hd=>?_) ?_
   · have:=hv (k+1) o' (by simpa using hk) hd
     rwa [show i+(k+1)=i+1+k by omega] at this
   · by_cases hd:o.dst=some t
     · left;rw[hd];have:=hv 0 o rfl hd;rw[this];simp[Act.put,ht]
     · rcases h with h|⟨k,o',hk,hk2⟩
       · left;rw[←h]
         cases hdo:o.dst with
         |none=>rfl
         |some d=>
          have:d≠t:=fun e=>hd (by rw[hdo,e])
          simp[Act.put,Array.getElem?_setIfInBounds_ne this]
       · right
         cases k with
         |zero=>
          have:o=o':=by simpa using hk
          subst this;exact absurd hk2 hd
         |succ k=>exact⟨k,o',by simpa using hk,hk2⟩
theorem qLr {a b:Act} (h1:a.tmps=b.tmps) (h2:a.defers=b.defers):a=b:=by
 cases a;cases b;simp at h1 h2;simp[h1,h2]
def sel:List (Value→World→Prop)→Nat→Value→World→Prop
  |[],_=>fun _ _=>True
  |p::_,0=>p
  |_::r,n+1=>sel r n
theorem qA9 {K:Value→World→Prop} {v:Value} {w:World} (h:K v w):qB8 P K (.ok (.value v) w):=h
theorem qAb {K:Value→World→Prop} {f:FuncId} {args:Array Value} {w:World} (h:Calls P f args w fun e w''=> ∃v,e=.returned v∧K v w''):qB8 P K (.ok (.enter f args) w):=h
theorem qMk {id:Nat} {Q:Exit→Act→World→Prop} {l:List Oper} (prs:Nat→Value→World→Prop) {a0:Act} {w0:World} (hm:P.follows .mixedOrders=true) (hg:good .any l.toArray a0.tmps.size=true)
    (hp:qDo P .any l.toArray a0 w0 prs 0 l) (hend:∀w,Below w0.heap.size w0 w→qAq prs w (fun a=>Q .normal a w) 0 l a0):(Code.region id l.toArray true).wp P Q a0 w0:=by
 refine wp_region_any hm ?_
 have hpa:∀k o,l.toArray[k]?=some o→Prem P .any l.toArray a0 w0 prs k o:=fun k o h=>by
  have:=qFt l 0 hp k o (by simpa using h)
  rwa [Nat.zero_add] at this
 refine qZx hg hpa (fun listed a w hall hI=>?_) _ _ _ _ (by simp) ?_ ⟨rfl,rfl,fun _ _=>rfl,fun i d hi=>?_,⟨rfl,rfl,rfl,Nat.le_refl _,fun _ _=>rfl⟩⟩
 · have h := qDy (fun i=>match qAy l.toArray i with|some d=>a.eval (.tmp d)|none=>undef) l 0 a0 (hend w hI.bel) (fun k hk=>?_)
   · have he :qJc (fun i=>match qAy l.toArray i with|some d=>a.eval (.tmp d)|none=>undef) 0 l a0=a:=by
       obtain⟨h1,h2⟩:=qEk (fun i=>match qAy l.toArray i with|some d=>a.eval (.tmp d)|none=>undef) l 0 a0;refine qLr ?_ (h2.trans hI.defers.symm);apply Array.ext_getElem?;intro t;by_cases ht:t<a0.tmps.size
       · refine qE7 _ t _ l 0 a0 ht (fun k o hk hd=>?_) ?_
         · have hdk:qAy l.toArray (0+k)=some t:=by unfold qAy;rw[Nat.zero_add];simp[hk,hd]
           rw[hdk];have hta:t<a.tmps.size:=by rw[hI.size];exact ht
           simp[Act.eval,hta]
         · by_cases hex:∃(k:Nat) (o:Oper),l[k]?=some o∧o.dst=some t
           · exact .inr hex
           · left;refine(hI.base t fun j _ hd=>hex ?_).symm;unfold qAy at hd
             cases hoj:l.toArray[j]? with
             |none=>simp[hoj] at hd
             |some oj=>exact⟨j,oj,by simpa using hoj,by simpa[hoj] using hd⟩
       · rw[Array.getElem?_eq_none (by rw[h1];omega),Array.getElem?_eq_none (by rw[hI.size];omega)]
     rw[he] at h;exact h
   · rw[Nat.zero_add];obtain⟨o,ho⟩:∃o,l.toArray[k]?=some o:=⟨_,Array.getElem?_eq_getElem (by simpa using hk)⟩;obtain⟨d,hd,_⟩:=qGc hg ho;have hdk:qAy l.toArray k=some d:=by unfold qAy;rw[ho];exact hd
     have:=hI.claim k d (hall k (by simpa using hk)) hdk;simp only[hdk];exact this
 · unfold left;rw[Array.toList_replicate,List.countP_replicate];simp
 · exfalso
   have h2:(Array.replicate l.toArray.size false).getD i false=false:=by
    by_cases h:i<l.length
    · simp[h]
    · simp[h]
   rw[h2] at hi;cases hi
structure At (md:Region.Mode) (ops:Array Oper) (a0:Act) (w0:World) (prs:Nat→Value→World→Prop) (o:Oper) (ev:Operand→Value) (w:World):Prop where
  bel:Below w0.heap.size w0 w
  base:∀(t:Tmp),qOf ops t=false→ev (.tmp t)=a0.eval (.tmp t)
  const:∀v,ev (.const v)=v
  func:∀f,ev (.func f)=.func (.func f) #[] #[]
  glob:∀g,ev (.global g)=.pointer (some ⟨g,0,none⟩)
  dep:∀(k:Nat) (e:Edge),o.after[k]?=some e→Region.binds md e=true→∀d,qAy ops e.on=some d→prs e.on (ev (.tmp d)) w
def Stable (p:Value→World→Prop):Prop:= ∀v w w',p v w→Below w.heap.size w w'→p v w'
def isV (X:Value):Value→World→Prop:=fun v _=>v=X
abbrev iU:=isV undef
abbrev iT:=isV (.bool true)
abbrev iF:=isV (.bool false)
theorem qAr (X:Value):Stable (isV X):=fun _ _ _ h _=>h
def qA5 (md:Region.Mode) (ops:Array Oper) (prs:Nat→Value→World→Prop) (o:Oper):Prop:=
  o.guard=none∨∃(g:Nat) (b:Bool) (k:Nat) (gr:Ground) (d:Tmp),o.guard=some (g,b)∧o.after[k]?=some ⟨g,gr⟩∧Region.binds md ⟨g,gr⟩=true∧qAy ops g=some d∧prs g=isV (.bool b)
theorem qA5.free (h:o.guard=none):qA5 md ops prs o:=.inl h
theorem qA5.by {g:Nat} {b:Bool} {gr:Ground} {d:Tmp} (k:Nat) (h1:o.guard=some (g,b)) (h2:o.after[k]?=some ⟨g,gr⟩) (h3:Region.binds md ⟨g,gr⟩=true) (h4:qAy ops g=some d) (h5:prs g=isV (.bool b)):qA5 md ops prs o:=
  .inr ⟨g,b,k,gr,d,h1,h2,h3,h4,h5⟩
theorem qBo {i:Nat} (hw:qA5 md ops prs o) (hs:Stable (prs i)) (h:∀ev w,At md ops a0 w0 prs o ev w→qB8 P (fun v w'=>Below w.heap.size w w'∧prs i v w') ((execOp ev o).run P w)):Prem P md ops a0 w0 prs i o:=by
 refine⟨hs,fun ev w hb hbase hc hf hg hd=>?_⟩;have hA:At md ops a0 w0 prs o ev w:=⟨hb,hbase,hc,hf,hg,hd⟩
 have:qBk ops ev o=true:=by
  rcases hw with hn|⟨g,b,k,gr,d,h1,h2,h3,h4,h5⟩
  · unfold qBk Region.wanted;rw[hn]
  · have h6:=hd k _ h2 h3 d h4;rw[h5] at h6;have h6:ev (.tmp d)=.bool b:=h6;unfold qBk Region.wanted;rw[h1];simp only[h4,h6];simp
 rw[if_pos this];exact h ev w hA
theorem qMu {i:Nat} {t:Tmp} {X:Value} (hw:qA5 md ops prs o) (ho:o.op=.move (.tmp t)) (ht:qOf ops t=false) (hx:a0.eval (.tmp t)=X) (hp:prs i=isV X):Prem P md ops a0 w0 prs i o:=by
 refine qBo hw (by rw[hp];exact qAr X) fun ev w hA=>?_
 have:(execOp ev o).run P w=.ok (.value (ev (.tmp t))) w:=by
  have:execOp ev o=pure (.value (ev (.tmp t))):=by unfold execOp;rw[ho]
  rw[this];rfl
 rw[this,hA.base t ht,hx,hp];exact⟨Below.refl _ _,rfl⟩
theorem qA7 {i:Nat} {d:Tmp} {e:Edge} (k:Nat) (hw:qA5 md ops prs o) (ho:o.op=.move (.tmp d)∨o.op=.assign (.tmp d)) (he:o.after[k]?=some e) (hb:Region.binds md e=true) (hd:qAy ops e.on=some d) (hp:prs i=prs e.on) (hs:Stable (prs i)):Prem P md ops a0 w0 prs i o:=by
 refine qBo hw hs fun ev w hA=>?_
 have:(execOp ev o).run P w=.ok (.value (ev (.tmp d))) w:=by
  have:execOp ev o=pure (.value (ev (.tmp d))):=by unfold execOp;rcases ho with ho|ho <;> rw[ho]
  rw[this];rfl
 rw[this,hp];exact⟨Below.refl _ _,hA.dep k e he hb d hd⟩
theorem qAe {id:Nat} {Q:Exit→Act→World→Prop} {l:List Oper} (ps:List (Value→World→Prop)) {a0:Act} {w0:World} (hm:P.follows .mixedOrders=true) (hg:good .any l.toArray a0.tmps.size=true)
    (hp:qDo P .any l.toArray a0 w0 (sel ps) 0 l) (hend:∀w,Below w0.heap.size w0 w→qAq (sel ps) w (fun a=>Q .normal a w) 0 l a0):(Code.region id l.toArray true).wp P Q a0 w0:=qMk (sel ps) hm hg hp hend
def newS (n:Nat) (cs:Array Value) (T:TypeId):Value→World→Prop:=fun v w=> ∃g,v=.slice (some ⟨g,0,none⟩) n n∧w.heap[g]?=some (.cells cs T (0,0))
theorem qJ2 (n:Nat) (cs:Array Value) (T:TypeId):Stable (newS n cs T):=fun v w w' ⟨g,h1,h2⟩ hb=>⟨g,h1,(hb.block g (Array.getElem?_eq_some_iff.1 h2).1).trans h2⟩
theorem qKw (n:Nat) (cs:Array Value) (T:TypeId) (w:World):Below w.heap.size w (w.alloc (.cells cs T))∧newS n cs T (.slice (some ⟨w.heap.size,0,none⟩) n n) (w.alloc (.cells cs T)):=⟨(Below.refl _ _).alloc (Nat.le_refl _) _,_,rfl,heap_alloc_new w _⟩
end
variable {P:Program} {md:Region.Mode} {ops:Array Oper} {a0:Act} {w0:World} {prs:Nat→Value→World→Prop} {o:Oper}
theorem qWu {i:Nat} {g:Nat} {b:Bool} {gr:Ground} {d:Tmp} (k:Nat) (h1:o.guard=some (g,b)) (h2:o.after[k]?=some ⟨g,gr⟩) (h3:Region.binds md ⟨g,gr⟩=true) (h4:qAy ops g=some d) (h5:prs g=isV (.bool (!b))) (hp:prs i=isV undef):Prem P md ops a0 w0 prs i o:=by
 refine⟨by rw[hp];exact qAr _,fun ev w hb hbase hc hf hg hd=>?_⟩;have h6:=hd k _ h2 h3 d h4;rw[h5] at h6;have h6:ev (.tmp d)=.bool (!b):=h6
 have:qBk ops ev o=false:=by
  unfold qBk Region.wanted;rw[h1];simp only[h4,h6];simp
 rw[this,hp];exact rfl
theorem qR8 {i:Nat} {g:Nat} {b:Bool} {gr:Ground} {d:Tmp} (k:Nat) (h1:o.guard=some (g,b)) (h2:o.after[k]?=some ⟨g,gr⟩) (h3:Region.binds md ⟨g,gr⟩=true) (h4:qAy ops g=some d) (h5:prs g=isV undef) (hp:prs i=isV undef):Prem P md ops a0 w0 prs i o:=by
 refine⟨by rw[hp];exact qAr _,fun ev w hb hbase hc hf hg hd=>?_⟩;have h6:=hd k _ h2 h3 d h4;rw[h5] at h6;have h6:ev (.tmp d)=undef:=h6
 have:qBk ops ev o=false:=by
  unfold qBk Region.wanted;rw[h1];simp only[h4,h6];simp[undef]
 rw[this,hp];exact rfl
section
variable {i:Nat} {rest:List Oper}
theorem At.d {ev:Operand→Value} {w:World} (E:At md ops a0 w0 prs o ev w) (k:Nat) {e:Edge} {d:Tmp} (h1:o.after[k]?=some e) (h2:Region.binds md e=true) (h3:qAy ops e.on=some d):prs e.on (ev (.tmp d)) w:=E.dep k e h1 h2 d h3
theorem At.e {ev:Operand→Value} {w:World} (E:At md ops a0 w0 prs o ev w) (k:Nat) {e:Edge} {d:Tmp} {X:Value} (h1:o.after[k]?=some e:=by rfl) (h2:Region.binds md e=true:=by rfl) (h3:qAy ops e.on=some d:=by rfl) (h4:prs e.on=isV X:=by rfl):ev (.tmp d)=X:=by
 have:=E.dep k e h1 h2 d h3;rw[h4] at this;exact this
theorem rv {p:Value→World→Prop} {v:Value} {w:World} (h:p v w:=by rfl):qB8 P (fun v w'=>Below w.heap.size w w'∧p v w') (.ok (.value v) w):=qA9 ⟨Below.refl _ _,h⟩
theorem rq {g:Nat} {b:Bool} {gr:Ground} {d:Tmp} (k:Nat) (h:∀ev w,At md ops a0 w0 prs o ev w→qB8 P (fun v w'=>Below w.heap.size w w'∧prs i v w') ((execOp ev o).run P w)) (r:qDo P md ops a0 w0 prs (i+1) rest)
    (h1:o.guard=some (g,b):=by rfl) (h2:o.after[k]?=some ⟨g,gr⟩:=by rfl) (h3:Region.binds md ⟨g,gr⟩=true:=by rfl) (h4:qAy ops g=some d:=by rfl) (h5:prs g=isV (.bool b):=by rfl) (hs:Stable (prs i):=by exact qAr _):qDo P md ops a0 w0 prs i (o::rest):=⟨qBo (.by k h1 h2 h3 h4 h5) hs h,r⟩
theorem rf (h:∀ev w,At md ops a0 w0 prs o ev w→qB8 P (fun v w'=>Below w.heap.size w w'∧prs i v w') ((execOp ev o).run P w)) (r:qDo P md ops a0 w0 prs (i+1) rest)
    (h1:o.guard=none:=by rfl) (hs:Stable (prs i):=by exact qAr _):qDo P md ops a0 w0 prs i (o::rest):=⟨qBo (.free h1) hs h,r⟩
theorem rb {t:Tmp} {X:Value} (r:qDo P md ops a0 w0 prs (i+1) rest) (h1:o.guard=none:=by rfl) (ho:o.op=.move (.tmp t):=by rfl) (ht:qOf ops t=false:=by rfl) (hx:a0.eval (.tmp t)=X:=by rfl) (hp:prs i=isV X:=by rfl):qDo P md ops a0 w0 prs i (o::rest):=⟨qMu (.free h1) ho ht hx hp,r⟩
theorem rbq {g:Nat} {b:Bool} {gr:Ground} {d:Tmp} {t:Tmp} {X:Value} (k:Nat) (r:qDo P md ops a0 w0 prs (i+1) rest) (h1:o.guard=some (g,b):=by rfl) (h2:o.after[k]?=some ⟨g,gr⟩:=by rfl) (h3:Region.binds md ⟨g,gr⟩=true:=by rfl) (h4:qAy ops g=some d:=by rfl) (h5:prs g=isV (.bool b):=by rfl)
    (ho:o.op=.move (.tmp t):=by rfl) (ht:qOf ops t=false:=by rfl) (hx:a0.eval (.tmp t)=X:=by rfl) (hp:prs i=isV X:=by rfl):qDo P md ops a0 w0 prs i (o::rest):=⟨qMu (.by k h1 h2 h3 h4 h5) ho ht hx hp,r⟩
theorem rc {d:Tmp} {e:Edge} (k:Nat) (r:qDo P md ops a0 w0 prs (i+1) rest) (h1:o.guard=none:=by rfl) (ho:o.op=.move (.tmp d):=by rfl) (he:o.after[k]?=some e:=by rfl) (hb:Region.binds md e=true:=by rfl) (hd:qAy ops e.on=some d:=by rfl) (hp:prs i=prs e.on:=by rfl) (hs:Stable (prs i):=by exact qAr _):qDo P md ops a0 w0 prs i (o::rest):=⟨qA7 k (.free h1) (.inl ho) he hb hd hp hs,r⟩
theorem rcq {g:Nat} {b:Bool} {gr:Ground} {d2:Tmp} {d:Tmp} {e:Edge} (k j:Nat) (r:qDo P md ops a0 w0 prs (i+1) rest) (h1:o.guard=some (g,b):=by rfl) (h2:o.after[j]?=some ⟨g,gr⟩:=by rfl) (h3:Region.binds md ⟨g,gr⟩=true:=by rfl) (h4:qAy ops g=some d2:=by rfl) (h5:prs g=isV (.bool b):=by rfl)
    (ho:o.op=.move (.tmp d):=by rfl) (he:o.after[k]?=some e:=by rfl) (hb:Region.binds md e=true:=by rfl) (hd:qAy ops e.on=some d:=by rfl) (hp:prs i=prs e.on:=by rfl) (hs:Stable (prs i):=by exact qAr _):qDo P md ops a0 w0 prs i (o::rest):=⟨qA7 k (.by j h1 h2 h3 h4 h5) (.inl ho) he hb hd hp hs,r⟩
theorem ro {g:Nat} {b:Bool} {gr:Ground} {d:Tmp} (k:Nat) (r:qDo P md ops a0 w0 prs (i+1) rest) (h1:o.guard=some (g,b):=by rfl) (h2:o.after[k]?=some ⟨g,gr⟩:=by rfl) (h3:Region.binds md ⟨g,gr⟩=true:=by rfl) (h4:qAy ops g=some d:=by rfl) (h5:prs g=isV (.bool (!b)):=by rfl) (hp:prs i=isV undef:=by rfl):qDo P md ops a0 w0 prs i (o::rest):=⟨qWu k h1 h2 h3 h4 h5 hp,r⟩
theorem ro2 {g:Nat} {b:Bool} {gr:Ground} {d:Tmp} (k:Nat) (r:qDo P md ops a0 w0 prs (i+1) rest) (h1:o.guard=some (g,b):=by rfl) (h2:o.after[k]?=some ⟨g,gr⟩:=by rfl) (h3:Region.binds md ⟨g,gr⟩=true:=by rfl) (h4:qAy ops g=some d:=by rfl) (h5:prs g=isV undef:=by rfl) (hp:prs i=isV undef:=by rfl):qDo P md ops a0 w0 prs i (o::rest):=⟨qR8 k h1 h2 h3 h4 h5 hp,r⟩
end
end Go.Rel
