/- A range over a function that only reads: what is assigned may lie in a box of its own each round. XRel's rule inside a round of a range over a function: what each operation leaves, shown once, holds in every order. A region that draws its order, whose last operation waits for all others: as XRel's rule, the last one carried out behind it. -/
import Derived.Test.YtainiaighnjpfaaGreatDoorZQp
import Derived.OrdersIn
import Derived.TacticsIn
set_option linter.unusedVariables false
set_option linter.unusedSimpArgs false
namespace Go.Ms
open Go.RowKit
variable {F:Fence} {n:Nat} {P:Program}
theorem qDl {α:Type} {g:Operand} {ps:Array Tmp} {assign body:Code} {Q:Exit→Act→World→Prop} {a:Act} {w:World}
    (hro:F.round=none) (h1:1≤n) {gf:Nat} {Bs:Nat} {R:World→Prop} (hg:a.eval g=.func (.func gf) #[] #[.pointer (some ⟨Bs,0,none⟩)]) (hFg:F.fn gf) (eg:∀args w,(callFunc gf args).run P w=.ok (.enter gf args) w)
    {encs:α→Array Value} {xs:List α} (hseq:qOj F (n-1) P gf Bs encs xs R) (hps:∀x,(encs x).size=ps.size)
    (I:List α→World→Prop) (I1:α→Act→List α→World→Prop) (Ix:Code→List α→World→Prop) (hR:∀s A,I s A→R A) (hI:qKi w.heap.size I) (hIa:∀x a',qKi w.heap.size (I1 x a')) (hIx:∀c,qKi w.heap.size (Ix c)) (h0:I [] w)
    (hassign:∀(l:Nat) (pre:List α) (x:α) (W:World) (K:Act→World→Prop),(pre++[x]) <+: xs→I pre W→(∀a' W',KeepsFrom w.heap.size W W'→I1 x a' pre W'→K a' W')→
      assign.wpIn (F.inRound l) (n-1-1) P (Exit.then K (fun _ _ _=>False)) { tmps:=(ps.zip (encs x)).foldl (fun t (p,v)=>t.setIfInBounds p v) a.tmps,defers:=[] } W)
    (hbody:∀(l:Nat) (pre:List α) (x:α) (a':Act) (W:World),(pre++[x]) <+: xs→I1 x a' pre W→body.wpIn (F.inRound l) (n-1-1) P (qPd w.heap.size I Ix (pre++[x]) W) a' W)
    (hdone:∀(D:Nat) (W:World),w.heap.size≤D→I xs W→W.heap[D]?=some (.deferred (some []))→Q .normal { a with defers:={ target:=.collected D,args:=#[] }::a.defers } W)
    (hstop:∀(D:Nat) (c:Code) (pre:List α) (W:World),w.heap.size≤D→Ix c pre W→W.heap[D]?=some (.deferred (some []))→c.wpIn F n P Q { a with defers:={ target:=.collected D,args:=#[] }::a.defers } W) :
    (Code.rangeFunc g ps assign body).wpIn F n P Q a w:=by
 refine wpIn_rangeFunc fun fn hfn=>?_
 rw[hro];obtain⟨rec,hrec⟩:∃rec:LoopState→Option Code→Loop,rec=fun st pe=>{ state:=st,pending:=pe,fn,tmps:=a.tmps,params:=ps,assign,body,defers:=w.heap.size }:=⟨_,rfl⟩
 obtain⟨W1,hW1⟩:∃W1,(w.alloc (.deferred (some []))).alloc (.loop (rec .ready none))=W1:=⟨_,rfl⟩
 have hL1:W1.heap[w.heap.size+1]?=some (.loop (rec .ready none)):=by
  rw[←hW1];have:=World.alloc_heap_new (w.alloc (.deferred (some []))) (.loop (rec .ready none));rwa [World.size_alloc] at this
 have hK1:W1.heap[w.heap.size]?=some (.deferred (some [])):=by
  rw[←hW1];exact(Below.heap_alloc _ _ _ (by simp)).trans (World.alloc_heap_new w _)
 have hI1:I [] W1:=by rw[←hW1];exact hI.new _ (hI.new _ h0)
 refine⟨w.heap.size+1,[{ target:=.collected w.heap.size,args:=#[] }],W1,{ target:=.fn (.func gf) #[.pointer (some ⟨Bs,0,none⟩)],args:=#[.func (.yield (w.heap.size+1)) #[] #[]] },W1,gf,
   #[.func (.yield (w.heap.size+1)) #[] #[],.pointer (some ⟨Bs,0,none⟩)],W1,?_,?_,?_,?_,fun _=>h1,?_⟩
 · rw[←hW1,hrec];exact run_enterLoop_outer _ _ _ _ _
 · simp only[resolve,hg];simp[go_sem]
 · intro f' hf';simp[Target.leads] at hf';subst hf';exact hFg
 · simp[invoke,go_sem,eg]
 · have hkeep:∀{A B:World} {k:Nat} {o:Obj},A.grownBy B none→A.heap[k]?=some o→B.heap[k]?=some o:=
     fun hg' ho=>(hg'.block _ (Array.getElem?_eq_some_iff.1 ho).1 (by simp)).trans ho
   refine(hseq (w.heap.size+1)
     (fun pre W=>I pre W∧W.heap[w.heap.size+1]?=some (.loop (rec .ready none))∧W.heap[w.heap.size]?=some (.deferred (some [])))
     (fun pre W=> ∃c,Ix c pre W∧W.heap[w.heap.size+1]?=some (.loop (rec .done (some c)))∧W.heap[w.heap.size]?=some (.deferred (some [])))
     W1 (fun s A hs=>hR s A hs.1)
     (fun s A B hs hg'=>⟨hI s A B none hs.1 hg' (fun r e=>by cases e),hkeep hg' hs.2.1,hkeep hg' hs.2.2⟩)
     (fun s A B hs hg'=>by
      obtain⟨c,hc,hl,hk⟩:=hs
      exact⟨c,hIx c s A B none hc hg' (fun r e=>by cases e),hkeep hg' hl,hkeep hg' hk⟩)
     ?_ ⟨hI1,hL1,hK1⟩).mono ?_
   · rintro pre x W ⟨hi,hl,hk⟩ hx;have hlt:w.heap.size+1<W.heap.size:=(Array.getElem?_eq_some_iff.1 hl).1;have hy:=run_yield (P:=P) (args:=encs x) hl (by rw[hrec];exact hps x);rw[hrec] at hy;refine⟨fn,_,assign,body,hy,roundIn_of_wpIn hfn (hassign _ pre x W _ hx hi fun a' V hkV hi1=>?_)⟩;have hlV:=hkV.same _ _ (by omega) hl rfl;have hkV2:=hkV.same _ _ le_ hk rfl;have hltV:w.heap.size+1<V.heap.size:=(Array.getElem?_eq_some_iff.1 hlV).1;refine⟨_,run_beginRound hlV (by rw[hrec]),?_⟩;have hl2:(V.putObj (w.heap.size+1) (.loop { rec .ready none with state:=.busy })).heap[w.heap.size+1]?=some (.loop { rec .ready none with state:=.busy }):=World.putObj_heap_same hltV;have hk2:(V.putObj (w.heap.size+1) (.loop { rec .ready none with state:=.busy })).heap[w.heap.size]?=some (.deferred (some [])):=(World.putObj_heap_other (by omega)).trans hkV2;refine wpIn_mono (hbody _ pre x a' _ hx ((hIa x a').turn _ hi1 (by omega) hlV rfl)) ?_
     have fin:∀(jump:Option Code) (W3:World),KeepsFrom w.heap.size (V.putObj (w.heap.size+1) (.loop { rec .ready none with state:=.busy })) W3→
         (Instr.endRound (w.heap.size+1) jump).run P W3=.ok (.bool jump.isNone) (W3.putObj (w.heap.size+1) (.loop (rec (if jump.isNone then .ready else .done) jump)))∧
         W3.heap[w.heap.size+1]?=some (.loop { rec .ready none with state:=.busy })∧
         (W3.putObj (w.heap.size+1) (.loop (rec (if jump.isNone then .ready else .done) jump))).heap[w.heap.size+1]?=some (.loop (rec (if jump.isNone then .ready else .done) jump))∧
         (W3.putObj (w.heap.size+1) (.loop (rec (if jump.isNone then .ready else .done) jump))).heap[w.heap.size]?=some (.deferred (some [])):=fun jump W3 hk3=>by
       have hl3:=hk3.same _ _ (by omega) hl2 rfl;have:=run_endRound (P:=P) jump hl3;rw[hrec] at this ⊢;exact⟨this,by rw[hrec] at hl3;exact hl3,World.putObj_heap_same (Array.getElem?_eq_some_iff.1 hl3).1,(World.putObj_heap_other (by omega)).trans (hk3.same _ _ le_ hk2 rfl)⟩
     rintro e a3 W3 hp
     cases e with
     |normal=>
      obtain⟨hk3,hi3⟩:=hp;obtain⟨hr,hl3,hl4,hk4⟩:=fin none W3 hk3;exact⟨_,_,hr,.inl ⟨rfl,hI.turn _ hi3 (by omega) hl3 rfl,hl4,hk4⟩⟩
     |ret=>
      obtain⟨hk3,hi3⟩:=hp;obtain⟨hr,hl3,hl4,hk4⟩:=fin (some .ret) W3 hk3;exact⟨_,_,hr,.inr ⟨rfl,.ret,(hIx _).turn _ hi3 (by omega) hl3 rfl,hl4,hk4⟩⟩
     |exit id=>
      obtain⟨hk3,hi3⟩:=hp;obtain⟨hr,hl3,hl4,hk4⟩:=fin (some (.exit id)) W3 hk3;exact⟨_,_,hr,.inr ⟨rfl,.exit id,(hIx _).turn _ hi3 (by omega) hl3 rfl,hl4,hk4⟩⟩
     |goto t=>
      obtain⟨hk3,hi3⟩:=hp;obtain⟨hr,hl3,hl4,hk4⟩:=fin (some (.goto t)) W3 hk3;exact⟨_,_,hr,.inr ⟨rfl,.goto t,(hIx _).turn _ hi3 (by omega) hl3 rfl,hl4,hk4⟩⟩
     |panic ch=>exact hp.elim
     |outgrown=>exact hp.elim
   · rintro e W2 ⟨⟨v,rfl⟩,(⟨hi,hl,hk⟩|⟨pre,c,hi,hl,hk⟩)⟩
     · exact⟨none,_,by have:=run_endLoop (P:=P) hl (by rw[hrec];simp);rw[hrec] at this;exact this,hdone _ _ le_ (hI.turn _ hi (by omega) hl rfl) ((World.putObj_heap_other (by omega)).trans hk)⟩
     · exact⟨some c,_,by have:=run_endLoop (P:=P) hl (by rw[hrec];simp);rw[hrec] at this;exact this,hstop _ c pre _ le_ ((hIx c).turn _ hi (by omega) hl rfl) ((World.putObj_heap_other (by omega)).trans hk)⟩
end Go.Ms
namespace Go.Rel
open Go Go.RowKit
def qL8 (ops:Array Oper):Bool:=ops.toList.all fun o=>match o.op with
 | .defer _=>false
 |_=>true
theorem qRq {ops:Array Oper} {i:Nat} {o:Oper} (h:qL8 ops=true) (ho:ops[i]?=some o):∀c,o.op≠.defer c:=by
 intro c hc;have:=List.all_eq_true.1 h o (Array.mem_toList_iff.2 (Array.mem_of_getElem? ho));rw[hc] at this;cases this
section
variable {P:Program} {md:Region.Mode} {ops:Array Oper} {a0:Act} {w0:World} {prs:Nat→Value→World→Prop} {o:Oper} {lr n:Nat}
theorem qOh {o:Oper} {a:Act} {w:World} {K:Act→World→Prop} {Q:Exit→Act→World→Prop} (hd:∀c,o.op≠.defer c) (h:qB8 P (fun v w'=>K (a.put o.dst v) w') ((execOp a.eval o).run P w)):o.wpIn (Fence.wide.inRound lr) n P a w K Q:=by
 unfold Oper.wpIn;refine⟨fun _ _=>trivial,?_⟩;rw[Fence.inRound_round,Oper.semAt_some lr _ _ hd];generalize (execOp a.eval o).run P w=r at *
 cases r with
 |ok x w'=>
  cases x <;> simp only[qB8] at h <;> simp only[Oper.uponIn]
  case enter f args=>exact⟨fun e=>absurd e (by simp[Fence.wide]),(CallsIn.inRound lr (callsIn_wide.2 h)).mono fun e w'' ⟨v,he,hk⟩=>by subst he;exact hk⟩
  all_goals exact h
 |halt x w'=>cases x <;> simp only[qB8] at h
theorem qTc (hnd:qL8 ops=true) (hg:good md ops a0.tmps.size=true) (hp:∀k o,ops[k]?=some o→Prem P md ops a0 w0 prs k o) {Q:Exit→Act→World→Prop}
    (hQ:∀(listed:Array Bool) a w,(∀i,i<ops.size→listed.getD i false=true)→Inv (ops:=ops) (a0:=a0) (w0:=w0) (prs:=prs) listed a w→Q .normal a w) :
    ∀(fuel:Nat) (listed:Array Bool) (a:Act) (w:World),listed.size=ops.size→left listed=fuel→Inv (ops:=ops) (a0:=a0) (w0:=w0) (prs:=prs) listed a w→wpAnyIn (Fence.wide.inRound lr) n P md ops Q fuel listed a w:=by
 intro fuel
 induction fuel with
 | zero=>
  intro listed a w hl h0 hI
  have hall:∀i,i<ops.size→listed.getD i false=true:=by
   intro i hi;have hil:i<listed.size:=by omega
   unfold left at h0;have:=List.countP_eq_zero.1 h0 (listed[i]) (Array.mem_toList_iff.2 (Array.getElem_mem hil));simp[hil]
   simpa using this
  refine⟨?_,hQ _ _ _ hall hI⟩;apply List.eq_nil_iff_forall_not_mem.2;intro j hj;obtain⟨h1,o,ho,_⟩:=mem_ready.1 hj;have hjl:=(Array.getElem?_eq_some_iff.1 ho).1;have:=hall j hjl;have hjl':j<listed.size:=by omega
  simp[hjl'] at h1 this;rw[h1] at this;cases this
 | succ fuel ih=>
  intro listed a w hl h0 hI;refine⟨fun hr=>?_,fun i hi=>?_⟩
  · exfalso
    have:∃i,i<ops.size∧listed.getD i false=false:=by
     unfold left at h0;have hpos:0<listed.toList.countP (· ==false):=by omega
     obtain⟨b,hb,hbf⟩:=List.countP_pos_iff.1 hpos;obtain⟨i,hi,hib⟩:=List.getElem_of_mem hb;have hil:i<listed.size:=by simpa using hi
     refine⟨i,by omega,?_⟩;have:listed[i]=b:=by simpa using hib
     simp[hil,this]
     simpa using hbf
    obtain⟨i,hi,hu⟩:=this;exact qHx hg hl hi hu hr
  · obtain⟨hu,o,ho,hdep⟩:=mem_ready.1 hi;have hil:i<listed.size:=by rw[hl];exact(Array.getElem?_eq_some_iff.1 ho).1
    have hstep:∀v w',Below w.heap.size w w'→prs i v w'→wpAnyIn (Fence.wide.inRound lr) n P md ops Q fuel (listed.setIfInBounds i true) (a.put o.dst v) w':=fun v w' hb hv=>
     ih _ _ _ (by simpa using hl) (by have:=qIy hil hu;omega) (Inv.put hg (fun k o h=>(hp k o h).1) hl ho hI hb hv)
    have hprem:=(hp i o ho).2 a.eval w hI.bel (fun t ht=>?_) (fun _=>rfl) (fun _=>rfl) (fun _=>rfl) (fun k e hk hb d hd=>hI.claim e.on d (hdep e (Array.mem_of_getElem? hk) hb) hd)
    · unfold wpOpIn;rw[ho];simp only;rw[qEr];split
      · rename_i hw
        rw[if_pos hw] at hprem;exact(qOh (qRq hnd ho) (qD5 (fun v w' h=>hstep v w' h.1 h.2) hprem))
      · rename_i hw
        rw[if_neg hw] at hprem;exact⟨fun _ _=>trivial,hstep _ _ (Below.refl _ _) hprem⟩
    · have:=hI.base t fun j _ hd=>by rw[qI0 hd] at ht;cases ht
      simp[Act.eval,this]
theorem qJa {id:Nat} {Q:Exit→Act→World→Prop} {l:List Oper} (prs:Nat→Value→World→Prop) {a0:Act} {w0:World} (hm:P.follows .mixedOrders=true) (hnd:qL8 l.toArray=true) (hg:good .any l.toArray a0.tmps.size=true)
    (hp:qDo P .any l.toArray a0 w0 prs 0 l) (hend:∀w,Below w0.heap.size w0 w→qAq prs w (fun a=>Q .normal a w) 0 l a0):(Code.region id l.toArray true).wpIn (Fence.wide.inRound lr) n P Q a0 w0:=by
 refine wpIn_region_any hm ?_
 have hpa:∀k o,l.toArray[k]?=some o→Prem P .any l.toArray a0 w0 prs k o:=fun k o h=>by
  have:=qFt l 0 hp k o (by simpa using h)
  rwa [Nat.zero_add] at this
 refine qTc hnd hg hpa (fun listed a w hall hI=>?_) _ _ _ _ (by simp) ?_ ⟨rfl,rfl,fun _ _=>rfl,fun i d hi=>?_,⟨rfl,rfl,rfl,Nat.le_refl _,fun _ _=>rfl⟩⟩
 · have h := qDy (fun i=>match qAy l.toArray i with|some d=>a.eval (.tmp d)|none=>undef) l 0 a0 (hend w hI.bel) (fun k hk=>?_)
   · have he :qJc (fun i=>match qAy l.toArray i with|some d=>a.eval (.tmp d)|none=>undef) 0 l a0=a:=by
       obtain⟨h1,h2⟩:=qEk (fun i=>match qAy l.toArray i with|some d=>a.eval (.tmp d)|none=>undef) l 0 a0;refine qLr ?_ (h2.trans hI.defers.symm);apply Array.ext_getElem?;intro t;by_cases ht:t<a0.tmps.size
       · refine qE7 _ t _ l 0 a0 ht (fun k o hk hd=>?_) ?_
         · have hdk:qAy l.toArray (0+k)=some t:=by unfold qAy;rw[Nat.zero_add];simp[hk,hd]
           rw[hdk];have hta:t<a.tmps.size:=by rw[hI.size];exact ht
           simp[Act.eval,hta]
         · by_cases hex:∃(k:Nat) (o:Oper),l[k]?=some o∧o.dst=some t
           · exact .inr hex
           · left;refine(hI.base t fun j _ hd=>hex ?_).symm;unfold qAy at hd
             cases hoj:l.toArray[j]? with
             |none=>simp[hoj] at hd
             |some oj=>exact⟨j,oj,by simpa using hoj,by simpa[hoj] using hd⟩
       · rw[Array.getElem?_eq_none (by rw[h1];omega),Array.getElem?_eq_none (by rw[hI.size];omega)]
     rw[he] at h;exact h
   · rw[Nat.zero_add];obtain⟨o,ho⟩:∃o,l.toArray[k]?=some o:=⟨_,Array.getElem?_eq_getElem (by simpa using hk)⟩;obtain⟨d,hd,_⟩:=qGc hg ho;have hdk:qAy l.toArray k=some d:=by unfold qAy;rw[ho];exact hd
     have:=hI.claim k d (hall k (by simpa using hk)) hdk;simp only[hdk];exact this
 · unfold left;rw[Array.toList_replicate,List.countP_replicate];simp
 · exfalso
   have h2:(Array.replicate l.toArray.size false).getD i false=false:=by
    by_cases h:i<l.length
    · simp[h]
    · simp[h]
   rw[h2] at hi;cases hi
theorem qCt {id:Nat} {Q:Exit→Act→World→Prop} {l:List Oper} (ps:List (Value→World→Prop)) {a0:Act} {w0:World} (hm:P.follows .mixedOrders=true) (hnd:qL8 l.toArray=true) (hg:good .any l.toArray a0.tmps.size=true)
    (hp:qDo P .any l.toArray a0 w0 (sel ps) 0 l) (hend:∀w,Below w0.heap.size w0 w→qAq (sel ps) w (fun a=>Q .normal a w) 0 l a0):(Code.region id l.toArray true).wpIn (Fence.wide.inRound lr) n P Q a0 w0:=qJa (sel ps) hm hnd hg hp hend
end
def qG0 (l:Array Oper):Bool:=l.toList.all fun o=>match o.guard with
 |none=>true
 |some (g,_)=>decide (g<l.size)
def qL3 (md:Region.Mode) (n:Nat) (o:Oper):Bool:=((List.range n).all fun k=>o.after.toList.any fun e=>Region.binds md e&&e.on==k)&&o.after.toList.all fun e=> !Region.binds md e||decide (e.on<n)
section
variable {P:Program} {md:Region.Mode} {l:Array Oper} {a0:Act} {w0:World} {prs:Nat→Value→World→Prop} {o:Oper}
theorem qNl (tmps:Array Value) {g:Nat} (hg:g<l.size):yielded (l.push o) tmps g=yielded l tmps g:=by
 unfold yielded;rw[Array.getElem?_push_lt hg,Array.getElem?_eq_getElem hg]
theorem qOy {x:Oper} {i:Nat} (hgi:qG0 l=true) (hx:l[i]?=some x) (a:Act):Region.wanted x (yielded (l.push o) a.tmps)=qBk l a.eval x:=by
 rw[←qEr];unfold qG0 at hgi;have:=List.all_eq_true.1 hgi x (Array.mem_toList_iff.2 (Array.mem_of_getElem? hx));unfold Region.wanted
 cases hq:x.guard with
 |none=>rfl
 |some p=>
  obtain⟨g,b⟩:=p;rw[hq] at this;simp only[decide_eq_true_eq] at this;simp only;rw[qNl _ this]
theorem qDi {listed:Array Bool} {i:Nat} {b d:Bool} (hi:i<listed.size):(listed.push b).getD i d=listed.getD i d:=by
 simp[Array.getElem?_push_lt hi,hi]
theorem qVo {listed:Array Bool} {i:Nat} {b:Bool} (hi:i<listed.size):(listed.push b).setIfInBounds i true=(listed.setIfInBounds i true).push b:=by
 apply Array.ext_getElem?;intro j;by_cases hj:j=i
 · subst hj;rw[Array.getElem?_setIfInBounds_self_of_lt (by simp;omega),Array.getElem?_push_lt (by simpa using hi)];simp[hi]
 · rw[Array.getElem?_setIfInBounds_ne (fun e=>hj e.symm)];by_cases hjl:j<listed.size
   · rw[Array.getElem?_push_lt hjl,Array.getElem?_push_lt (by simpa using hjl)];rw[←Array.getElem?_eq_getElem,←Array.getElem?_eq_getElem,Array.getElem?_setIfInBounds_ne (fun e=>hj e.symm)]
   · have hne:i≠j:=fun e=>hj e.symm
     simp[Array.getElem?_push,Array.getElem?_setIfInBounds_ne hne]
theorem qNg (hg:good md l a0.tmps.size=true) (hgi:qG0 l=true) (hw:qL3 md l.size o=true) (hno:o.guard=none) (hp:∀k x,l[k]?=some x→Prem P md l a0 w0 prs k x) {Q:Exit→Act→World→Prop}
    (hQ:∀(listed:Array Bool) a w,(∀i,i<l.size→listed.getD i false=true)→Inv (ops:=l) (a0:=a0) (w0:=w0) (prs:=prs) listed a w→o.wp P a w (fun a w=>Q .normal a w) Q) :
    ∀(fuel:Nat) (listed:Array Bool) (a:Act) (w:World),listed.size=l.size→left listed=fuel→Inv (ops:=l) (a0:=a0) (w0:=w0) (prs:=prs) listed a w→wpAny P md (l.push o) Q (fuel+1) (listed.push false) a w:=by
 unfold qL3 at hw;simp only[Bool.and_eq_true] at hw
 have hon:∀e∈o.after,Region.binds md e=true→e.on<l.size:=fun e he hb=>by
  have:=List.all_eq_true.1 hw.2 e (Array.mem_toList_iff.2 he)
  simpa[hb] using this
 have hwa:∀k,k<l.size→∃e∈o.after,Region.binds md e=true∧e.on=k:=fun k hk=>by
  have:=List.all_eq_true.1 hw.1 k (List.mem_range.2 hk);obtain⟨e,he,h2⟩:=List.any_eq_true.1 this;simp only[Bool.and_eq_true,beq_iff_eq] at h2;exact⟨e,Array.mem_toList_iff.1 he,h2⟩
 intro fuel
 induction fuel with
 | zero=>
  intro listed a w hl h0 hI
  have hall:∀i,i<l.size→listed.getD i false=true:=by
   intro i hi;have hil:i<listed.size:=by omega
   unfold left at h0;have:=List.countP_eq_zero.1 h0 (listed[i]) (Array.mem_toList_iff.2 (Array.getElem_mem hil));simp[hil]
   simpa using this
  have hn:(l.push o)[l.size]?=some o:=by simp
  have hend:∀j,j≤l.size→((listed.push false).setIfInBounds l.size true).getD j false=true:=by
   intro j hj;rw[qDq (by simp;omega)];by_cases hjn:j=l.size
   · exact .inl hjn
   · exact .inr (by rw[qDi (by omega)];exact hall j (by omega))
  refine⟨fun hr=>?_,fun i hi=>?_⟩
  · exfalso
    have:l.size∈Region.ready md (l.push o) (listed.push false):=by
     rw[mem_ready];refine⟨by rw[←hl];simp,o,hn,fun e he hb=>?_⟩;have h2:=hon e he hb;rw[qDi (by omega)];exact hall _ h2
    rw[hr] at this;cases this
  · obtain⟨hu,x,hx,hdep⟩:=mem_ready.1 hi
    have hin:i=l.size:=by
     have h1:=(Array.getElem?_eq_some_iff.1 hx).1;rw[Array.size_push] at h1;by_cases h2:i<l.size
     · exfalso;have h3:=hall i h2;rw[qDi (by omega)] at hu;have hil:i<listed.size:=by omega
       simp[hil] at hu h3;rw[h3] at hu;cases hu
     · omega
    subst hin;unfold wpOp;rw[hn];simp only;rw[if_pos (by unfold Region.wanted;rw[hno])];refine .inl (Oper.wp_mono (fun a w h=>⟨?_,h⟩) (hQ listed a w hall hI));apply List.eq_nil_iff_forall_not_mem.2;intro j hj;obtain⟨h1,y,hy,_⟩:=mem_ready.1 hj;have hjl:=(Array.getElem?_eq_some_iff.1 hy).1;rw[Array.size_push] at hjl;have h2:=hend j (by omega);have hjs:j<((listed.push false).setIfInBounds l.size true).size:=by simp;omega
    simp only[Array.getD_eq_getD_getElem?,Array.getElem?_eq_getElem hjs,Option.getD_some] at h1 h2;rw[h1] at h2;cases h2
 | succ fuel ih=>
  intro listed a w hl h0 hI
  obtain⟨u,hul,huf⟩:∃i,i<l.size∧listed.getD i false=false:=by
   unfold left at h0;have hpos:0<listed.toList.countP (· ==false):=by omega
   obtain⟨b,hb,hbf⟩:=List.countP_pos_iff.1 hpos;obtain⟨i,hi,hib⟩:=List.getElem_of_mem hb;have hil:i<listed.size:=by simpa using hi
   refine⟨i,by omega,?_⟩;have:listed[i]=b:=by simpa using hib
   simp[hil,this]
   simpa using hbf
  refine⟨fun hr=>?_,fun i hi=>?_⟩
  · exfalso;have h1:=qHx hg hl hul huf;obtain⟨j,hj⟩:=List.exists_mem_of_ne_nil _ h1;obtain⟨h2,x,hx,hd⟩:=mem_ready.1 hj;have hjl:=(Array.getElem?_eq_some_iff.1 hx).1
    have:j∈Region.ready md (l.push o) (listed.push false):=by
     rw[mem_ready];refine⟨by rw[qDi (by omega)];exact h2,x,by rw[Array.getElem?_push_lt hjl];rw[Array.getElem?_eq_getElem hjl] at hx;exact hx,fun e he hb=>?_⟩;obtain⟨_,_,_,_,hlt⟩:=qGc hg hx;have:=hlt e he hb;rw[qDi (by omega)];exact hd e he hb
    rw[hr] at this;cases this
  · obtain⟨hu,x,hx,hdep⟩:=mem_ready.1 hi;have hxs:=(Array.getElem?_eq_some_iff.1 hx).1;rw[Array.size_push] at hxs
    have hil:i<l.size:=by
     by_cases h2:i<l.size
     · exact h2
     · exfalso;have hin:i=l.size:=by omega
       subst hin
       have hxo:x=o:=by
        have:(l.push o)[l.size]?=some o:=by simp
        rw[this] at hx;exact(Option.some.inj hx).symm
       subst hxo;obtain⟨e,he,hb,hek⟩:=hwa u hul;have h3:=hdep e he hb;rw[hek,qDi (by omega),huf] at h3;cases h3
    have hx':l[i]?=some x:=by rw[Array.getElem?_push_lt hil] at hx;rw[Array.getElem?_eq_getElem hil];exact hx
    have hils:i<listed.size:=by omega
    have hu':listed.getD i true=false:=by rw[qDi hils] at hu;exact hu
    have hstep:∀v w',Below w.heap.size w w'→prs i v w'→wpAny P md (l.push o) Q (fuel+1) ((listed.push false).setIfInBounds i true) (a.put x.dst v) w':=fun v w' hb hv=>by
     rw[qVo hils];exact ih _ _ _ (by simpa using hl) (by have:=qIy hils hu';omega) (Inv.put hg (fun k o h=>(hp k o h).1) hl hx' hI hb hv)
    have hprem:=(hp i x hx').2 a.eval w hI.bel (fun t ht=>?_) (fun _=>rfl) (fun _=>rfl) (fun _=>rfl) (fun k e hk hb d hd=>hI.claim e.on d (by
      have he:=Array.mem_of_getElem? hk;obtain⟨_,_,_,_,hlt⟩:=qGc hg hx';have h4:=hdep e he hb;rw[qDi (by have:=hlt e he hb;omega)] at h4
      exact h4) hd)
    · unfold wpOp;rw[hx];simp only;rw[qOy hgi hx'];split
      · rename_i hw'
        rw[if_pos hw'] at hprem;exact .inl (qJ8 (qD5 (fun v w' h=>hstep v w' h.1 h.2) hprem))
      · rename_i hw'
        rw[if_neg hw'] at hprem;exact hstep _ _ (Below.refl _ _) hprem
    · have:=hI.base t fun j _ hd=>by rw[qI0 hd] at ht;cases ht
      simp[Act.eval,this]
end
theorem qB4 {P:Program} {id:Nat} {Q:Exit→Act→World→Prop} {l:List Oper} {o:Oper} (ps:List (Value→World→Prop)) {a0:Act} {w0:World} (hm:P.follows .mixedOrders=true) (hg:good .any l.toArray a0.tmps.size=true)
    (hgi:qG0 l.toArray=true) (hw:qL3 .any l.toArray.size o=true) (hno:o.guard=none)
    (hp:qDo P .any l.toArray a0 w0 (sel ps) 0 l) (hend:∀w,Below w0.heap.size w0 w→qAq (sel ps) w (fun a=>o.wp P a w (fun a w=>Q .normal a w) Q) 0 l a0):(Code.region id (l.toArray.push o) true).wp P Q a0 w0:=by
 refine wp_region_any hm ?_
 have hpa:∀k o,l.toArray[k]?=some o→Prem P .any l.toArray a0 w0 (sel ps) k o:=fun k o h=>by
  have:=qFt l 0 hp k o (by simpa using h)
  rwa [Nat.zero_add] at this
 have hrep:Array.replicate (l.toArray.push o).size false=(Array.replicate l.toArray.size false).push false:=by
  rw[Array.size_push];exact Array.replicate_succ
 have hfuel:(l.toArray.push o).size=l.toArray.size+1:=Array.size_push _;rw[hrep,hfuel];refine qNg hg hgi hw hno hpa (fun listed a w hall hI=>?_) _ _ _ _ (by simp) ?_ ⟨rfl,rfl,fun _ _=>rfl,fun i d hi=>?_,⟨rfl,rfl,rfl,Nat.le_refl _,fun _ _=>rfl⟩⟩
 · have h := qDy (fun i=>match qAy l.toArray i with|some d=>a.eval (.tmp d)|none=>undef) l 0 a0 (hend w hI.bel) (fun k hk=>?_)
   · have he :qJc (fun i=>match qAy l.toArray i with|some d=>a.eval (.tmp d)|none=>undef) 0 l a0=a:=by
       obtain⟨h1,h2⟩:=qEk (fun i=>match qAy l.toArray i with|some d=>a.eval (.tmp d)|none=>undef) l 0 a0;refine qLr ?_ (h2.trans hI.defers.symm);apply Array.ext_getElem?;intro t;by_cases ht:t<a0.tmps.size
       · refine qE7 _ t _ l 0 a0 ht (fun k o hk hd=>?_) ?_
         · have hdk:qAy l.toArray (0+k)=some t:=by unfold qAy;rw[Nat.zero_add];simp[hk,hd]
           rw[hdk];have hta:t<a.tmps.size:=by rw[hI.size];exact ht
           simp[Act.eval,hta]
         · by_cases hex:∃(k:Nat) (o:Oper),l[k]?=some o∧o.dst=some t
           · exact .inr hex
           · left;refine(hI.base t fun j _ hd=>hex ?_).symm;unfold qAy at hd
             cases hoj:l.toArray[j]? with
             |none=>simp[hoj] at hd
             |some oj=>exact⟨j,oj,by simpa using hoj,by simpa[hoj] using hd⟩
       · rw[Array.getElem?_eq_none (by rw[h1];omega),Array.getElem?_eq_none (by rw[hI.size];omega)]
     rw[he] at h;exact h
   · rw[Nat.zero_add];obtain⟨o,ho⟩:∃o,l.toArray[k]?=some o:=⟨_,Array.getElem?_eq_getElem (by simpa using hk)⟩;obtain⟨d,hd,_⟩:=qGc hg ho;have hdk:qAy l.toArray k=some d:=by unfold qAy;rw[ho];exact hd
     have:=hI.claim k d (hall k (by simpa using hk)) hdk;simp only[hdk];exact this
 · unfold left;rw[Array.toList_replicate,List.countP_replicate];simp
 · exfalso
   have h2:(Array.replicate l.toArray.size false).getD i false=false:=by
    by_cases h:i<l.length
    · simp[h]
    · simp[h]
   rw[h2] at hi;cases hi
end Go.Rel
