/- A range over a function that only reads: what is assigned may lie in a box of its own each round. XRel's rule inside a round of a range over a function: what each operation leaves, shown once, holds in every order. -/
import Derived.Test.YtikpmmipopmjaaaGreatDoorZQy
import Derived.Test.YtikpmmipopmjaaaGreatDoorZQp
import Derived.OrdersIn
import Derived.TacticsIn
import Derived.RangeFuncCalls
set_option linter.unusedVariables false
set_option linter.unusedSimpArgs false
namespace Go.Ms
open Go.RowKit
variable {F:Fence} {n:Nat} {P:Program}
theorem qEc {α:Type} {g:Operand} {ps:Array Tmp} {assign body:Code} {Q:Exit→Act→World→Prop} {a:Act} {w:World}
    (hro:F.round=none) (h1:1≤n) {gf:Nat} {Bs:Nat} {R:World→Prop} (hg:a.eval g=.func (.func gf) #[] #[.pointer (some ⟨Bs,0,none⟩)]) (hFg:F.fn gf) (eg:∀args w,(callFunc gf args).run P w=.ok (.enter gf args) w)
    {encs:α→Array Value} {xs:List α} (hseq:qQp F (n-1) P gf Bs encs xs R) (hps:∀x,(encs x).size=ps.size)
    (I:List α→World→Prop) (I1:α→Act→List α→World→Prop) (Ix:Code→List α→World→Prop) (hR:∀s A,I s A→R A) (hI:qLh w.heap.size I) (hIa:∀x a',qLh w.heap.size (I1 x a')) (hIx:∀c,qLh w.heap.size (Ix c)) (h0:I [] w)
    (hassign:∀(l:Nat) (pre:List α) (x:α) (W:World) (K:Act→World→Prop),(pre++[x]) <+: xs→I pre W→(∀a' W',KeepsFrom w.heap.size W W'→I1 x a' pre W'→K a' W')→
      assign.wpIn (F.inRound l) (n-1-1) P (Exit.then K (fun _ _ _=>False)) { tmps:=(ps.zip (encs x)).foldl (fun t (p,v)=>t.setIfInBounds p v) a.tmps,defers:=[] } W)
    (hbody:∀(l:Nat) (pre:List α) (x:α) (a':Act) (W:World),(pre++[x]) <+: xs→I1 x a' pre W→body.wpIn (F.inRound l) (n-1-1) P (qRu w.heap.size I Ix (pre++[x]) W) a' W)
    (hdone:∀(D:Nat) (W:World),w.heap.size≤D→I xs W→W.heap[D]?=some (.deferred (some []))→Q .normal { a with defers:={ target:=.collected D,args:=#[] }::a.defers } W)
    (hstop:∀(D:Nat) (c:Code) (pre:List α) (W:World),w.heap.size≤D→Ix c pre W→W.heap[D]?=some (.deferred (some []))→c.wpIn F n P Q { a with defers:={ target:=.collected D,args:=#[] }::a.defers } W) :
    (Code.rangeFunc g ps assign body).wpIn F n P Q a w:=by
 refine wpIn_rangeFunc fun fn hfn=>?_
 rw[hro]
 obtain⟨rec,hrec⟩:∃rec:LoopState→Option Code→Loop,rec=fun st pe=>{ state:=st,pending:=pe,fn,tmps:=a.tmps,params:=ps,assign,body,defers:=w.heap.size }:=⟨_,rfl⟩
 obtain⟨W1,hW1⟩:∃W1,(w.alloc (.deferred (some []))).alloc (.loop (rec .ready none))=W1:=⟨_,rfl⟩
 have hL1:W1.heap[w.heap.size+1]?=some (.loop (rec .ready none)):=by
  rw[←hW1];have:=World.alloc_heap_new (w.alloc (.deferred (some []))) (.loop (rec .ready none));rwa [World.size_alloc] at this
 have hK1:W1.heap[w.heap.size]?=some (.deferred (some [])):=by
  rw[←hW1];exact(Below.heap_alloc _ _ _ (by simp)).trans (World.alloc_heap_new w _)
 have hI1:I [] W1:=by rw[←hW1];exact hI.new _ (hI.new _ h0)
 refine⟨w.heap.size+1,[{ target:=.collected w.heap.size,args:=#[] }],W1,{ target:=.fn (.func gf) #[.pointer (some ⟨Bs,0,none⟩)],args:=#[.func (.yield (w.heap.size+1)) #[] #[]] },W1,gf,
   #[.func (.yield (w.heap.size+1)) #[] #[],.pointer (some ⟨Bs,0,none⟩)],W1,?_,?_,?_,?_,fun _=>h1,?_⟩
 · rw[←hW1,hrec];exact run_enterLoop_outer _ _ _ _ _
 · simp only[resolve,hg]
   simp[go_sem]
 · intro f' hf';simp[Target.leads] at hf';subst hf';exact hFg
 · simp[invoke,go_sem,eg]
 · have hkeep:∀{A B:World} {k:Nat} {o:Obj},A.grownBy B none→A.heap[k]?=some o→B.heap[k]?=some o:=
     fun hg' ho=>(hg'.block _ (Array.getElem?_eq_some_iff.1 ho).1 (by simp)).trans ho
   refine(hseq (w.heap.size+1)
     (fun pre W=>I pre W∧W.heap[w.heap.size+1]?=some (.loop (rec .ready none))∧W.heap[w.heap.size]?=some (.deferred (some [])))
     (fun pre W=> ∃c,Ix c pre W∧W.heap[w.heap.size+1]?=some (.loop (rec .done (some c)))∧W.heap[w.heap.size]?=some (.deferred (some [])))
     W1 (fun s A hs=>hR s A hs.1)
     (fun s A B hs hg'=>⟨hI s A B none hs.1 hg' (fun r e=>by cases e),hkeep hg' hs.2.1,hkeep hg' hs.2.2⟩)
     (fun s A B hs hg'=>by
      obtain⟨c,hc,hl,hk⟩:=hs
      exact⟨c,hIx c s A B none hc hg' (fun r e=>by cases e),hkeep hg' hl,hkeep hg' hk⟩)
     ?_ ⟨hI1,hL1,hK1⟩).mono ?_
   · rintro pre x W ⟨hi,hl,hk⟩ hx;have hlt:w.heap.size+1<W.heap.size:=(Array.getElem?_eq_some_iff.1 hl).1;have hy:=run_yield (P:=P) (args:=encs x) hl (by rw[hrec];exact hps x);rw[hrec] at hy;refine⟨fn,_,assign,body,hy,roundIn_of_wpIn hfn (hassign _ pre x W _ hx hi fun a' V hkV hi1=>?_)⟩;have hlV:=hkV.same _ _ (by omega) hl rfl;have hkV2:=hkV.same _ _ (Nat.le_refl _) hk rfl;have hltV:w.heap.size+1<V.heap.size:=(Array.getElem?_eq_some_iff.1 hlV).1;refine⟨_,run_beginRound hlV (by rw[hrec]),?_⟩
     have hl2:(V.putObj (w.heap.size+1) (.loop { rec .ready none with state:=.busy })).heap[w.heap.size+1]?=some (.loop { rec .ready none with state:=.busy }):=World.putObj_heap_same hltV;have hk2:(V.putObj (w.heap.size+1) (.loop { rec .ready none with state:=.busy })).heap[w.heap.size]?=some (.deferred (some [])):=(World.putObj_heap_other (by omega)).trans hkV2;refine wpIn_mono (hbody _ pre x a' _ hx ((hIa x a').turn _ hi1 (by omega) hlV rfl)) ?_
     have fin:∀(jump:Option Code) (W3:World),KeepsFrom w.heap.size (V.putObj (w.heap.size+1) (.loop { rec .ready none with state:=.busy })) W3→
         (Instr.endRound (w.heap.size+1) jump).run P W3=.ok (.bool jump.isNone) (W3.putObj (w.heap.size+1) (.loop (rec (if jump.isNone then .ready else .done) jump)))∧
         W3.heap[w.heap.size+1]?=some (.loop { rec .ready none with state:=.busy })∧
         (W3.putObj (w.heap.size+1) (.loop (rec (if jump.isNone then .ready else .done) jump))).heap[w.heap.size+1]?=some (.loop (rec (if jump.isNone then .ready else .done) jump))∧
         (W3.putObj (w.heap.size+1) (.loop (rec (if jump.isNone then .ready else .done) jump))).heap[w.heap.size]?=some (.deferred (some [])):=fun jump W3 hk3=>by
       have hl3:=hk3.same _ _ (by omega) hl2 rfl;have:=run_endRound (P:=P) jump hl3;rw[hrec] at this ⊢;exact⟨this,by rw[hrec] at hl3;exact hl3,World.putObj_heap_same (Array.getElem?_eq_some_iff.1 hl3).1,(World.putObj_heap_other (by omega)).trans (hk3.same _ _ (Nat.le_refl _) hk2 rfl)⟩
     rintro e a3 W3 hp
     cases e with
     |normal=>
      obtain⟨hk3,hi3⟩:=hp;obtain⟨hr,hl3,hl4,hk4⟩:=fin none W3 hk3;exact⟨_,_,hr,.inl ⟨rfl,hI.turn _ hi3 (by omega) hl3 rfl,hl4,hk4⟩⟩
     |ret=>
      obtain⟨hk3,hi3⟩:=hp;obtain⟨hr,hl3,hl4,hk4⟩:=fin (some .ret) W3 hk3;exact⟨_,_,hr,.inr ⟨rfl,.ret,(hIx _).turn _ hi3 (by omega) hl3 rfl,hl4,hk4⟩⟩
     |exit id=>
      obtain⟨hk3,hi3⟩:=hp;obtain⟨hr,hl3,hl4,hk4⟩:=fin (some (.exit id)) W3 hk3;exact⟨_,_,hr,.inr ⟨rfl,.exit id,(hIx _).turn _ hi3 (by omega) hl3 rfl,hl4,hk4⟩⟩
     |goto t=>
      obtain⟨hk3,hi3⟩:=hp;obtain⟨hr,hl3,hl4,hk4⟩:=fin (some (.goto t)) W3 hk3;exact⟨_,_,hr,.inr ⟨rfl,.goto t,(hIx _).turn _ hi3 (by omega) hl3 rfl,hl4,hk4⟩⟩
     |panic ch=>exact hp.elim
     |outgrown=>exact hp.elim
   · rintro e W2 ⟨⟨v,rfl⟩,(⟨hi,hl,hk⟩|⟨pre,c,hi,hl,hk⟩)⟩
     · exact⟨none,_,by have:=run_endLoop (P:=P) hl (by rw[hrec];simp);rw[hrec] at this;exact this,hdone _ _ (Nat.le_refl _) (hI.turn _ hi (by omega) hl rfl) ((World.putObj_heap_other (by omega)).trans hk)⟩
     · exact⟨some c,_,by have:=run_endLoop (P:=P) hl (by rw[hrec];simp);rw[hrec] at this;exact this,hstop _ c pre _ (Nat.le_refl _) ((hIx c).turn _ hi (by omega) hl rfl) ((World.putObj_heap_other (by omega)).trans hk)⟩
end Go.Ms
set_option linter.unusedSimpArgs false
namespace Go.Rel
open Go Go.RowKit
def qNj (ops:Array Oper):Bool:=ops.toList.all fun o=>match o.op with
 | .defer _=>false
 |_=>true
theorem qS3 {ops:Array Oper} {i:Nat} {o:Oper} (h:qNj ops=true) (ho:ops[i]?=some o):∀c,o.op≠.defer c:=by
 intro c hc
 have:=List.all_eq_true.1 h o (Array.mem_toList_iff.2 (Array.mem_of_getElem? ho));rw[hc] at this
 cases this
section
variable {P:Program} {md:Region.Mode} {ops:Array Oper} {a0:Act} {w0:World} {prs:Nat→Value→World→Prop} {o:Oper} {lr n:Nat}
theorem qQa {o:Oper} {a:Act} {w:World} {K:Act→World→Prop} {Q:Exit→Act→World→Prop} (hd:∀c,o.op≠.defer c) (h:qCq P (fun v w'=>K (a.put o.dst v) w') ((execOp a.eval o).run P w)):o.wpIn (Fence.wide.inRound lr) n P a w K Q:=by
 unfold Oper.wpIn;refine⟨fun _ _=>trivial,?_⟩;rw[Fence.inRound_round,Oper.semAt_some lr _ _ hd]
 generalize (execOp a.eval o).run P w=r at *
 cases r with
 |ok x w'=>
  cases x <;> simp only[qCq] at h <;> simp only[Oper.uponIn]
  case enter f args=>exact⟨fun e=>absurd e (by simp[Fence.wide]),(CallsIn.inRound lr (callsIn_wide.2 h)).mono fun e w'' ⟨v,he,hk⟩=>by subst he;exact hk⟩
  all_goals exact h
 |halt x w'=>cases x <;> simp only[qCq] at h
theorem qU7 (hnd:qNj ops=true) (hg:good md ops a0.tmps.size=true) (hp:∀k o,ops[k]?=some o→Prem P md ops a0 w0 prs k o) {Q:Exit→Act→World→Prop}
    (hQ:∀(listed:Array Bool) a w,(∀i,i<ops.size→listed.getD i false=true)→Inv (ops:=ops) (a0:=a0) (w0:=w0) (prs:=prs) listed a w→Q .normal a w) :
    ∀(fuel:Nat) (listed:Array Bool) (a:Act) (w:World),listed.size=ops.size→left listed=fuel→Inv (ops:=ops) (a0:=a0) (w0:=w0) (prs:=prs) listed a w→wpAnyIn (Fence.wide.inRound lr) n P md ops Q fuel listed a w:=by
 intro fuel
 induction fuel with
 | zero=>
  intro listed a w hl h0 hI
  have hall:∀i,i<ops.size→listed.getD i false=true:=by
   intro i hi
   have hil:i<listed.size:=by omega
   unfold left at h0;have:=List.countP_eq_zero.1 h0 (listed[i]) (Array.mem_toList_iff.2 (Array.getElem_mem hil))
   simp[hil]
   simpa using this
  refine⟨?_,hQ _ _ _ hall hI⟩
  apply List.eq_nil_iff_forall_not_mem.2
  intro j hj
  obtain⟨h1,o,ho,_⟩:=mem_ready.1 hj;have hjl:=(Array.getElem?_eq_some_iff.1 ho).1;have:=hall j hjl
  have hjl':j<listed.size:=by omega
  simp[hjl'] at h1 this
  rw[h1] at this
  cases this
 | succ fuel ih=>
  intro listed a w hl h0 hI
  refine⟨fun hr=>?_,fun i hi=>?_⟩
  · exfalso
    have:∃i,i<ops.size∧listed.getD i false=false:=by
     unfold left at h0
     have hpos:0<listed.toList.countP (· ==false):=by omega
     obtain⟨b,hb,hbf⟩:=List.countP_pos_iff.1 hpos;obtain⟨i,hi,hib⟩:=List.getElem_of_mem hb
     have hil:i<listed.size:=by simpa using hi
     refine⟨i,by omega,?_⟩
     have:listed[i]=b:=by simpa using hib
     simp[hil,this]
     simpa using hbf
    obtain⟨i,hi,hu⟩:=this;exact qGr hg hl hi hu hr
  · obtain⟨hu,o,ho,hdep⟩:=mem_ready.1 hi
    have hil:i<listed.size:=by rw[hl];exact(Array.getElem?_eq_some_iff.1 ho).1
    have hstep:∀v w',Below w.heap.size w w'→prs i v w'→wpAnyIn (Fence.wide.inRound lr) n P md ops Q fuel (listed.setIfInBounds i true) (a.put o.dst v) w':=fun v w' hb hv=>
     ih _ _ _ (by simpa using hl) (by have:=qG2 hil hu;omega) (Inv.put hg (fun k o h=>(hp k o h).1) hl ho hI hb hv)
    have hprem:=(hp i o ho).2 a.eval w hI.bel (fun t ht=>?_) (fun _=>rfl) (fun _=>rfl) (fun _=>rfl) (fun k e hk hb d hd=>hI.claim e.on d (hdep e (Array.mem_of_getElem? hk) hb) hd)
    · unfold wpOpIn;rw[ho]
      simp only
      rw[qFu]
      split
      · rename_i hw
        rw[if_pos hw] at hprem;exact(qQa (qS3 hnd ho) (qCm (fun v w' h=>hstep v w' h.1 h.2) hprem))
      · rename_i hw
        rw[if_neg hw] at hprem;exact⟨fun _ _=>trivial,hstep _ _ (Below.refl _ _) hprem⟩
    · have:=hI.base t fun j _ hd=>by rw[qG0 hd] at ht;cases ht
      simp[Act.eval,this]
theorem qKs {id:Nat} {Q:Exit→Act→World→Prop} {l:List Oper} (prs:Nat→Value→World→Prop) {a0:Act} {w0:World} (hm:P.follows .mixedOrders=true) (hnd:qNj l.toArray=true) (hg:good .any l.toArray a0.tmps.size=true)
    (hp:qHd P .any l.toArray a0 w0 prs 0 l) (hend:∀w,Below w0.heap.size w0 w→qAq prs w (fun a=>Q .normal a w) 0 l a0):(Code.region id l.toArray true).wpIn (Fence.wide.inRound lr) n P Q a0 w0:=by
 refine wpIn_region_any hm ?_
 have hpa:∀k o,l.toArray[k]?=some o→Prem P .any l.toArray a0 w0 prs k o:=fun k o h=>by
  have:=qEx l 0 hp k o (by simpa using h)
  rwa [Nat.zero_add] at this
 refine qU7 hnd hg hpa (fun listed a w hall hI=>?_) _ _ _ _ (by simp) ?_ ⟨rfl,rfl,fun _ _=>rfl,fun i d hi=>?_,⟨rfl,rfl,rfl,Nat.le_refl _,fun _ _=>rfl⟩⟩
 · have h := qC2 (fun i=>match qAn l.toArray i with|some d=>a.eval (.tmp d)|none=>undef) l 0 a0 (hend w hI.bel) (fun k hk=>?_)
   · have he :qIe (fun i=>match qAn l.toArray i with|some d=>a.eval (.tmp d)|none=>undef) 0 l a0=a:=by
       obtain⟨h1,h2⟩:=qDp (fun i=>match qAn l.toArray i with|some d=>a.eval (.tmp d)|none=>undef) l 0 a0;refine qId ?_ (h2.trans hI.defers.symm)
       apply Array.ext_getElem?
       intro t
       by_cases ht:t<a0.tmps.size
       · refine qEr _ t _ l 0 a0 ht (fun k o hk hd=>?_) ?_
         · have hdk:qAn l.toArray (0+k)=some t:=by unfold qAn;rw[Nat.zero_add];simp[hk,hd]
           rw[hdk]
           have hta:t<a.tmps.size:=by rw[hI.size];exact ht
           simp[Act.eval,hta]
         · by_cases hex:∃(k:Nat) (o:Oper),l[k]?=some o∧o.dst=some t
           · exact .inr hex
           · left
             refine(hI.base t fun j _ hd=>hex ?_).symm;unfold qAn at hd
             cases hoj:l.toArray[j]? with
             |none=>simp[hoj] at hd
             |some oj=>exact⟨j,oj,by simpa using hoj,by simpa[hoj] using hd⟩
       · rw[Array.getElem?_eq_none (by rw[h1];omega),Array.getElem?_eq_none (by rw[hI.size];omega)]
     rw[he] at h;exact h
   · rw[Nat.zero_add];obtain⟨o,ho⟩:∃o,l.toArray[k]?=some o:=⟨_,Array.getElem?_eq_getElem (by simpa using hk)⟩;obtain⟨d,hd,_⟩:=qD9 hg ho
     have hdk:qAn l.toArray k=some d:=by unfold qAn;rw[ho];exact hd
     have:=hI.claim k d (hall k (by simpa using hk)) hdk;simp only[hdk];exact this
 · unfold left;rw[Array.toList_replicate,List.countP_replicate]
   simp
 · exfalso
   have h2:(Array.replicate l.toArray.size false).getD i false=false:=by
    by_cases h:i<l.length
    · simp[h]
    · simp[h]
   rw[h2] at hi
   cases hi
theorem qDc {id:Nat} {Q:Exit→Act→World→Prop} {l:List Oper} (ps:List (Value→World→Prop)) {a0:Act} {w0:World} (hm:P.follows .mixedOrders=true) (hnd:qNj l.toArray=true) (hg:good .any l.toArray a0.tmps.size=true)
    (hp:qHd P .any l.toArray a0 w0 (sel ps) 0 l) (hend:∀w,Below w0.heap.size w0 w→qAq (sel ps) w (fun a=>Q .normal a w) 0 l a0):(Code.region id l.toArray true).wpIn (Fence.wide.inRound lr) n P Q a0 w0:=qKs (sel ps) hm hnd hg hp hend
end
end Go.Rel
