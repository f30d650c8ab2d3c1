/- A range over a function that only reads what its captured block holds: the law for the loop, and what such an iterator promises. A range over a function that only reads: what is assigned may lie in a box. Evolve: a schema's columns handed over one after the other. Evolve: the ids of a schema's key columns. Evolve: the reference's keys. -/
import Derived.RangeFuncBox
import Derived.RangeFuncCalls
import Derived.RangeFuncBound
import Derived.RangeFuncNested
import Derived.Test.YtikpmmipopmjaaaGreatDoorZQx
import Derived.Test.YtikpmmipopmjaaaGreatDoorZQv
import Derived.Test.YtikpmmipopmjaaaGreatDoorZQs
import Derived.Test.YtikpmmipopmjaaaGreatDoorZQt
set_option linter.unusedVariables false
set_option linter.unusedSimpArgs false
namespace Go.Ms
open Go.RowKit
variable {F:Fence} {n:Nat} {P:Program}
def qLh {β:Type} (base:Nat) (J:β→World→Prop):Prop:=
  ∀s A B row,J s A→A.grownBy B row→(∀r,row=some r→base≤r∧∃o:Obj,A.heap[r]?=some o∧o.isCells=false)→J s B
def qQp {α:Type} (F:Fence) (n:Nat) (P:Program) (g:Nat) (Bs:Nat) (encs:α→Array Value) (xs:List α) (R:World→Prop):Prop:=
  ∀ (l:Nat) (J Jx:List α→World→Prop) (W:World),(∀s A,J s A→R A)→
    (∀s A B,J s A→A.grownBy B none→J s B)→(∀s A B,Jx s A→A.grownBy B none→Jx s B)→
    (∀pre x W1,J pre W1→(pre++[x]) <+: xs→YieldAt F (n-1) P l (encs x) W1 fun e W'=>
     (e=.returned (.bool true)∧J (pre++[x]) W')∨(e=.returned (.bool false)∧Jx (pre++[x]) W'))→
    J [] W→
    CallsIn F n P g #[.func (.yield l) #[] #[],.pointer (some ⟨Bs,0,none⟩)] W fun e W'=>(∃v,e=.returned v)∧(J xs W'∨∃pre,Jx pre W')
def qRu {α:Type} (base:Nat) (I:List α→World→Prop) (Ix:Code→List α→World→Prop) (xs:List α) (W:World):Exit→Act→World→Prop
  | .normal,_,W'=>KeepsFrom base W W'∧I xs W'
  | .ret,_,W'=>KeepsFrom base W W'∧Ix .ret xs W'
  | .exit id,_,W'=>KeepsFrom base W W'∧Ix (.exit id) xs W'
  | .goto t,_,W'=>KeepsFrom base W W'∧Ix (.goto t) xs W'
  | .panic _,_,_=>False
  | .outgrown,_,_=>False
theorem qLh.turn {β:Type} {base:Nat} {J:β→World→Prop} (h:qLh base J) {s:β} {W:World} {l:Nat} {o:Obj} (o':Obj) (hj:J s W) (hl:base≤l) (ho:W.heap[l]?=some o) (hc:o.isCells=false):J s (W.putObj l o'):=
  h s _ _ (some l) hj (grownBy_putObj' W l o') (fun r e=>by cases e;exact⟨hl,o,ho,hc⟩)
theorem qLh.new {β:Type} {base:Nat} {J:β→World→Prop} (h:qLh base J) {s:β} {W:World} (o:Obj) (hj:J s W):J s (W.alloc o):=
  h s _ _ none hj (World.grownBy_alloc W o none) (fun r e=>by cases e)
end Go.Ms
set_option linter.unusedSimpArgs false
namespace Go.Ms
open Go.RowKit
variable {F:Fence} {n:Nat} {P:Program}
theorem qG7 {α:Type} {g:Operand} {ps:Array Tmp} {assign body:Code} {Q:Exit→Act→World→Prop} {a:Act} {w:World}
    (hro:F.round=none) (h1:1≤n) {gf:Nat} {Bs:Nat} {R:World→Prop} (hg:a.eval g=.func (.func gf) #[] #[.pointer (some ⟨Bs,0,none⟩)]) (hFg:F.fn gf) (eg:∀args w,(callFunc gf args).run P w=.ok (.enter gf args) w)
    {encs:α→Array Value} {xs:List α} (hseq:qQp F (n-1) P gf Bs encs xs R) (hps:∀x,(encs x).size=ps.size)
    (I:List α→World→Prop) (I1:α→List α→World→Prop) (Ix:Code→List α→World→Prop) (hR:∀s A,I s A→R A) (hI:qLh w.heap.size I) (hIa:∀x,qLh w.heap.size (I1 x)) (hIx:∀c,qLh w.heap.size (Ix c)) (h0:I [] w) (a₁:α→Act)
    (hassign:∀(l:Nat) (pre:List α) (x:α) (W:World) (K:Act→World→Prop),(pre++[x]) <+: xs→I pre W→(∀W',KeepsFrom w.heap.size W W'→I1 x pre W'→K (a₁ x) W')→
      assign.wpIn (F.inRound l) (n-1-1) P (Exit.then K (fun _ _ _=>False)) { tmps:=(ps.zip (encs x)).foldl (fun t (p,v)=>t.setIfInBounds p v) a.tmps,defers:=[] } W)
    (hbody:∀(l:Nat) (pre:List α) (x:α) (W:World),(pre++[x]) <+: xs→I1 x pre W→body.wpIn (F.inRound l) (n-1-1) P (qRu w.heap.size I Ix (pre++[x]) W) (a₁ x) W)
    (hdone:∀(D:Nat) (W:World),w.heap.size≤D→I xs W→W.heap[D]?=some (.deferred (some []))→Q .normal { a with defers:={ target:=.collected D,args:=#[] }::a.defers } W)
    (hstop:∀(D:Nat) (c:Code) (pre:List α) (W:World),w.heap.size≤D→Ix c pre W→W.heap[D]?=some (.deferred (some []))→c.wpIn F n P Q { a with defers:={ target:=.collected D,args:=#[] }::a.defers } W) :
    (Code.rangeFunc g ps assign body).wpIn F n P Q a w:=by
 refine wpIn_rangeFunc fun fn hfn=>?_
 rw[hro]
 obtain⟨rec,hrec⟩:∃rec:LoopState→Option Code→Loop,rec=fun st pe=>{ state:=st,pending:=pe,fn,tmps:=a.tmps,params:=ps,assign,body,defers:=w.heap.size }:=⟨_,rfl⟩
 obtain⟨W1,hW1⟩:∃W1,(w.alloc (.deferred (some []))).alloc (.loop (rec .ready none))=W1:=⟨_,rfl⟩
 have hL1:W1.heap[w.heap.size+1]?=some (.loop (rec .ready none)):=by
  rw[←hW1];have:=World.alloc_heap_new (w.alloc (.deferred (some []))) (.loop (rec .ready none));rwa [World.size_alloc] at this
 have hK1:W1.heap[w.heap.size]?=some (.deferred (some [])):=by
  rw[←hW1];exact(Below.heap_alloc _ _ _ (by simp)).trans (World.alloc_heap_new w _)
 have hI1:I [] W1:=by rw[←hW1];exact hI.new _ (hI.new _ h0)
 refine⟨w.heap.size+1,[{ target:=.collected w.heap.size,args:=#[] }],W1,{ target:=.fn (.func gf) #[.pointer (some ⟨Bs,0,none⟩)],args:=#[.func (.yield (w.heap.size+1)) #[] #[]] },W1,gf,
   #[.func (.yield (w.heap.size+1)) #[] #[],.pointer (some ⟨Bs,0,none⟩)],W1,?_,?_,?_,?_,fun _=>h1,?_⟩
 · rw[←hW1,hrec];exact run_enterLoop_outer _ _ _ _ _
 · simp only[resolve,hg]
   simp[go_sem]
 · intro f' hf';simp[Target.leads] at hf';subst hf';exact hFg
 · simp[invoke,go_sem,eg]
 · have hkeep:∀{A B:World} {k:Nat} {o:Obj},A.grownBy B none→A.heap[k]?=some o→B.heap[k]?=some o:=
     fun hg' ho=>(hg'.block _ (Array.getElem?_eq_some_iff.1 ho).1 (by simp)).trans ho
   refine(hseq (w.heap.size+1)
     (fun pre W=>I pre W∧W.heap[w.heap.size+1]?=some (.loop (rec .ready none))∧W.heap[w.heap.size]?=some (.deferred (some [])))
     (fun pre W=> ∃c,Ix c pre W∧W.heap[w.heap.size+1]?=some (.loop (rec .done (some c)))∧W.heap[w.heap.size]?=some (.deferred (some [])))
     W1 (fun s A hs=>hR s A hs.1)
     (fun s A B hs hg'=>⟨hI s A B none hs.1 hg' (fun r e=>by cases e),hkeep hg' hs.2.1,hkeep hg' hs.2.2⟩)
     (fun s A B hs hg'=>by
      obtain⟨c,hc,hl,hk⟩:=hs
      exact⟨c,hIx c s A B none hc hg' (fun r e=>by cases e),hkeep hg' hl,hkeep hg' hk⟩)
     ?_ ⟨hI1,hL1,hK1⟩).mono ?_
   · rintro pre x W ⟨hi,hl,hk⟩ hx;have hlt:w.heap.size+1<W.heap.size:=(Array.getElem?_eq_some_iff.1 hl).1;have hy:=run_yield (P:=P) (args:=encs x) hl (by rw[hrec];exact hps x);rw[hrec] at hy;refine⟨fn,_,assign,body,hy,roundIn_of_wpIn hfn (hassign _ pre x W _ hx hi fun V hkV hi1=>?_)⟩;have hlV:=hkV.same _ _ (by omega) hl rfl;have hkV2:=hkV.same _ _ (Nat.le_refl _) hk rfl;have hltV:w.heap.size+1<V.heap.size:=(Array.getElem?_eq_some_iff.1 hlV).1;refine⟨_,run_beginRound hlV (by rw[hrec]),?_⟩
     have hl2:(V.putObj (w.heap.size+1) (.loop { rec .ready none with state:=.busy })).heap[w.heap.size+1]?=some (.loop { rec .ready none with state:=.busy }):=World.putObj_heap_same hltV;have hk2:(V.putObj (w.heap.size+1) (.loop { rec .ready none with state:=.busy })).heap[w.heap.size]?=some (.deferred (some [])):=(World.putObj_heap_other (by omega)).trans hkV2;refine wpIn_mono (hbody _ pre x _ hx ((hIa x).turn _ hi1 (by omega) hlV rfl)) ?_
     have fin:∀(jump:Option Code) (W3:World),KeepsFrom w.heap.size (V.putObj (w.heap.size+1) (.loop { rec .ready none with state:=.busy })) W3→
         (Instr.endRound (w.heap.size+1) jump).run P W3=.ok (.bool jump.isNone) (W3.putObj (w.heap.size+1) (.loop (rec (if jump.isNone then .ready else .done) jump)))∧
         W3.heap[w.heap.size+1]?=some (.loop { rec .ready none with state:=.busy })∧
         (W3.putObj (w.heap.size+1) (.loop (rec (if jump.isNone then .ready else .done) jump))).heap[w.heap.size+1]?=some (.loop (rec (if jump.isNone then .ready else .done) jump))∧
         (W3.putObj (w.heap.size+1) (.loop (rec (if jump.isNone then .ready else .done) jump))).heap[w.heap.size]?=some (.deferred (some [])):=fun jump W3 hk3=>by
       have hl3:=hk3.same _ _ (by omega) hl2 rfl;have:=run_endRound (P:=P) jump hl3;rw[hrec] at this ⊢;exact⟨this,by rw[hrec] at hl3;exact hl3,World.putObj_heap_same (Array.getElem?_eq_some_iff.1 hl3).1,(World.putObj_heap_other (by omega)).trans (hk3.same _ _ (Nat.le_refl _) hk2 rfl)⟩
     rintro e a3 W3 hp
     cases e with
     |normal=>
      obtain⟨hk3,hi3⟩:=hp;obtain⟨hr,hl3,hl4,hk4⟩:=fin none W3 hk3;exact⟨_,_,hr,.inl ⟨rfl,hI.turn _ hi3 (by omega) hl3 rfl,hl4,hk4⟩⟩
     |ret=>
      obtain⟨hk3,hi3⟩:=hp;obtain⟨hr,hl3,hl4,hk4⟩:=fin (some .ret) W3 hk3;exact⟨_,_,hr,.inr ⟨rfl,.ret,(hIx _).turn _ hi3 (by omega) hl3 rfl,hl4,hk4⟩⟩
     |exit id=>
      obtain⟨hk3,hi3⟩:=hp;obtain⟨hr,hl3,hl4,hk4⟩:=fin (some (.exit id)) W3 hk3;exact⟨_,_,hr,.inr ⟨rfl,.exit id,(hIx _).turn _ hi3 (by omega) hl3 rfl,hl4,hk4⟩⟩
     |goto t=>
      obtain⟨hk3,hi3⟩:=hp;obtain⟨hr,hl3,hl4,hk4⟩:=fin (some (.goto t)) W3 hk3;exact⟨_,_,hr,.inr ⟨rfl,.goto t,(hIx _).turn _ hi3 (by omega) hl3 rfl,hl4,hk4⟩⟩
     |panic ch=>exact hp.elim
     |outgrown=>exact hp.elim
   · rintro e W2 ⟨⟨v,rfl⟩,(⟨hi,hl,hk⟩|⟨pre,c,hi,hl,hk⟩)⟩
     · exact⟨none,_,by have:=run_endLoop (P:=P) hl (by rw[hrec];simp);rw[hrec] at this;exact this,hdone _ _ (Nat.le_refl _) (hI.turn _ hi (by omega) hl rfl) ((World.putObj_heap_other (by omega)).trans hk)⟩
     · exact⟨some c,_,by have:=run_endLoop (P:=P) hl (by rw[hrec];simp);rw[hrec] at this;exact this,hstop _ c pre _ (Nat.le_refl _) ((hIx c).turn _ hi (by omega) hl rfl) ((World.putObj_heap_other (by omega)).trans hk)⟩
end Go.Ms
set_option linter.unusedSimpArgs false
namespace Go.Ms
open Go.RowKit Go.Lib
structure qWm (tS:TypeId) (Bx:Nat) (A:Option Addr) (n cap:Nat) (B:Option Addr) (m capm:Nat) (cs:List Co) (ks:List Int) (W:World):Prop where
  box:W.heap[Bx]?=some (.cells #[.slice A n cap,.slice B m capm] tS (0,0))
  lay:Lay W W.heap.size A (colV cs)
  layk:Lay W W.heap.size B (intV ks)
theorem qWm.below {tS:TypeId} {Bx:Nat} {A:Option Addr} {n cap:Nat} {B:Option Addr} {m capm:Nat} {cs:List Co} {ks:List Int} {W W':World} (h:qWm tS Bx A n cap B m capm cs ks W) (hb:Below W.heap.size W W'):qWm tS Bx A n cap B m capm cs ks W':=
  ⟨qAb h.box hb,(h.lay.below hb).more hb.size,(h.layk.below hb).more hb.size⟩
end Go.Ms
namespace Go.Proofs.YtikpmmipopmjaaaGreatDoor
open Go.RowKit Go.Ms Go.Lib Go.Shelf
attribute [local go_sem] Oper.semAt_some
abbrev qQ0 (Bx:Nat) (A:Option Addr) (n cap:Nat) (B:Option Addr) (m capm:Nat) (cs:List Co) (ks:List Int) (W:World):Prop:=qWm 25 Bx A n cap B m capm cs ks W
theorem qPh (A B:Option Addr) (n cap m capm:Nat) (w:World):Calls Tryz.prog 72 #[.agg #[.slice A n cap,.slice B m capm]] w fun e w'=>e=.returned (.func (.func 95) #[] #[.pointer (some ⟨w.heap.size,0,none⟩)])∧w'=w.alloc (.cells #[.slice A n cap,.slice B m capm] 25):=by
 go_enter Tryz.func72,Tryz.ntmps72
 go_wp2_with fail
 go_ret
 exact⟨rfl,rfl⟩
set_option maxRecDepth 100000 in
set_option maxHeartbeats 4000000 in
theorem qPm (d:Nat) (Bx:Nat) (A B:Option Addr) (n cap m capm:Nat) (cs:List Co) (ks:List Int) (hn:n=cs.length) (hn':n≤100000) :
    qQp Fence.wide d Tryz.prog 95 Bx (fun c:Co=>#[.int .i64 c.1,coA c]) cs (qQ0 Bx A n cap B m capm cs ks):=by
 intro l J Jx W hR hJ hJx hY h0
 have hbx:=hR _ _ h0;have c0:=cell_of_block (i:=0) hbx.box rfl
 have HR:=Lib.hid hR;have HN:=Lib.hid hn
 clear hR hn hbx;refine callsIn_of_wp Tryz.func95 rfl trivial ?_ rfl;simp only[Tryz.ntmps95,List.size_toArray,List.length_cons,List.length_nil,Nat.reduceAdd,Nat.reduceSub,Array.replicate_succ,Array.replicate_zero,List.push_toArray,List.append_toArray,List.nil_append,List.cons_append]
 have hdp:Fence.wide.depth.isSome=true→1≤d:=fun h=>absurd h (by decide)
 gi_wp2
 gi_loopw [8] (fun i wr=> ∃k:Nat,i=.int .i64 k∧k≤n∧J (cs.take k) wr) (fun i _=>n-(RowKit.intOf i).toNat)
 case atStart=>exact⟨0,rfl,by omega,h0⟩
 case round=>
  obtain⟨k,rfl,hk,hj⟩:=hrel;have HJ:=Lib.hid hj;clear hj
  by_cases hlk:k<n
  · have hki:(k:Int)<n:=by omega
    obtain⟨c,hc⟩:∃c,cs[k]?=some c:=⟨_,List.getElem?_eq_getElem (by rw[←HN.out];exact hlk)⟩
    have hpre:cs.take k++[c] <+: cs:=by
     have e:cs.take (k+1)=cs.take k++[c]:=by rw[List.take_add_one,hc];rfl
     rw[←e];exact List.take_prefix _ _
    have hsn:cs.take (k+1)=cs.take k++[c]:=by rw[List.take_add_one,hc];rfl
    have hsc:=HR.out _ _ HJ.out;obtain⟨g,o,rfl,hg,g1,g2,g3,g4,g5,g6,g7⟩:=hsc.lay.co hc;obtain⟨i0,s0,⟨k0,u0⟩,n0,m0,t0⟩:=c;simp only at g1 g2 g3 g4 g5 g6 g7;have hjn:=hJ _ _ _ HJ.out (World.grownBy_alloc wr (.cells #[.int .i64 i0,.string s0,.int .i64 k0,.bool u0,.bool n0,.int .i64 m0,.string t0] 59) none);obtain⟨fn,tmps,assign,body,hy,hr⟩:=hY _ _ _ hjn hpre;simp only[coA] at hy
    have HRR:=Lib.hid hr;have HSN:=Lib.hid hsn
    clear hr hsn hsc hpre hjn hc
    gi_wp2
    refine⟨hdp,HRR.out.mono ?_⟩;rintro e W' (⟨rfl,hj2⟩|⟨rfl,hx2⟩)
    · have HJ2:=Lib.hid hj2;clear hj2 hy
      gi_wp2
      go_roundw
      case rel=>exact⟨k+1,by go_num,by omega,by rw[HSN.out];exact HJ2.out⟩
      case measure=>simp[RowKit.intOf];omega
    · clear hy
      gi_wp2
      refine bodyPost_ret (results_none rfl _ _ _) rfl ?_;exact⟨⟨_,rfl⟩,.inr ⟨_,hx2⟩⟩
  · have hki:¬(k:Int)<n:=by omega
    have hall:cs.take k=cs:=List.take_of_length_le (by have:=HN.out;omega);have HALL:=Lib.hid hall;clear hall
    gi_wp2
    go_end0
    refine⟨⟨_,rfl⟩,.inl ?_⟩;rw[←HALL.out];exact HJ.out
set_option maxRecDepth 100000 in
set_option maxHeartbeats 4000000 in
theorem qF9 (A B:Option Addr) (n cap m capm:Nat) (cs:List Co) (ks:List Int) (w:World) (hn:n=cs.length) (hn':n≤100000) (hA:Lay w w.heap.size A (colV cs)) (hB:Lay w w.heap.size B (intV ks)) :
    Calls Tryz.prog 42 #[.agg #[.slice A n cap,.slice B m capm]] w fun e w'=>e=.returned (.int .i64 (qA7 cs))∧Below w.heap.size w w':=by
 have HN:=Lib.hid hn;have HA:=Lib.hid hA;have HB:=Lib.hid hB
 clear hn hA hB;refine(callsIn_wide (n:=6)).1 ?_
 have hdp:Fence.wide.depth.isSome=true→1≤6:=fun h=>absurd h (by decide)
 refine callsIn_of_wp_marks Tryz.func42 rfl trivial ?_ rfl;simp only[Tryz.ntmps42,List.size_toArray,List.length_cons,List.length_nil,Nat.reduceAdd,Nat.reduceSub,Array.replicate_succ,Array.replicate_zero,List.push_toArray,List.append_toArray,List.nil_append,List.cons_append]
 gi_wp2_with (refine⟨trivial,?_⟩;gi_at_call 72;refine(callsIn_wide.2 (qPh A B n cap m capm _)).mono ?_;rintro e w' ⟨rfl,hw⟩;rw[hw];clear hw)
 obtain⟨X,hX⟩:∃X,X=((w.alloc (.cells #[.slice A n cap,.slice B m capm] 25)).alloc (.cells #[.int .i64 0] 3)).alloc (.cells #[.slice A n cap,.slice B m capm] 25):=⟨_,rfl⟩
 have bX:Below w.heap.size w X:=by rw[hX];exact(((Below.refl _ w).alloc (Nat.le_refl _) _).alloc (by simp only[World.size_alloc];omega) _).alloc (by simp only[World.size_alloc];omega) _
 have sX:X.heap.size=w.heap.size+3:=by rw[hX];simp only[World.size_alloc]
 have q1:X.heap[w.heap.size+1]?=some (.cells #[.int .i64 0] 3 (0,0)):=by rw[hX];have:=qAf (w.alloc (.cells #[.slice A n cap,.slice B m capm] 25)) (.cells #[.int .i64 0] 3);rw[World.size_alloc] at this;exact qAe this _
 have q2:X.heap[w.heap.size+2]?=some (.cells #[.slice A n cap,.slice B m capm] 25 (0,0)):=by rw[hX];have:=qAf ((w.alloc (.cells #[.slice A n cap,.slice B m capm] 25)).alloc (.cells #[.int .i64 0] 3)) (.cells #[.slice A n cap,.slice B m capm] 25);rw[World.size_alloc,World.size_alloc] at this;exact this
 rw[←hX];clear hX
 refine qG7 rfl (by omega) (gf:=95) (Bs:=w.heap.size+1+1) (R:=qQ0 (w.heap.size+1+1) A n cap B m capm cs ks) rfl trivial (enters_of Tryz.func95 (by kernel_rfl) rfl) (qPm 5 (w.heap.size+1+1) A B n cap m capm cs ks HN.out hn') (fun _=>rfl)
   (fun pre W=>W.heap[w.heap.size+1]?=some (.cells #[.int .i64 (qA7 pre)] 3 (0,0))∧W.heap[w.heap.size+2]?=some (.cells #[.slice A n cap,.slice B m capm] 25 (0,0))∧Below w.heap.size w W)
   (fun x pre W=>W.heap[w.heap.size+1]?=some (.cells #[.int .i64 (qA7 (pre++[x]))] 3 (0,0))∧W.heap[w.heap.size+2]?=some (.cells #[.slice A n cap,.slice B m capm] 25 (0,0))∧Below w.heap.size w W)
   (fun _ _ _=>False) ?hR ?hI ?hIa ?hIx ?h0
   (fun x=>{ tmps:=#[.agg #[.slice A n cap,.slice B m capm],.pointer (some ⟨w.heap.size,0,none⟩),.pointer (some ⟨w.heap.size+1,0,none⟩),.agg #[.slice A n cap,.slice B m capm],.func (.func 95) #[] #[.pointer (some ⟨w.heap.size+1+1,0,none⟩)],.int .i64 x.1,coA x,undef],defers:=[] }) ?assign ?body ?done ?stop
 case hR=>exact fun s W h=>⟨h.2.1,(HA.out.below h.2.2).more h.2.2.size,(HB.out.below h.2.2).more h.2.2.size⟩
 case hI=>
  rintro pre V V' row ⟨h1,h2,h3⟩ hg hr
  have hne:∀k:Nat,k<w.heap.size+3→some k≠row:=fun k hk e=>by have:=(hr k e.symm).1;omega
  exact⟨(hg.block _ (Array.getElem?_eq_some_iff.1 h1).1 (hne _ (by omega))).trans h1,(hg.block _ (Array.getElem?_eq_some_iff.1 h2).1 (hne _ (by omega))).trans h2,h3.grown hg h3.size (fun k e=>by have:=(hr k e).1;omega)⟩
 case hIa=>
  rintro x pre V V' row ⟨h1,h2,h3⟩ hg hr
  have hne:∀k:Nat,k<w.heap.size+3→some k≠row:=fun k hk e=>by have:=(hr k e.symm).1;omega
  exact⟨(hg.block _ (Array.getElem?_eq_some_iff.1 h1).1 (hne _ (by omega))).trans h1,(hg.block _ (Array.getElem?_eq_some_iff.1 h2).1 (hne _ (by omega))).trans h2,h3.grown hg h3.size (fun k e=>by have:=(hr k e).1;omega)⟩
 case hIx=>exact fun c s V V' row h _ _=>h.elim
 case h0=>exact⟨q1,q2,bX⟩
 case assign=>
  rintro l pre x W K hp ⟨h1,h2,h3⟩ hK;have y1:=cell_of_block (i:=0) h1 rfl;have f1:=qAa (i:=0) h1;have hK2:=hK (W.setCell ⟨w.heap.size+1,0,none⟩ (.int .i64 x.1)) ((KeepsOthers.setCell W _ _).from _) ⟨by rw[qVq];exact Go.Ms.one_set h1 _,qAj h2 (by omega) _,h3.setCell (p:=⟨w.heap.size+1,0,none⟩) (by simp only;omega) _⟩;have HK:=Lib.hid hK2;clear hK hK2 h1 h2 h3 hp
  gi_wp2
  exact HK.out
 case body=>
  rintro l pre x W hp hi;have HI:=Lib.hid hi;clear hi hp
  gi_wp2
  exact⟨KeepsFrom.refl _ _,HI.out⟩
 case stop=>exact fun D c pre W hD h=>h.elim
 case done=>
  rintro D W hD ⟨h1,h2,h3⟩ hK;have y1:=cell_of_block (i:=0) h1 rfl;have f1:=qAa (i:=0) h1
  have H1:=Lib.hid h1;have H3:=Lib.hid h3;have HK:=Lib.hid hK
  clear h1 h2 h3 hK
  gi_wp2
  have hk2:(W.setCell ⟨w.heap.size+1,0,none⟩ (.int .i64 (qA7 cs))).heap[D]?=some (.deferred (some [])):=qAj HK.out (by omega) _;have hb1:=Go.Ms.one_set H1.out (.int .i64 (qA7 cs));have z1:=cell_of_block (i:=0) (qBg (o':=.deferred none) hb1 (show w.heap.size+1≠D by omega)) rfl;refine⟨by simp,.inl ⟨_,_,rfl,run_takeDeferred hk2,?_⟩⟩;refine⟨.int .i64 (qA7 cs),?_,?_⟩
  · simp[results,Tryz.results42,Tryz.f42,go_sem,z1]
  · exact⟨rfl,(H3.out.setCell (p:=⟨w.heap.size+1,0,none⟩) (by simp only;omega) _).grown (grownBy_putObj' _ D (.deferred none)) (H3.out.setCell (p:=⟨w.heap.size+1,0,none⟩) (by simp only;omega) (.int .i64 (qA7 cs))).size (fun k e=>by cases e;omega)⟩
end Go.Proofs.YtikpmmipopmjaaaGreatDoor
set_option linter.unusedSimpArgs false
namespace Go.Ms
open Go.RowKit Go.Lib
def qJu (cs:List Co) (ks:List Int):Prop:= ∀k∈ks,0≤k∧k<cs.length
theorem qKt (cs:List Co) (ks:List Int) {k:Nat} {q:Int} {c:Co} (hq:ks[k]?=some q) (h0:0≤q) (hc:cs[q.toNat]?=some c):(qA4 (cs,ks)).take (k+1)=(qA4 (cs,ks)).take k++[c.1]:=by
 unfold qA4;rw[List.take_add_one,List.getElem?_map,hq]
 simp[List.getD_eq_getElem?_getD,hc]
theorem qEh (cs:List Co) (ks:List Int):(qA4 (cs,ks)).length=ks.length:=by unfold qA4;rw[List.length_map]
end Go.Ms
namespace Go.Proofs.YtikpmmipopmjaaaGreatDoor
open Go.RowKit Go.Ms Go.Lib Go.Shelf
set_option maxRecDepth 100000 in
set_option maxHeartbeats 2000000 in
theorem qMj (A B:Option Addr) (n cap m capm:Nat) (cs:List Co) (ks:List Int) (w:World) (hn:n=cs.length) (hm:m=ks.length) (hn':n≤100000) (hm':m≤100000) (hA:Lay w w.heap.size A (colV cs)) (hB:Lay w w.heap.size B (intV ks)) (hk:qJu cs ks) :
    Calls Tryz.prog 78 #[.agg #[.slice A n cap,.slice B m capm]] w fun e w'=> ∃v,e=.returned v∧OwnI w' w.heap.size 3 v (qA4 (cs,ks))∧Below w.heap.size w w':=by
 obtain⟨ii,ki,kz0,kz1,kz2⟩:=info_parts qGz
 have HN:=Lib.hid hn;have HM:=Lib.hid hm;have HA:=Lib.hid hA;have HB:=Lib.hid hB;have HKI:=Lib.hid hk
 have hb0:(w.alloc (.cells #[.slice A n cap,.slice B m capm] 25)).heap[w.heap.size]?=some (.cells #[.slice A n cap,.slice B m capm] 25 (0,0)):=qAf _ _;have H0:=Lib.hid hb0;have c1:=cell_of_block (i:=1) hb0 rfl;clear hn hm hA hB hk hb0
 go_enter Tryz.func78,Tryz.ntmps78
 go_wp2_with fail
 go_loopw [2,8] (fun v i wr=> ∃k:Nat,i=.int .i64 k∧k≤m∧wr.ownsRow (w.heap.size+1) 3 1 v k (intV ((qA4 (cs,ks)).take k))∧wr.heap[w.heap.size]?=some (.cells #[.slice A n cap,.slice B m capm] 25 (0,0))∧Below w.heap.size w wr∧w.heap.size+1≤wr.heap.size) (fun _ i _=>m-(RowKit.intOf i).toNat)
 case atStart=>exact⟨0,rfl,by omega,World.ownsRow_nil _ _ _ _,H0.out,(Below.refl _ w).alloc (Nat.le_refl _) _,by rw[World.size_alloc];omega⟩
 case round=>
  obtain⟨k,rfl,hk,hown,hbx,hbw,hsz⟩:=hrel;obtain⟨A3,c3,rfl,hc3,hcm3⟩:=qAg hown
  have OW:=Lib.hid hown;have HBX:=Lib.hid hbx;have HBW:=Lib.hid hbw
  have d0:=cell_of_block (i:=0) hbx rfl;clear hown hbx hbw
  by_cases hlk:k<m
  · have hki:(k:Int)<m:=by omega
    obtain⟨q,hq⟩:∃q,ks[k]?=some q:=⟨_,List.getElem?_eq_getElem (by rw[←HM.out];exact hlk)⟩;obtain⟨q0,q1⟩:=HKI.out q (List.mem_of_getElem? hq);obtain⟨t,rfl⟩:∃t:Nat,q=t:=⟨q.toNat,by omega⟩
    have htn:t<n:=by rw[HN.out];omega
    have hti:(t:Int)<n:=by omega
    obtain⟨c,hc⟩:∃c,cs[t]?=some c:=⟨_,List.getElem?_eq_getElem (by rw[←HN.out];exact htn)⟩;obtain⟨g,o,rfl,hg,h1⟩:=HB.out.num hq;obtain⟨g',o',rfl,hg',j1,-⟩:=HA.out.co hc;have g1:=(HBW.out.cell hg).trans h1;have g2:=(HBW.out.cell hg').trans j1;have htk:=qKt cs ks hq q0 hc;obtain⟨x,hx⟩:∃x,c.1=x:=⟨_,rfl⟩;rw[hx] at g2 htk;have HTK:=Lib.hid htk;clear hq q0 q1 hc hg h1 hg' j1 htk hx
    have hnew:Lay (wr.alloc (.cells #[.int .i64 x] 3)) (wr.alloc (.cells #[.int .i64 x] 3)).heap.size (some ⟨wr.heap.size,0,none⟩) (intV [x]):=qBo wr [.int .i64 x] 3;have bal:=(Below.refl wr.heap.size wr).alloc (Nat.le_refl _) (.cells #[.int .i64 x] 3);have hO6:=own_below OW.out bal
    have hz6:w.heap.size+1≤(wr.alloc (.cells #[.int .i64 x] 3)).heap.size:=by rw[World.size_alloc];omega
    have O6:=Lib.hid hO6;have HNew:=Lib.hid hnew;have BAL:=Lib.hid bal
    clear hO6 hnew bal
    go_wp2_with (first
      |(at_builtin;refine qAk rfl (.tmp 12) (.tmp 19) _ rfl (w.heap.size+1) 3 ii _ 1 8 Tryz.underlying23 ki kz0 kz1 kz2 rfl (by omega) _ _ _ rfl O6.out _ (some ⟨wr.heap.size,0,none⟩) 1 1 (intV [x]) rfl rfl HNew.out (qGx _) (by unfold maxLen;omega) (by omega) hz6 ?_;intro v7 w7 hown7 hg7;have HO7:=Lib.hid hown7;have HBX7:=Lib.hid ((hg7.block _ (Array.getElem?_eq_some_iff.1 (qAb HBX.out BAL.out)).1 (fun e=>by have:=(World.ownsRow.lt O6.out _ e.symm).1;omega)).trans (qAb HBX.out BAL.out));have HB7:=Lib.hid (qBr O6.out (HBW.out.trans (BAL.out.mono HBW.out.size)) (by omega) (by omega) hg7);have hz7:=Nat.le_trans hz6 hg7.size;clear hown7 hg7))
    go_roundw
    case rel=>
     refine⟨k+1,by go_num,by omega,?_,HBX7.out,HB7.out,hz7⟩;rw[HTK.out,qJr];exact HO7.out
    case measure=>simp[RowKit.intOf];omega
  · have hki:¬(k:Int)<m:=by omega
    obtain rfl:k=m:=by omega
    have hall:(qA4 (cs,ks)).take k=qA4 (cs,ks):=List.take_of_length_le (by rw[qEh];have:=HM.out;omega)
    have hl:(qA4 (cs,ks)).length=k:=by rw[qEh];exact HM.out.symm
    have hfin:OwnI wr w.heap.size 3 (.slice A3 k c3) (qA4 (cs,ks)):=by
     have:=qBp OW.out (show w.heap.size≤w.heap.size+1 by omega);rw[hall] at this;unfold OwnI;rw[hl];exact this
    have HF:=Lib.hid hfin;clear hall hl hfin
    go_wp2_with fail
    go_ret
    exact⟨_,rfl,HF.out,HBW.out⟩
end Go.Proofs.YtikpmmipopmjaaaGreatDoor
set_option linter.unusedSimpArgs false
namespace Go.Proofs.YtikpmmipopmjaaaGreatDoor
open Go.RowKit Go.Ms Go.Lib Go.Shelf
set_option maxRecDepth 100000 in
set_option maxHeartbeats 2000000 in
theorem qJ9 (A B:Option Addr) (n cap m capm:Nat) (cs:List Co) (ks:List Int) (w:World) (hn:n=cs.length) (hm:m=ks.length) (hn':n≤100000) (hm':m≤100000) (hA:Lay w w.heap.size A (colV cs)) (hB:Lay w w.heap.size B (intV ks)) (hk:qJu cs ks) :
    Calls Tryz.prog 81 #[.agg #[.slice A n cap,.slice B m capm]] w fun e w'=> ∃v,e=.returned v∧OwnI w' w.heap.size 3 v (qA4 (cs,ks))∧Below w.heap.size w w':=by
 obtain⟨ii,ki,kz0,kz1,kz2⟩:=info_parts qGz
 have HN:=Lib.hid hn;have HM:=Lib.hid hm;have HA:=Lib.hid hA;have HB:=Lib.hid hB;have HKI:=Lib.hid hk
 have hb0:(w.alloc (.cells #[.slice A n cap,.slice B m capm] 25)).heap[w.heap.size]?=some (.cells #[.slice A n cap,.slice B m capm] 25 (0,0)):=qAf _ _;have H0:=Lib.hid hb0;have c1:=cell_of_block (i:=1) hb0 rfl;clear hn hm hA hB hk hb0
 go_enter Tryz.func81,Tryz.ntmps81
 go_wp2_with fail
 go_loopw [3,4] (fun v i wr=> ∃k:Nat,i=.int .i64 k∧k≤m∧wr.ownsRow (w.heap.size+1) 3 1 v k (intV ((qA4 (cs,ks)).take k))∧wr.heap[w.heap.size]?=some (.cells #[.slice A n cap,.slice B m capm] 25 (0,0))∧Below w.heap.size w wr∧w.heap.size+1≤wr.heap.size) (fun _ i _=>m-(RowKit.intOf i).toNat)
 case atStart=>exact⟨0,rfl,by omega,World.ownsRow_nil _ _ _ _,H0.out,(Below.refl _ w).alloc (Nat.le_refl _) _,by rw[World.size_alloc];omega⟩
 case round=>
  obtain⟨k,rfl,hk,hown,hbx,hbw,hsz⟩:=hrel;obtain⟨A3,c3,rfl,hc3,hcm3⟩:=qAg hown
  have OW:=Lib.hid hown;have HBX:=Lib.hid hbx;have HBW:=Lib.hid hbw
  have d0:=cell_of_block (i:=0) hbx rfl;have d1:=cell_of_block (i:=1) hbx rfl;clear hown hbx hbw
  by_cases hlk:k<m
  · have hki:(k:Int)<m:=by omega
    obtain⟨q,hq⟩:∃q,ks[k]?=some q:=⟨_,List.getElem?_eq_getElem (by rw[←HM.out];exact hlk)⟩;obtain⟨q0,q1⟩:=HKI.out q (List.mem_of_getElem? hq);obtain⟨t,rfl⟩:∃t:Nat,q=t:=⟨q.toNat,by omega⟩
    have htn:t<n:=by rw[HN.out];omega
    have hti:(t:Int)<n:=by omega
    obtain⟨c,hc⟩:∃c,cs[t]?=some c:=⟨_,List.getElem?_eq_getElem (by rw[←HN.out];exact htn)⟩;obtain⟨g,o,rfl,hg,h1⟩:=HB.out.num hq;obtain⟨g',o',rfl,hg',j1,-⟩:=HA.out.co hc;have g1:=(HBW.out.cell hg).trans h1;have g2:=(HBW.out.cell hg').trans j1;have htk:=qKt cs ks hq q0 hc;obtain⟨x,hx⟩:∃x,c.1=x:=⟨_,rfl⟩;rw[hx] at g2 htk;have HTK:=Lib.hid htk;clear hq q0 q1 hc hg h1 hg' j1 htk hx
    have hnew:Lay (wr.alloc (.cells #[.int .i64 x] 3)) (wr.alloc (.cells #[.int .i64 x] 3)).heap.size (some ⟨wr.heap.size,0,none⟩) (intV [x]):=qBo wr [.int .i64 x] 3;have bal:=(Below.refl wr.heap.size wr).alloc (Nat.le_refl _) (.cells #[.int .i64 x] 3);have hO6:=own_below OW.out bal
    have hz6:w.heap.size+1≤(wr.alloc (.cells #[.int .i64 x] 3)).heap.size:=by rw[World.size_alloc];omega
    have bdr:Below (wr.alloc (.cells #[.int .i64 x] 3)).heap.size (wr.alloc (.cells #[.int .i64 x] 3)) (wr.alloc (.cells #[.int .i64 x] 3)).drew:=qAc (Below.refl _ _) 1;have hO6d:=own_below hO6 bdr;have hnewd:Lay (wr.alloc (.cells #[.int .i64 x] 3)).drew (wr.alloc (.cells #[.int .i64 x] 3)).drew.heap.size (some ⟨wr.heap.size,0,none⟩) (intV [x]):=hnew.below bdr;have hbald:Below wr.heap.size wr (wr.alloc (.cells #[.int .i64 x] 3)).drew:=bal.trans (bdr.mono bal.size)
    have O6:=Lib.hid hO6d;have HNew:=Lib.hid hnewd;have BAL:=Lib.hid hbald
    clear bdr hO6d hnewd hbald;clear hO6 hnew bal
    go_wp2_with fail
    go_region_law (first
      |(refine qKg rfl (.tmp 12) (.tmp 23) 23 rfl (w.heap.size+1) 3 ii _ 1 8 Tryz.underlying23 ki kz0 kz1 kz2 rfl (by omega) (.slice A3 k c3) k (intV ((qA4 (cs,ks)).take k)) rfl O6.out _ (some ⟨wr.heap.size,0,none⟩) 1 1 (intV [x]) rfl rfl HNew.out (qGx _) (by unfold maxLen;omega) (by omega) hz6 ?_;intro v7 w7 hown7 hg7;have HO7:=Lib.hid hown7;have HBX7:=Lib.hid ((hg7.block _ (Array.getElem?_eq_some_iff.1 (qAb HBX.out BAL.out)).1 (fun e=>by have:=(World.ownsRow.lt O6.out _ e.symm).1;omega)).trans (qAb HBX.out BAL.out));have HB7:=Lib.hid (qBr O6.out (HBW.out.trans (BAL.out.mono HBW.out.size)) (Nat.le_trans (Nat.le_succ _) hz6) (by omega) hg7);have hz7:=Nat.le_trans hz6 hg7.size;clear hown7 hg7))
    all_goals (go_wp2_with fail)
    all_goals (go_roundw)
    all_goals first
      | (refine⟨k+1,by go_num,by omega,?_,HBX7.out,HB7.out,hz7⟩
         rw[HTK.out,qJr]
         exact HO7.out)
      |(simp[RowKit.intOf];omega)
  · have hki:¬(k:Int)<m:=by omega
    obtain rfl:k=m:=by omega
    have hall:(qA4 (cs,ks)).take k=qA4 (cs,ks):=List.take_of_length_le (by rw[qEh];have:=HM.out;omega)
    have hl:(qA4 (cs,ks)).length=k:=by rw[qEh];exact HM.out.symm
    have hfin:OwnI wr w.heap.size 3 (.slice A3 k c3) (qA4 (cs,ks)):=by
     have:=qBp OW.out (show w.heap.size≤w.heap.size+1 by omega);rw[hall] at this;unfold OwnI;rw[hl];exact this
    have HF:=Lib.hid hfin;clear hall hl hfin
    go_wp2_with fail
    go_ret
    exact⟨_,rfl,HF.out,HBW.out⟩
end Go.Proofs.YtikpmmipopmjaaaGreatDoor
