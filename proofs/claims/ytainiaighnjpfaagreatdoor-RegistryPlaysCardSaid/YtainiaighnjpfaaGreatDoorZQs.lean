/- A range over a function that keeps what is left to come in a box of its own: the law for the loop, and what such an iterator promises. Lines: the library's iterator hands over a text's lines, one after the other. Names counted by a map: how many there are. Schemas: the reference's names; numbers that rise. -/
import Derived.Test.YtainiaighnjpfaaGreatDoorZQo
import Derived.Shelf.Abstract
import Derived.Shelf.AbstractIn
import Derived.Shelf.RegionOpen
import Derived.OwnWalkIn
import Derived.TacticsInMore
import Derived.LoopNIn
import Derived.LoopIn
import Derived.Maps.Own
import Derived.Maps.OwnOps
import Derived.Maps.OwnSet
import Derived.Maps.Views
set_option maxHeartbeats 4000000
set_option maxRecDepth 100000
set_option linter.unusedVariables false
set_option linter.unusedSimpArgs false
namespace Go.Ms
open Go.RowKit
variable {F:Fence} {n:Nat} {P:Program}
def Calm {β:Type} (Bs base:Nat) (J:β→World→Prop):Prop:=
  ∀s A B row,J s A→A.grownBy B row→(∀r,row=some r→r=Bs∨(base≤r∧∃o:Obj,A.heap[r]?=some o∧o.isCells=false))→J s B
def qXx {α:Type} (F:Fence) (n:Nat) (P:Program) (g:Nat) (Bs:Nat) (ty:TypeId) (encs:α→Array Value) (xs:List α) (s0:Value):Prop:=
  ∀ (l:Nat) (J Jx:List α→World→Prop) (W:World),Boxed W Bs ty s0→
    (∀s A B row,J s A→A.grownBy B row→(∀r,row=some r→r=Bs)→J s B)→(∀s A B row,Jx s A→A.grownBy B row→(∀r,row=some r→r=Bs)→Jx s B)→
    (∀pre x W1,J pre W1→(pre++[x]) <+: xs→YieldAt F (n-1) P l (encs x) W1 fun e W'=>
     (e=.returned (.bool true)∧J (pre++[x]) W'∧W'.heap[Bs]?=W1.heap[Bs]?)∨(e=.returned (.bool false)∧Jx (pre++[x]) W'))→
    J [] W→
    CallsIn F n P g #[.func (.yield l) #[] #[],.pointer (some ⟨Bs,0,none⟩)] W fun e W'=>(∃v,e=.returned v)∧(J xs W'∨∃pre,Jx pre W')
def qZa {α:Type} (Bs base:Nat) (I:List α→World→Prop) (Ix:Code→List α→World→Prop) (xs:List α) (W:World):Exit→Act→World→Prop
  | .normal,_,W'=>KeepsFrom base W W'∧W'.heap[Bs]?=W.heap[Bs]?∧I xs W'
  | .ret,_,W'=>KeepsFrom base W W'∧Ix .ret xs W'
  | .exit id,_,W'=>KeepsFrom base W W'∧Ix (.exit id) xs W'
  | .goto t,_,W'=>KeepsFrom base W W'∧Ix (.goto t) xs W'
  | .panic _,_,_=>False
  | .outgrown,_,_=>False
theorem Calm.turn {β:Type} {Bs base:Nat} {J:β→World→Prop} (h:Calm Bs base J) {s:β} {W:World} {l:Nat} {o:Obj} (o':Obj) (hj:J s W) (hl:base≤l) (ho:W.heap[l]?=some o) (hc:o.isCells=false):J s (W.putObj l o'):=
  h s _ _ (some l) hj (grownBy_putObj' W l o') (fun r e=>by cases e;exact .inr ⟨hl,o,ho,hc⟩)
theorem Calm.new {β:Type} {Bs base:Nat} {J:β→World→Prop} (h:Calm Bs base J) {s:β} {W:World} (o:Obj) (hj:J s W):J s (W.alloc o):=
  h s _ _ none hj (World.grownBy_alloc W o none) (fun r e=>by cases e)
theorem qGw {α:Type} {g:Operand} {ps:Array Tmp} {assign body:Code} {Q:Exit→Act→World→Prop} {a:Act} {w:World}
    (hro:F.round=none) (h1:1≤n) {gf:Nat} {Bs:Nat} {ty:TypeId} {s0:Value} (hg:a.eval g=.func (.func gf) #[] #[.pointer (some ⟨Bs,0,none⟩)]) (hFg:F.fn gf) (eg:∀args w,(callFunc gf args).run P w=.ok (.enter gf args) w)
    {encs:α→Array Value} {xs:List α} (hbx:Boxed w Bs ty s0) (hseq:qXx F (n-1) P gf Bs ty encs xs s0) (hps:∀x,(encs x).size=ps.size)
    (I:List α→World→Prop) (Ix:Code→List α→World→Prop) (hI:Calm Bs w.heap.size I) (hIx:∀c,Calm Bs w.heap.size (Ix c)) (h0:I [] w) (a₁:α→Act)
    (hassign:∀(l:Nat) (x:α) (W:World) (K:Act→World→Prop),K (a₁ x) W→
      assign.wpIn (F.inRound l) (n-1-1) P (Exit.then K (fun _ _ _=>False)) { tmps:=(ps.zip (encs x)).foldl (fun t (p,v)=>t.setIfInBounds p v) a.tmps,defers:=[] } W)
    (hbody:∀(l:Nat) (pre:List α) (x:α) (W:World),(pre++[x]) <+: xs→I pre W→body.wpIn (F.inRound l) (n-1-1) P (qZa Bs w.heap.size I Ix (pre++[x]) W) (a₁ x) W)
    (hdone:∀(D:Nat) (W:World),w.heap.size≤D→I xs W→W.heap[D]?=some (.deferred (some []))→Q .normal { a with defers:={ target:=.collected D,args:=#[] }::a.defers } W)
    (hstop:∀(D:Nat) (c:Code) (pre:List α) (W:World),w.heap.size≤D→Ix c pre W→W.heap[D]?=some (.deferred (some []))→c.wpIn F n P Q { a with defers:={ target:=.collected D,args:=#[] }::a.defers } W) :
    (Code.rangeFunc g ps assign body).wpIn F n P Q a w:=by
 have hBlt:Bs<w.heap.size:=hbx.lt;refine wpIn_rangeFunc fun fn hfn=>?_
 rw[hro];obtain⟨rec,hrec⟩:∃rec:LoopState→Option Code→Loop,rec=fun st pe=>{ state:=st,pending:=pe,fn,tmps:=a.tmps,params:=ps,assign,body,defers:=w.heap.size }:=⟨_,rfl⟩
 obtain⟨W1,hW1⟩:∃W1,(w.alloc (.deferred (some []))).alloc (.loop (rec .ready none))=W1:=⟨_,rfl⟩
 have hL1:W1.heap[w.heap.size+1]?=some (.loop (rec .ready none)):=by
  rw[←hW1];have:=World.alloc_heap_new (w.alloc (.deferred (some []))) (.loop (rec .ready none));rwa [World.size_alloc] at this
 have hK1:W1.heap[w.heap.size]?=some (.deferred (some [])):=by
  rw[←hW1];exact(Below.heap_alloc _ _ _ (by simp)).trans (World.alloc_heap_new w _)
 have hI1:I [] W1:=by rw[←hW1];exact hI.new _ (hI.new _ h0)
 have hbx1:Boxed W1 Bs ty s0:=by rw[←hW1];exact(hbx.alloc _).alloc _
 refine⟨w.heap.size+1,[{ target:=.collected w.heap.size,args:=#[] }],W1,{ target:=.fn (.func gf) #[.pointer (some ⟨Bs,0,none⟩)],args:=#[.func (.yield (w.heap.size+1)) #[] #[]] },W1,gf,
   #[.func (.yield (w.heap.size+1)) #[] #[],.pointer (some ⟨Bs,0,none⟩)],W1,?_,?_,?_,?_,fun _=>h1,?_⟩
 · rw[←hW1,hrec];exact run_enterLoop_outer _ _ _ _ _
 · simp only[resolve,hg];simp[go_sem]
 · intro f' hf';simp[Target.leads] at hf';subst hf';exact hFg
 · simp[invoke,go_sem,eg]
 · have hkeep:∀{A B:World} {row:Option Nat} {k:Nat} {o:Obj},A.grownBy B row→(∀r,row=some r→r=Bs)→w.heap.size≤k→A.heap[k]?=some o→B.heap[k]?=some o:=
     fun hg' hr hk ho=>(hg'.block _ (Array.getElem?_eq_some_iff.1 ho).1 (fun e=>by have:=hr _ e.symm;omega)).trans ho
   refine(hseq (w.heap.size+1)
     (fun pre W=>I pre W∧W.heap[w.heap.size+1]?=some (.loop (rec .ready none))∧W.heap[w.heap.size]?=some (.deferred (some [])))
     (fun pre W=> ∃c,Ix c pre W∧W.heap[w.heap.size+1]?=some (.loop (rec .done (some c)))∧W.heap[w.heap.size]?=some (.deferred (some [])))
     W1 hbx1
     (fun s A B row hs hg' hr=>⟨hI s A B row hs.1 hg' (fun r e=>.inl (hr r e)),hkeep hg' hr (by omega) hs.2.1,hkeep hg' hr (by omega) hs.2.2⟩)
     (fun s A B row hs hg' hr=>by
      obtain⟨c,hc,hl,hk⟩:=hs
      exact⟨c,hIx c s A B row hc hg' (fun r e=>.inl (hr r e)),hkeep hg' hr (by omega) hl,hkeep hg' hr (by omega) hk⟩)
     ?_ ⟨hI1,hL1,hK1⟩).mono ?_
   · rintro pre x W ⟨hi,hl,hk⟩ hx;have hlt:w.heap.size+1<W.heap.size:=(Array.getElem?_eq_some_iff.1 hl).1;have hy:=run_yield (P:=P) (args:=encs x) hl (by rw[hrec];exact hps x);rw[hrec] at hy;refine⟨fn,_,assign,body,hy,roundIn_of_wpIn hfn (hassign _ x W _ ⟨_,run_beginRound hl (by rw[hrec]),?_⟩)⟩;have hl2:(W.putObj (w.heap.size+1) (.loop { rec .ready none with state:=.busy })).heap[w.heap.size+1]?=some (.loop { rec .ready none with state:=.busy }):=World.putObj_heap_same hlt;have hk2:(W.putObj (w.heap.size+1) (.loop { rec .ready none with state:=.busy })).heap[w.heap.size]?=some (.deferred (some [])):=(World.putObj_heap_other (by omega)).trans hk;have hb2:(W.putObj (w.heap.size+1) (.loop { rec .ready none with state:=.busy })).heap[Bs]?=W.heap[Bs]?:=World.putObj_heap_other (by omega);refine wpIn_mono (hbody _ pre x _ hx (hI.turn _ hi (by omega) hl rfl)) ?_
     have fin:∀(jump:Option Code) (W3:World),KeepsFrom w.heap.size (W.putObj (w.heap.size+1) (.loop { rec .ready none with state:=.busy })) W3→
         (Instr.endRound (w.heap.size+1) jump).run P W3=.ok (.bool jump.isNone) (W3.putObj (w.heap.size+1) (.loop (rec (if jump.isNone then .ready else .done) jump)))∧
         W3.heap[w.heap.size+1]?=some (.loop { rec .ready none with state:=.busy })∧
         (W3.putObj (w.heap.size+1) (.loop (rec (if jump.isNone then .ready else .done) jump))).heap[w.heap.size+1]?=some (.loop (rec (if jump.isNone then .ready else .done) jump))∧
         (W3.putObj (w.heap.size+1) (.loop (rec (if jump.isNone then .ready else .done) jump))).heap[w.heap.size]?=some (.deferred (some [])):=fun jump W3 hk3=>by
       have hl3:=hk3.same _ _ (by omega) hl2 rfl;have:=run_endRound (P:=P) jump hl3;rw[hrec] at this ⊢;exact⟨this,by rw[hrec] at hl3;exact hl3,World.putObj_heap_same (Array.getElem?_eq_some_iff.1 hl3).1,(World.putObj_heap_other (by omega)).trans (hk3.same _ _ le_ hk2 rfl)⟩
     rintro e a3 W3 hp
     cases e with
     |normal=>
      obtain⟨hk3,hb3,hi3⟩:=hp;obtain⟨hr,hl3,hl4,hk4⟩:=fin none W3 hk3;exact⟨_,_,hr,.inl ⟨rfl,⟨hI.turn _ hi3 (by omega) hl3 rfl,hl4,hk4⟩,(World.putObj_heap_other (by omega)).trans (hb3.trans hb2)⟩⟩
     |ret=>
      obtain⟨hk3,hi3⟩:=hp;obtain⟨hr,hl3,hl4,hk4⟩:=fin (some .ret) W3 hk3;exact⟨_,_,hr,.inr ⟨rfl,.ret,(hIx _).turn _ hi3 (by omega) hl3 rfl,hl4,hk4⟩⟩
     |exit id=>
      obtain⟨hk3,hi3⟩:=hp;obtain⟨hr,hl3,hl4,hk4⟩:=fin (some (.exit id)) W3 hk3;exact⟨_,_,hr,.inr ⟨rfl,.exit id,(hIx _).turn _ hi3 (by omega) hl3 rfl,hl4,hk4⟩⟩
     |goto t=>
      obtain⟨hk3,hi3⟩:=hp;obtain⟨hr,hl3,hl4,hk4⟩:=fin (some (.goto t)) W3 hk3;exact⟨_,_,hr,.inr ⟨rfl,.goto t,(hIx _).turn _ hi3 (by omega) hl3 rfl,hl4,hk4⟩⟩
     |panic ch=>exact hp.elim
     |outgrown=>exact hp.elim
   · rintro e W2 ⟨⟨v,rfl⟩,(⟨hi,hl,hk⟩|⟨pre,c,hi,hl,hk⟩)⟩
     · exact⟨none,_,by have:=run_endLoop (P:=P) hl (by rw[hrec];simp);rw[hrec] at this;exact this,hdone _ _ le_ (hI.turn _ hi (by omega) hl rfl) ((World.putObj_heap_other (by omega)).trans hk)⟩
     · exact⟨some c,_,by have:=run_endLoop (P:=P) hl (by rw[hrec];simp);rw[hrec] at this;exact this,hstop _ c pre _ le_ ((hIx c).turn _ hi (by omega) hl rfl) ((World.putObj_heap_other (by omega)).trans hk)⟩
end Go.Ms
namespace Go.Ms
open Go.RowKit Go.Lib
def qE0 (s:Bs):List Bs:=(qBh s).1.map (fun l=>l++[10])++(if (qBh s).2=[] then [] else [(qBh s).2])
def qB3 (s:ByteArray):List ByteArray:=(qE0 s.data.toList).map fun l=>⟨l.toArray⟩
theorem qRe {s x y:Bs} (h:cutAt 10 s=some (x,y)):qE0 s=(x++[10])::qE0 y:=by
 obtain⟨e,hn⟩:=qCm h;unfold qE0;rw[e,qJb hn];rfl
theorem qO6 {s:Bs} (h:cutAt 10 s=none) (h0:s≠[]):qE0 s=[s]:=by
 unfold qE0;rw[qIb (qH2.1 h)];simp[h0]
def qJ1 (Bs:Nat) (w:World):Nat:=match w.cell? ⟨Bs,0,none⟩ with
 |some (.string s)=>s.size
 |_=>0
end Go.Ms
namespace Go.Proofs.YtainiaighnjpfaaGreatDoor
open Go.RowKit Go.Ms Go.Lib Go.Shelf
attribute [local go_sem] Oper.semAt_some
theorem qUi (n:Nat) (Bx:Nat) (S:ByteArray) (hS:S.size≤2000000) :
    qXx Fence.wide n Tryz.prog 119 Bx 9 (fun x:ByteArray=>#[.string x]) (qB3 S) (.string S):=by
 intro l J Jx W hbx hJ hJx hY h0;refine callsIn_of_wp Tryz.func119 rfl trivial ?_ rfl;simp only[Tryz.ntmps119,List.size_toArray,List.length_cons,List.length_nil,Nat.reduceAdd,Nat.reduceSub,Array.replicate_succ,Array.replicate_zero,List.push_toArray,List.append_toArray,List.nil_append,List.cons_append];have hdp:Fence.wide.depth.isSome=true→1≤n:=fun h=>absurd h (by decide)
 gi_wp2
 gi_loopw [3] (fun _ wr=> ∃(pre:List ByteArray) (rest:ByteArray),Boxed wr Bx 9 (.string rest)∧qB3 S=pre++qB3 rest∧J pre wr∧rest.size≤2000000) (fun _ wr=>qJ1 Bx wr)
 case atStart=>exact⟨[],S,hbx,rfl,h0,hS⟩
 case round=>
  obtain⟨pre,rest,hb,hl,hj,hz⟩:=hrel;have c0:=hb.cell;have f0:=hb.frozen;have HB:=hh_ hb;have HL:=hh_ hl;have HJ:=hh_ hj;clear hb hl hj;by_cases hr:rest.size=0
  · have hr':¬(0:Int)<rest.size:=by omega
    have hle:qB3 rest=[]:=by
     have:rest.data.toList=[]:=List.eq_nil_of_length_eq_zero (by simpa using hr);unfold qB3;rw[this];rfl
    have HLE:=hh_ hle;clear hle;gi_wp2
    go_end0;refine⟨⟨_,rfl⟩,.inl ?_⟩;rw[HL.out,HLE.out,List.append_nil];exact HJ.out
  · have hr':(0:Int)<rest.size:=by omega
    rcases qGv (c:=10) (s:=rest.data.toList) with⟨hc,hi⟩|⟨x,y,hc,hi,ht,hd⟩
    · have hne:rest.data.toList≠[]:=fun e=>hr (by have:=congrArg List.length e;simpa using this)
      have hls:qB3 rest=[rest]:=by
       unfold qB3;rw[qO6 hc hne];rfl
      have HLS:=hh_ hls
      have hix:CallsIn Fence.wide (n-1) Tryz.prog 120 #[.string rest,.int .u8 10] wr fun e w'=>e=.returned (.int .i64 (-1))∧w'=wr:=by
       have:=callsIn_wide (n:=n-1) |>.2 (Tryz.strings_IndexByte rest 10 wr);rw[show((10:Int).toNat.toUInt8)=10 from rfl,hi] at this;exact this
      have HIX:=hh_ hix;clear hls hix hne hc hi;have hwx:J pre ((wr.setCell ⟨Bx,0,none⟩ (.string ⟨#[]⟩))):=hJ _ _ _ (some Bx) HJ.out (grownBy_setCell' wr Bx _) (fun r e=>by cases e;rfl);obtain⟨fn,tmps,assign,body,hy,hR⟩:=hY pre rest _ hwx (by rw[HL.out,HLS.out];exact List.prefix_rfl);gi_wp2_with (refine⟨trivial,hdp,?_⟩;gi_at_call 120;refine HIX.out.mono ?_;rintro e w' ⟨rfl,hw⟩;rw[hw];clear hw)
      refine⟨hdp,hR.mono ?_⟩;rintro e W' (⟨rfl,hJ',hk⟩|⟨rfl,hJx'⟩)
      · have hb2:Boxed W' Bx 9 (.string ⟨#[]⟩):=hk.trans (HB.out.set _)
        have hm:qJ1 Bx W'<qJ1 Bx wr:=by
         unfold qJ1;rw[hb2.cell,HB.out.cell];show(0:Nat)<rest.size
         omega
        have HB2:=hh_ hb2;have HM:=hh_ hm;have HJ2:=hh_ hJ';clear hb2 hm hJ' hk hy hR hwx;gi_wp2
        go_roundw
        case rel=>exact⟨pre++[rest],⟨#[]⟩,HB2.out,by rw[HL.out,HLS.out];simp[qB3,qE0,qBh],HJ2.out,by show(0:Nat)≤_;omega⟩
        case measure=>exact HM.out
      · clear hy hR hwx;gi_wp2
        refine bodyPost_ret (results_none rfl _ _ _) rfl ?_;exact⟨⟨_,rfl⟩,.inr ⟨_,hJx'⟩⟩
    · have hls:qB3 rest=⟨(x++[10]).toArray⟩::qB3 ⟨y.toArray⟩:=by
        unfold qB3;rw[qRe hc];rfl
      have hxl:x.length+1≤rest.size:=by
       obtain⟨e,_⟩:=qCm hc;have:=congrArg List.length e;simp at this;omega
      have hix:CallsIn Fence.wide (n-1) Tryz.prog 120 #[.string rest,.int .u8 10] wr fun e w'=>e=.returned (.int .i64 (x.length:Nat))∧w'=wr:=by
       have:=callsIn_wide (n:=n-1) |>.2 (Tryz.strings_IndexByte rest 10 wr);rw[show((10:Int).toNat.toUInt8)=10 from rfl,hi] at this;exact this
      obtain⟨i,hil⟩:∃i,x.length=i:=⟨_,rfl⟩;rw[hil] at hix hxl hd
      have e1:rest.extract 0 (i+1)=⟨(x++[10]).toArray⟩:=by
       apply qBu;rw[ext_list,List.drop_zero];obtain⟨e,_⟩:=qCm hc;rw[e,←hil];rw[show x++10::y=(x++[10])++y by simp,List.take_left' (by simp)]
      have e2:rest.extract (i+1) rest.size=⟨y.toArray⟩:=by
       apply qBu;rw[ext_list,List.take_of_length_le (by simp)];exact hd
      have HLS:=hh_ hls;have HIX:=hh_ hix;have E1:=hh_ e1;have E2:=hh_ e2;clear hls hix hc hi ht hd e1 e2;have i1:(i:Int)+1≤rest.size:=by omega
      have i2:(0:Int)≤(i:Int)+1:=by omega
      gi_wp2_with (refine⟨trivial,hdp,?_⟩;gi_at_call 120;refine HIX.out.mono ?_;rintro e w' ⟨rfl,hw⟩;rw[hw];clear hw)
      have hwx:J pre (wr.setCell ⟨Bx,0,none⟩ (.string (rest.extract (i+1) rest.size))).drew:=hJ _ _ _ (some Bx) HJ.out ⟨(grownBy_setCell' wr Bx (.string (rest.extract (i+1) rest.size))).os,(grownBy_setCell' wr Bx (.string (rest.extract (i+1) rest.size))).tape,(grownBy_setCell' wr Bx (.string (rest.extract (i+1) rest.size))).output,(grownBy_setCell' wr Bx (.string (rest.extract (i+1) rest.size))).size,(grownBy_setCell' wr Bx (.string (rest.extract (i+1) rest.size))).block⟩ (fun r e=>by cases e;rfl);obtain⟨fn,tmps,assign,body,hy,hR⟩:=hY pre (rest.extract 0 (i+1)) _ hwx ⟨qB3 ⟨y.toArray⟩,by rw[HL.out,HLS.out,E1.out];simp⟩;have HR:=hh_ hR;clear hR hwx;gi_region
      gi_wp2
      refine⟨hdp,HR.out.mono ?_⟩;rintro e W' (⟨rfl,hJ',hk⟩|⟨rfl,hJx'⟩)
      · have hb2:Boxed W' Bx 9 (.string (rest.extract (i+1) rest.size)):=hk.trans (HB.out.set _);have hsz:(rest.extract (i+1) rest.size).size<rest.size:=by rw[ByteArray.size_extract];omega
        have hm:qJ1 Bx W'<qJ1 Bx wr:=by
         unfold qJ1;rw[hb2.cell,HB.out.cell];exact hsz
        have hrl:qB3 S=(pre++[rest.extract 0 (i+1)])++qB3 (rest.extract (i+1) rest.size):=by
         rw[HL.out,HLS.out,E1.out,E2.out];simp
        have HB2:=hh_ hb2;have HM:=hh_ hm;have HJ2:=hh_ hJ';have HRL:=hh_ hrl;have HSZ:=hh_ hsz;clear hb2 hm hJ' hk hy hrl hsz;gi_wp2
        go_roundw
        case rel=>exact⟨pre++[rest.extract 0 (i+1)],rest.extract (i+1) rest.size,HB2.out,HRL.out,HJ2.out,by have:=HSZ.out;omega⟩
        case measure=>exact HM.out
      · clear hy;gi_wp2
        refine bodyPost_ret (results_none rfl _ _ _) rfl ?_;exact⟨⟨_,rfl⟩,.inr ⟨_,hJx'⟩⟩
end Go.Proofs.YtainiaighnjpfaaGreatDoor
namespace Go.Ms
open Go.Lib Go.Maps
structure qFh {H:Type} (D:DataW H) (l:List ByteArray):Prop where
  tidy:Tidy D
  has:∀x:ByteArray,Maps.has D (.string x.data.toList)=true↔x∈l
  le:Maps.size D≤l.length
  iff:Maps.size D=l.length↔l.Nodup
theorem qFh.nil {H:Type}:qFh (H:=H) (.map []) []:=⟨tidy_empty,fun x=>by simp[Maps.has],Nat.le_refl _,by simp[Maps.size]⟩
theorem qFh.put {H:Type} {D:DataW H} {l:List ByteArray} (h:qFh D l) (x:ByteArray) (d:DataW H):qFh (D.put (.string x.data.toList) d) (l++[x]):=by
 have hk:WideAt.IsKeyLit (.string x.data.toList):=trivial;have hs:=Maps.size_put (k:=.string x.data.toList) h.tidy d;have hx:=h.has x;have hle:=h.le;refine⟨h.tidy.put hk d,fun y=>?_,?_,?_⟩
 · by_cases e:y=x
   · subst e;rw[has_put_same h.tidy.isMap hk];simp
   · have hne:(Lit.string y.data.toList)≠.string x.data.toList:=by
       intro e2;injection e2 with e3
       exact e (by cases x;cases y;simp only[Array.toList_inj] at e3;rw[e3])
     rw[has_put_other hne,h.has y];simp[e]
 · rw[hs,List.length_append,List.length_singleton];split <;> omega
 · rw[hs,List.length_append,List.length_singleton];by_cases hm:x∈l
   · have:¬(l++[x]).Nodup:=by
       intro hn;rw[List.nodup_append] at hn;exact hn.2.2 x hm x (by simp) rfl
     rw[if_pos (hx.2 hm)];simp only[this,iff_false];omega
   · have:(l++[x]).Nodup↔l.Nodup:=by
       rw[List.nodup_append];constructor
       · exact fun h=>h.1
       · intro hn;refine⟨hn,by simp,fun a ha b hb=>?_⟩;simp at hb;rintro rfl;exact hm (hb▸ha)
     rw[this,←h.iff,if_neg (fun e=>hm (hx.1 e))];omega
end Go.Ms
namespace Go.Proofs.YtainiaighnjpfaaGreatDoor
open Go.RowKit Go.Ms Go.Lib
theorem qB0 (S:ByteArray) (w:World) (hs:S.size≤100000) :
    Calls Tryz.prog 57 #[.string S] w fun e w'=>e=.returned (.bool (isNm S.data.toList))∧Below w.heap.size w w':=by
 have hlen:S.data.toList.length=S.size:=by simp
 by_cases h0:S.size=0
 · have hn:isNm S.data.toList=false:=by unfold isNm;rw[hlen,h0];rfl
   have h0':(S.size:Int)<1:=by omega
   rw[hn];clear hn hlen;go_enter Tryz.func57,Tryz.ntmps57;go_wp2_with fail
   go_ret;exact⟨rfl,Below.refl _ _⟩
 have h0':¬(S.size:Int)<1:=by omega
 by_cases h1:32<S.size
 · have hn:isNm S.data.toList=false:=by unfold isNm;rw[hlen,decide_eq_false (by omega:¬S.size≤32)];simp
   have h1':(32:Int)<S.size:=by omega
   rw[hn];clear hn hlen;go_enter Tryz.func57,Tryz.ntmps57;go_wp2_with fail
   go_ret;exact⟨rfl,Below.refl _ _⟩
 have h1':¬(32:Int)<S.size:=by omega
 have HLen:=hh_ hlen;clear hlen;go_enter Tryz.func57,Tryz.ntmps57;go_wp2_with fail
 go_loopw [3] (fun id wr=> ∃k:Nat,k≤S.size∧id=.int .i64 k∧Below w.heap.size w wr∧∀(j:Nat) c,j<k→S.data.toList[j]?=some c→qDg c=true∧(j=0→qCs c=true)) (fun id _=>S.size-(RowKit.intOf id).toNat)
 case atStart=>exact⟨0,by omega,rfl,Below.refl _ _,fun j c h=>absurd h (by omega)⟩
 case round =>
  obtain⟨k,hk,rfl,hb0,hp⟩:=hrel;have HP:=hh_ hp;have HBW:=hh_ hb0;clear hp hb0;by_cases hlk:k<S.size
  · have hki:(k:Int)<S.size:=by omega
    obtain⟨c,hc⟩:∃c,S[k]'hlk=c:=⟨_,rfl⟩
    have hcl:S.data.toList[k]?=some c:=by
     rw[List.getElem?_eq_getElem (by rw[HLen.out];exact hlk),←hc];rfl
    have HCL:=hh_ hcl;clear hcl;by_cases g1:97≤c.toNat∧c.toNat≤122
    · have g2:(97:Int)≤c.toNat:=by omega
      have g3:(c.toNat:Int)≤122:=by omega
      have hok:qCs c=true:=by unfold qCs;simp[g1]
      have HOK:=hh_ hok;clear hok;go_wp2_with fail
      go_roundw
      case rel=>
       refine⟨k+1,by omega,by go_num,HBW.out,fun j d hj hd=>?_⟩;by_cases e:j=k
       · subst e;rw[HCL.out] at hd;cases hd;exact⟨by unfold qDg;rw[HOK.out];rfl,fun _=>HOK.out⟩
       · exact HP.out j d (by omega) hd
      case measure=>simp[RowKit.intOf];omega
    · have hf :qCs c=false:=by
        unfold qCs;by_cases g:97≤c.toNat
        · rw[decide_eq_false (by omega:¬c.toNat≤122),Bool.and_false]
        · rw[decide_eq_false g,Bool.false_and]
      have HF:=hh_ hf;clear hf
      have hbad:¬(qDg c=true∧(k=0→qCs c=true))→isNm S.data.toList=false:=by
       intro hb
       cases he:isNm S.data.toList with
       |false=>rfl
       |true=>
        exfalso;apply hb;unfold isNm at he;simp only[Bool.and_eq_true] at he;refine⟨List.all_eq_true.1 he.2 c (List.mem_of_getElem? HCL.out),fun h0=>?_⟩;subst h0;have:=he.1.2;rw[List.getD_eq_getElem?_getD,HCL.out] at this;exact this
      have HBAD:=hh_ hbad;clear hbad;by_cases hk0:k=0
      · subst hk0;have hn:=HBAD.out (fun h=>by have:=h.2 rfl;rw[HF.out] at this;cases this);have HNN:=hh_ hn;clear hn;by_cases g2:(97:Int)≤c.toNat
        · have g3:¬(c.toNat:Int)≤122:=by omega
          go_wp2_with fail
          go_ret;exact⟨congrArg (fun b=>Ending.returned (.bool b)) HNN.out.symm,HBW.out⟩
        · go_wp2_with fail
          go_ret;exact⟨congrArg (fun b=>Ending.returned (.bool b)) HNN.out.symm,HBW.out⟩
      · have hk1:((k:Int)==0)=false:=by simp;omega
        have hk2:¬(k:Int)=0:=by omega
        by_cases hb:qDg c=true
        · have HB:=hh_ hb
          have hgood:c.toNat=95∨(c.toNat≠95∧48≤c.toNat∧c.toNat≤57):=by
           unfold qDg at hb;rw[HF.out] at hb;simp only[Bool.or_eq_true,Bool.and_eq_true,decide_eq_true_eq,Bool.false_eq_true,false_or] at hb;omega
          clear hb
          have hrel':∃k':Nat,k'≤S.size∧Value.int .i64 ((k:Int)+1)=.int .i64 k'∧Below w.heap.size w wr∧∀(j:Nat) d,j<k'→S.data.toList[j]?=some d→qDg d=true∧(j=0→qCs d=true):=by
           refine⟨k+1,by omega,by go_num,HBW.out,fun j d hj hd=>?_⟩;by_cases e:j=k
           · subst e;rw[HCL.out] at hd;cases hd;exact⟨HB.out,fun h=>absurd h hk0⟩
           · exact HP.out j d (by omega) hd
          have HR:=hh_ hrel';clear hrel';rcases hgood with g5|⟨g5,g6,g7⟩
          · have g2:¬(97:Int)≤c.toNat∨¬(c.toNat:Int)≤122:=by omega
            have g8:(c.toNat:Int)=95:=by omega
            have g9:((c.toNat:Int) != 95)=false:=by simp[g8]
            by_cases gx:(97:Int)≤c.toNat
            · have gy:¬(c.toNat:Int)≤122:=by omega
              go_wp2_with fail
              go_roundw
              case rel=>simpa using HR.out
              case measure=>simp[RowKit.intOf];omega
            · go_wp2_with fail
              go_roundw
              case rel=>simpa using HR.out
              case measure=>simp[RowKit.intOf];omega
          · have g2:¬(97:Int)≤c.toNat:=by omega
            have g9:((c.toNat:Int) != 95)=true:=by simp;omega
            have ga:¬(c.toNat:Int)<48:=by omega
            have gb:¬(57:Int)<c.toNat:=by omega
            go_wp2_with fail
            go_roundw
            case rel=>simpa using HR.out
            case measure=>simp[RowKit.intOf];omega
        · have hn:=HBAD.out (fun h=>hb h.1)
          have hb2:c.toNat≠95∧(c.toNat<48∨57<c.toNat):=by
           unfold qDg at hb;simp only[Bool.or_eq_true,Bool.and_eq_true,decide_eq_true_eq,not_or,not_and] at hb;omega
          have g9:((c.toNat:Int) != 95)=true:=by simp;omega
          have HNN:=hh_ hn;clear hn hb;by_cases g2:(97:Int)≤c.toNat
          · have g3:¬(c.toNat:Int)≤122:=by omega
            have ga:¬(c.toNat:Int)<48:=by omega
            have gb:(57:Int)<c.toNat:=by omega
            go_wp2_with fail
            go_ret;exact⟨congrArg (fun b=>Ending.returned (.bool b)) HNN.out.symm,HBW.out⟩
          · by_cases ga:(c.toNat:Int)<48
            · go_wp2_with fail
              go_ret;exact⟨congrArg (fun b=>Ending.returned (.bool b)) HNN.out.symm,HBW.out⟩
            · have gb:(57:Int)<c.toNat:=by omega
              go_wp2_with fail
              go_ret;exact⟨congrArg (fun b=>Ending.returned (.bool b)) HNN.out.symm,HBW.out⟩
  · have hki:¬(k:Int)<S.size:=by omega
    have hn:isNm S.data.toList=true:=by
     unfold isNm
     have h5:S.data.toList.all qDg=true:=List.all_eq_true.2 fun c hc=>by
      obtain⟨j,hj⟩:=List.getElem?_of_mem hc;have:=(List.getElem?_eq_some_iff.1 hj).1;exact(HP.out j c (by have:=HLen.out;omega) hj).1
     have h6:qCs (S.data.toList.getD 0 0)=true:=by
      have hl:0<S.data.toList.length:=by rw[HLen.out];omega
      rw[List.getD_eq_getElem?_getD,List.getElem?_eq_getElem hl];exact(HP.out 0 _ (by omega) (List.getElem?_eq_getElem hl)).2 rfl
     rw[h5,h6,HLen.out];simp;omega
    have HNN:=hh_ hn;clear hn;go_wp2_with fail
    go_ret;exact⟨congrArg (fun b=>Ending.returned (.bool b)) HNN.out.symm,HBW.out⟩
theorem qNz (w:World) (A:Option Addr) (n cap:Nat) (l:List Int) (lo hi:Int) (hn':n≤maxLen) (hn:n=l.length) (hA:Lay w w.heap.size A (intV l)) :
    Calls Tryz.prog 73 #[.slice A n cap,.int .i64 lo,.int .i64 hi] w fun e w'=>e=.returned (.bool (qEh l lo hi))∧Below w.heap.size w w':=by
 unfold maxLen at hn';have hiff:=qDs l lo hi;have HI:=hh_ hiff;have HA:=hh_ hA;have HN:=hh_ hn;clear hiff hA hn;go_enter Tryz.func73,Tryz.ntmps73;go_wp2_with fail
 go_loopw [11] (fun id wr=> ∃k:Nat,k≤n∧id=.int .i64 k∧Below w.heap.size w wr∧(∀(j:Nat) x,j<k→l[j]?=some x→lo≤x∧x≤hi)∧∀(j:Nat) x y,j+1<k→l[j]?=some x→l[j+1]?=some y→x<y) (fun id _=>n-(RowKit.intOf id).toNat)
 case atStart=>exact⟨0,by omega,rfl,Below.refl _ _,fun j c h=>absurd h (by omega),fun j c _ h=>absurd h (by omega)⟩
 case round=>
  obtain⟨k,hk,rfl,hb,hp,hq⟩:=hrel;have HP:=hh_ hp;have HQ:=hh_ hq;clear hp hq;by_cases hlk:k<n
  · have hki:(k:Int)<n:=by omega
    obtain⟨x,hx⟩:∃x,l[k]?=some x:=⟨_,List.getElem?_eq_getElem (by rw[←HN.out];omega)⟩;obtain⟨g,o,rfl,hg,h1⟩:=HA.out.num hx;have g1:=(hb.cell hg).trans h1;clear h1;have HX:=hh_ hx;clear hx;by_cases c1:x<lo
    · have hne:qEh l lo hi=false:=by
        rw[Bool.eq_false_iff];intro e;have:=((HI.out.1 e).1 k x HX.out).1;omega
      have HB:=hh_ hb;have HNE:=hh_ hne;clear hne hb;go_wp2_with fail
      go_ret;exact⟨congrArg (fun b=>Ending.returned (.bool b)) HNE.out.symm,HB.out⟩
    by_cases c2:hi<x
    · have hne:qEh l lo hi=false:=by
        rw[Bool.eq_false_iff];intro e;have:=((HI.out.1 e).1 k x HX.out).2;omega
      have HB:=hh_ hb;have HNE:=hh_ hne;clear hne hb;go_wp2_with fail
      go_ret;exact⟨congrArg (fun b=>Ending.returned (.bool b)) HNE.out.symm,HB.out⟩
    cases k with
    | zero=>
     have HB:=hh_ hb;rw[Nat.add_zero] at g1;clear hb;go_wp2_with fail
     go_roundw
     case rel=>
      refine⟨1,by omega,by go_num,HB.out,fun j y hj hy=>?_,fun j c _ h=>absurd h (by omega)⟩;obtain rfl:j=0:=by omega
      rw[HX.out] at hy;cases hy;exact⟨by omega,by omega⟩
     case measure=>simp[RowKit.intOf];omega
    |succ i=>
     obtain⟨y,hy⟩:∃y,l[i]?=some y:=⟨_,List.getElem?_eq_getElem (by rw[←HN.out];omega)⟩;obtain⟨g',o',e',hg',h1⟩:=HA.out.num hy;cases e'
     have g2:=(hb.cell hg').trans h1;have HY:=hh_ hy;have HB:=hh_ hb;clear h1 hy hb;have hin:(i:Int)<n:=by omega
     have hi1:(i:Int)+1<n:=by omega
     by_cases c3:x≤y
     · have hne:qEh l lo hi=false:=by
         rw[Bool.eq_false_iff];intro e;have:=(HI.out.1 e).2 i y x HY.out HX.out;omega
       have HNE:=hh_ hne;clear hne;go_wp2_with fail
       go_ret;exact⟨congrArg (fun b=>Ending.returned (.bool b)) HNE.out.symm,HB.out⟩
     · go_wp2_with fail
       go_roundw
       case rel=>
        refine⟨i+2,by omega,by go_num,HB.out,fun j z hj hz=>?_,fun j z u hj hz hu=>?_⟩
        · by_cases e:j=i+1
          · subst e;rw[HX.out] at hz;cases hz;exact⟨by omega,by omega⟩
          · exact HP.out j z (by omega) hz
        · by_cases e:j=i
          · subst e;rw[HX.out] at hu;rw[HY.out] at hz;cases hu;cases hz;omega
          · exact HQ.out j z u (by omega) hz hu
       case measure=>simp[RowKit.intOf];omega
  · have hki:¬(k:Int)<n:=by omega
    have hne:qEh l lo hi=true:=HI.out.2 ⟨fun j x hx=>HP.out j x (by have:=(List.getElem?_eq_some_iff.1 hx).1;have:=HN.out;omega) hx,fun j x y hx hy=>HQ.out j x y (by have:=(List.getElem?_eq_some_iff.1 hy).1;have:=HN.out;omega) hx hy⟩;have HB:=hh_ hb;have HNE:=hh_ hne;clear hne hb;go_wp2_with fail
    go_ret;exact⟨congrArg (fun b=>Ending.returned (.bool b)) HNE.out.symm,HB.out⟩
end Go.Proofs.YtainiaighnjpfaaGreatDoor
