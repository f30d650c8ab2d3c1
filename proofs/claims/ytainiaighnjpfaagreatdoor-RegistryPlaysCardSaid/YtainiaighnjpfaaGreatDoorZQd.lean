/- A range over a function that only reads: what is assigned may lie in a box. Words for memory of one's own: all blocks but one stand; a struct of three fields behind a pointer. Small facts for the walks. Cells: values, and what the functions of a kind do (those without strconv). Cells: reading bools; quoting. strings.Builder's writing methods at this dump (whose copyCheck lacks its panic's statement): after the shelf's own proofs of BuilderK and BuilderRune. -/
import Derived.Lib.Hide
import Derived.Test.YtainiaighnjpfaaGreatDoorZQc
import Derived.Lib.OthersKept
import Derived.Test.YtainiaighnjpfaaGreatDoorRows
import Derived.Test.YtainiaighnjpfaaGreatDoorShelfY
import Derived.WalkSpells
import Derived.WalkLawsBesides
import Derived.Handy
import Derived.Outline
import Derived.Deep.QuietTactic
import Derived.BigQuiet
import Derived.Shelf.Strings.BuilderK
import Derived.Shelf.Utf8.AppendRune
set_option maxHeartbeats 4000000
set_option maxRecDepth 100000
set_option linter.unusedVariables false
set_option linter.unusedSimpArgs false
namespace Go.Ms
open Go.RowKit
variable {F:Fence} {n:Nat} {P:Program}
theorem qF5 {α:Type} {g:Operand} {ps:Array Tmp} {assign body:Code} {Q:Exit→Act→World→Prop} {a:Act} {w:World}
    (hro:F.round=none) (h1:1≤n) {gf:Nat} {Bs:Nat} {R:World→Prop} (hg:a.eval g=.func (.func gf) #[] #[.pointer (some ⟨Bs,0,none⟩)]) (hFg:F.fn gf) (eg:∀args w,(callFunc gf args).run P w=.ok (.enter gf args) w)
    {encs:α→Array Value} {xs:List α} (hseq:qOj F (n-1) P gf Bs encs xs R) (hps:∀x,(encs x).size=ps.size)
    (I:List α→World→Prop) (I1:α→List α→World→Prop) (Ix:Code→List α→World→Prop) (hR:∀s A,I s A→R A) (hI:qKi w.heap.size I) (hIa:∀x,qKi w.heap.size (I1 x)) (hIx:∀c,qKi w.heap.size (Ix c)) (h0:I [] w) (a₁:α→Act)
    (hassign:∀(l:Nat) (pre:List α) (x:α) (W:World) (K:Act→World→Prop),(pre++[x]) <+: xs→I pre W→(∀W',KeepsFrom w.heap.size W W'→I1 x pre W'→K (a₁ x) W')→
      assign.wpIn (F.inRound l) (n-1-1) P (Exit.then K (fun _ _ _=>False)) { tmps:=(ps.zip (encs x)).foldl (fun t (p,v)=>t.setIfInBounds p v) a.tmps,defers:=[] } W)
    (hbody:∀(l:Nat) (pre:List α) (x:α) (W:World),(pre++[x]) <+: xs→I1 x pre W→body.wpIn (F.inRound l) (n-1-1) P (qPd w.heap.size I Ix (pre++[x]) W) (a₁ x) W)
    (hdone:∀(D:Nat) (W:World),w.heap.size≤D→I xs W→W.heap[D]?=some (.deferred (some []))→Q .normal { a with defers:={ target:=.collected D,args:=#[] }::a.defers } W)
    (hstop:∀(D:Nat) (c:Code) (pre:List α) (W:World),w.heap.size≤D→Ix c pre W→W.heap[D]?=some (.deferred (some []))→c.wpIn F n P Q { a with defers:={ target:=.collected D,args:=#[] }::a.defers } W) :
    (Code.rangeFunc g ps assign body).wpIn F n P Q a w:=by
 refine wpIn_rangeFunc fun fn hfn=>?_
 rw[hro];obtain⟨rec,hrec⟩:∃rec:LoopState→Option Code→Loop,rec=fun st pe=>{ state:=st,pending:=pe,fn,tmps:=a.tmps,params:=ps,assign,body,defers:=w.heap.size }:=⟨_,rfl⟩
 obtain⟨W1,hW1⟩:∃W1,(w.alloc (.deferred (some []))).alloc (.loop (rec .ready none))=W1:=⟨_,rfl⟩
 have hL1:W1.heap[w.heap.size+1]?=some (.loop (rec .ready none)):=by
  rw[←hW1];have:=World.alloc_heap_new (w.alloc (.deferred (some []))) (.loop (rec .ready none));rwa [World.size_alloc] at this
 have hK1:W1.heap[w.heap.size]?=some (.deferred (some [])):=by
  rw[←hW1];exact(Below.heap_alloc _ _ _ (by simp)).trans (World.alloc_heap_new w _)
 have hI1:I [] W1:=by rw[←hW1];exact hI.new _ (hI.new _ h0)
 refine⟨w.heap.size+1,[{ target:=.collected w.heap.size,args:=#[] }],W1,{ target:=.fn (.func gf) #[.pointer (some ⟨Bs,0,none⟩)],args:=#[.func (.yield (w.heap.size+1)) #[] #[]] },W1,gf,
   #[.func (.yield (w.heap.size+1)) #[] #[],.pointer (some ⟨Bs,0,none⟩)],W1,?_,?_,?_,?_,fun _=>h1,?_⟩
 · rw[←hW1,hrec];exact run_enterLoop_outer _ _ _ _ _
 · simp only[resolve,hg];simp[go_sem]
 · intro f' hf';simp[Target.leads] at hf';subst hf';exact hFg
 · simp[invoke,go_sem,eg]
 · have hkeep:∀{A B:World} {k:Nat} {o:Obj},A.grownBy B none→A.heap[k]?=some o→B.heap[k]?=some o:=
     fun hg' ho=>(hg'.block _ (Array.getElem?_eq_some_iff.1 ho).1 (by simp)).trans ho
   refine(hseq (w.heap.size+1)
     (fun pre W=>I pre W∧W.heap[w.heap.size+1]?=some (.loop (rec .ready none))∧W.heap[w.heap.size]?=some (.deferred (some [])))
     (fun pre W=> ∃c,Ix c pre W∧W.heap[w.heap.size+1]?=some (.loop (rec .done (some c)))∧W.heap[w.heap.size]?=some (.deferred (some [])))
     W1 (fun s A hs=>hR s A hs.1)
     (fun s A B hs hg'=>⟨hI s A B none hs.1 hg' (fun r e=>by cases e),hkeep hg' hs.2.1,hkeep hg' hs.2.2⟩)
     (fun s A B hs hg'=>by
      obtain⟨c,hc,hl,hk⟩:=hs
      exact⟨c,hIx c s A B none hc hg' (fun r e=>by cases e),hkeep hg' hl,hkeep hg' hk⟩)
     ?_ ⟨hI1,hL1,hK1⟩).mono ?_
   · rintro pre x W ⟨hi,hl,hk⟩ hx;have hlt:w.heap.size+1<W.heap.size:=(Array.getElem?_eq_some_iff.1 hl).1;have hy:=run_yield (P:=P) (args:=encs x) hl (by rw[hrec];exact hps x);rw[hrec] at hy;refine⟨fn,_,assign,body,hy,roundIn_of_wpIn hfn (hassign _ pre x W _ hx hi fun V hkV hi1=>?_)⟩;have hlV:=hkV.same _ _ (by omega) hl rfl;have hkV2:=hkV.same _ _ (Nat.le_refl _) hk rfl;have hltV:w.heap.size+1<V.heap.size:=(Array.getElem?_eq_some_iff.1 hlV).1;refine⟨_,run_beginRound hlV (by rw[hrec]),?_⟩;have hl2:(V.putObj (w.heap.size+1) (.loop { rec .ready none with state:=.busy })).heap[w.heap.size+1]?=some (.loop { rec .ready none with state:=.busy }):=World.putObj_heap_same hltV;have hk2:(V.putObj (w.heap.size+1) (.loop { rec .ready none with state:=.busy })).heap[w.heap.size]?=some (.deferred (some [])):=(World.putObj_heap_other (by omega)).trans hkV2;refine wpIn_mono (hbody _ pre x _ hx ((hIa x).turn _ hi1 (by omega) hlV rfl)) ?_
     have fin:∀(jump:Option Code) (W3:World),KeepsFrom w.heap.size (V.putObj (w.heap.size+1) (.loop { rec .ready none with state:=.busy })) W3→
         (Instr.endRound (w.heap.size+1) jump).run P W3=.ok (.bool jump.isNone) (W3.putObj (w.heap.size+1) (.loop (rec (if jump.isNone then .ready else .done) jump)))∧
         W3.heap[w.heap.size+1]?=some (.loop { rec .ready none with state:=.busy })∧
         (W3.putObj (w.heap.size+1) (.loop (rec (if jump.isNone then .ready else .done) jump))).heap[w.heap.size+1]?=some (.loop (rec (if jump.isNone then .ready else .done) jump))∧
         (W3.putObj (w.heap.size+1) (.loop (rec (if jump.isNone then .ready else .done) jump))).heap[w.heap.size]?=some (.deferred (some [])):=fun jump W3 hk3=>by
       have hl3:=hk3.same _ _ (by omega) hl2 rfl;have:=run_endRound (P:=P) jump hl3;rw[hrec] at this ⊢;exact⟨this,by rw[hrec] at hl3;exact hl3,World.putObj_heap_same (Array.getElem?_eq_some_iff.1 hl3).1,(World.putObj_heap_other (by omega)).trans (hk3.same _ _ (Nat.le_refl _) hk2 rfl)⟩
     rintro e a3 W3 hp
     cases e with
     |normal=>
      obtain⟨hk3,hi3⟩:=hp;obtain⟨hr,hl3,hl4,hk4⟩:=fin none W3 hk3;exact⟨_,_,hr,.inl ⟨rfl,hI.turn _ hi3 (by omega) hl3 rfl,hl4,hk4⟩⟩
     |ret=>
      obtain⟨hk3,hi3⟩:=hp;obtain⟨hr,hl3,hl4,hk4⟩:=fin (some .ret) W3 hk3;exact⟨_,_,hr,.inr ⟨rfl,.ret,(hIx _).turn _ hi3 (by omega) hl3 rfl,hl4,hk4⟩⟩
     |exit id=>
      obtain⟨hk3,hi3⟩:=hp;obtain⟨hr,hl3,hl4,hk4⟩:=fin (some (.exit id)) W3 hk3;exact⟨_,_,hr,.inr ⟨rfl,.exit id,(hIx _).turn _ hi3 (by omega) hl3 rfl,hl4,hk4⟩⟩
     |goto t=>
      obtain⟨hk3,hi3⟩:=hp;obtain⟨hr,hl3,hl4,hk4⟩:=fin (some (.goto t)) W3 hk3;exact⟨_,_,hr,.inr ⟨rfl,.goto t,(hIx _).turn _ hi3 (by omega) hl3 rfl,hl4,hk4⟩⟩
     |panic ch=>exact hp.elim
     |outgrown=>exact hp.elim
   · rintro e W2 ⟨⟨v,rfl⟩,(⟨hi,hl,hk⟩|⟨pre,c,hi,hl,hk⟩)⟩
     · exact⟨none,_,by have:=run_endLoop (P:=P) hl (by rw[hrec];simp);rw[hrec] at this;exact this,hdone _ _ (Nat.le_refl _) (hI.turn _ hi (by omega) hl rfl) ((World.putObj_heap_other (by omega)).trans hk)⟩
     · exact⟨some c,_,by have:=run_endLoop (P:=P) hl (by rw[hrec];simp);rw[hrec] at this;exact this,hstop _ c pre _ (Nat.le_refl _) ((hIx c).turn _ hi (by omega) hl rfl) ((World.putObj_heap_other (by omega)).trans hk)⟩
end Go.Ms
namespace Go.Ms
open Go.RowKit Go.Lib
theorem br_ {B:Nat} {w:World}:Below B w w:=Below.refl B w
theorem le_ {n:Nat}:n≤n:=Nat.le_refl n
theorem hh_ {p:Prop} (h:p):Hid p:=Lib.hid h
structure Kept (R:Nat) (w w':World):Prop where
  os:w'.os=w.os
  tape:w'.tape=w.tape
  output:w'.output=w.output
  size:w.heap.size≤w'.heap.size
  block:∀k,k<w.heap.size→k≠R→w'.heap[k]?=w.heap[k]?
namespace Kept
variable {R B:Nat} {a w w':World}
theorem refl (R:Nat) (w:World):Kept R w w:=⟨rfl,rfl,rfl,Nat.le_refl _,fun _ _ _=>rfl⟩
theorem trans (h:Kept R a w) (k:Kept R w w'):Kept R a w':=
  ⟨k.os.trans h.os,k.tape.trans h.tape,k.output.trans h.output,Nat.le_trans h.size k.size,fun i hi hr=>(k.block i (Nat.lt_of_lt_of_le hi h.size) hr).trans (h.block i hi hr)⟩
theorem of_below (h:Below w.heap.size w w'):Kept R w w':=⟨h.os,h.tape,h.output,h.size,fun k hk _=>h.block k hk⟩
theorem drewN (h:Kept R a w) (n:Nat):Kept R a (w.drewN n):=⟨h.os,h.tape,h.output,h.size,h.block⟩
theorem drew (h:Kept R a w):Kept R a w.drew:=⟨h.os,h.tape,h.output,h.size,h.block⟩
theorem alloc (h:Kept R a w) (o:Obj):Kept R a (w.alloc o):=
  h.trans (of_below ((Below.refl _ w).alloc (Nat.le_refl _) o))
theorem setCell (h:Kept R a w) {p:Addr} (hp:p.block=R) (u:Value):Kept R a (w.setCell p u):=
  h.trans ⟨rfl,rfl,rfl,by simp[World.setCell],fun k _ hk=>Below.heap_setCell _ _ _ _ (by omega)⟩
theorem below (h:Kept R w w') (hR:B≤R) (hB:B≤w.heap.size):Below B w w':=⟨h.os,h.tape,h.output,h.size,fun k hk=>h.block k (by omega) (by omega)⟩
end Kept
theorem qAa {B:Nat} {a w:World} (h:Below B a w) (n:Nat):Below B a (w.drewN n):=⟨h.os,h.tape,h.output,h.size,h.block⟩
def Tri (T b:Nat) (x y z:Value) (w:World):Prop:=w.heap[b]?=some (.cells #[x,y,z] T (0,0))
namespace Tri
variable {T b R B:Nat} {x y z u:Value} {w w':World}
theorem lt (h:Tri T b x y z w):b<w.heap.size:=by
 rcases Nat.lt_or_ge b w.heap.size with hl|hg
 · exact hl
 · unfold Tri at h;rw[Array.getElem?_eq_none hg] at h;cases h
theorem c0 (h:Tri T b x y z w):w.cell? ⟨b,0,none⟩=some x:=by rw[Lib.cell_of_heap h];rfl
theorem c1 (h:Tri T b x y z w):w.cell? ⟨b,1,none⟩=some y:=by rw[Lib.cell_of_heap h];rfl
theorem c2 (h:Tri T b x y z w):w.cell? ⟨b,2,none⟩=some z:=by rw[Lib.cell_of_heap h];rfl
theorem fr (h:Tri T b x y z w) (i:Nat):w.frozen? ⟨b,i,none⟩=false:=Lib.frozen_of_heap h i
theorem set1 (h:Tri T b x y z w) (u:Value):Tri T b x u z (w.setCell ⟨b,1,none⟩ u):=by
 unfold Tri at *; simp[World.setCell,Array.getElem?_modify,h]
theorem set2 (h:Tri T b x y z w) (u:Value):Tri T b x y u (w.setCell ⟨b,2,none⟩ u):=by
 unfold Tri at *; simp[World.setCell,Array.getElem?_modify,h]
theorem drew (h:Tri T b x y z w):Tri T b x y z w.drew:=h
theorem drewN (h:Tri T b x y z w) (n:Nat):Tri T b x y z (w.drewN n):=h
theorem alloc (h:Tri T b x y z w) (o:Obj):Tri T b x y z (w.alloc o):=(Below.heap_alloc w o b h.lt).trans h
theorem below (h:Tri T b x y z w) (hb:Below B w w') (hB:b<B):Tri T b x y z w':=(hb.block b hB).trans h
theorem kept (h:Tri T b x y z w) (hb:Kept R w w') (hB:b≠R):Tri T b x y z w':=(hb.block b h.lt hB).trans h
theorem others {e:TypeId} {b':Nat} (h:Tri T b x y z w) (hb:OthersKept e (some b') w w') (hB:b≠b') (hT:T≠e):Tri T b x y z w':=
  hb b _ h (by intro e1;exact hB (Option.some.inj e1)) (by intro c fz e1;injection e1 with _ e2;exact hT e2)
end Tri
structure RdP (T b:Nat) (s:ByteArray) (p:Nat) (e:Int) (v:Value) (w:World) (en:Ending) (w':World):Prop where
  ret:en=.returned v
  tri:Tri T b (.string s) (.int .i64 p) (.int .i64 e) w'
  kept:Kept b w w'
theorem qMj {T e:TypeId} {B b:Nat} {bs:List Value} {w w':World} (h:IsBuilderF T e B b bs w) (hk:∀(k:Nat) (c:Array Value) (t:TypeId) (fz:Nat×Nat),w.heap[k]?=some (Obj.cells c t fz)→(t=T∨t=e)→w'.heap[k]?=w.heap[k]?) :
    IsBuilderF T e B b bs w':=by
 have one:∀p,BuilderAtF T e B b p bs w→BuilderAtF T e B b p bs w':=by
  intro p ⟨hB,v,hb,hown,hne⟩;refine⟨hB,v,(hk b _ _ _ hb (.inl rfl)).trans hb,⟨hown.1,?_⟩,hne⟩;rcases hown.2 with hn|⟨g,cap,cur,fz,hv,hbg,hg,rest⟩
  · exact .inl hn
  · exact .inr ⟨g,cap,cur,fz,hv,hbg,(hk g _ _ _ hg (.inr rfl)).trans hg,rest⟩
 exact h.elim (fun x=>.inl (one _ x)) (fun x=>.inr (one _ x))
theorem qLz {T e:TypeId} {B b R:Nat} {bs:List Value} {w w':World} (h:IsBuilderF T e B b bs w) (hk:Kept R w w') {T':Nat} {x y z:Value} (hR:Tri T' R x y z w) (h1:T'≠T) (h2:T'≠e):IsBuilderF T e B b bs w':=by
 refine qMj h (fun k c t fz hc ht=>?_);have hlt:k<w.heap.size:=(Array.getElem?_eq_some_iff.1 hc).1;refine hk.block k hlt (fun e1=>?_);subst e1;unfold Tri at hR;rw[hc] at hR;injection hR with hR
 injection hR with _ e2
 rcases ht with rfl|rfl
 · exact h1 e2.symm
 · exact h2 e2.symm
theorem qTu {T e:TypeId} {B b:Nat} {bs:List Value} {w w':World} (h:IsBuilderF T e B b bs w) (hk:Below w.heap.size w w'):IsBuilderF T e B b bs w':=
  qMj h (fun k _ _ _ hc _=>hk.block k (Array.getElem?_eq_some_iff.1 hc).1)
end Go.Ms
namespace Go.Proofs.YtainiaighnjpfaaGreatDoor
open Go.RowKit Go.Ms Go.Lib
theorem qO1 (r:Int):strOfNums (encodeRuneZ r)=⟨(encodeRune r).toArray⟩:=by
 unfold strOfNums encodeRune;rfl
theorem qIt {P:Program} (w:World) (n:Nat) (hn:n=w.heap.size) (src e:TypeId) (hs:P.underlying src=some (.slice e)) (he:P.underlying e=some (.int .u8)) (ns:List Int) (dst:TypeId) (hd:P.underlying dst=some .string) :
    (convert src dst (.slice (some ⟨n,0,none⟩) ns.length ns.length)).run P (w.alloc (.cells (ns.map (Value.int .u8)).toArray e))=.ok (.string (strOfNums ns)) (w.alloc (.cells (ns.map (Value.int .u8)).toArray e)):=by
 refine run_convert_bytes_arg _ src e hs he _ 0 _ _ ns rfl (fun i hi=>?_) dst hd;rw[Nat.zero_add,World.cell?_alloc_at _ _ _ _ hn];simp[hi]
theorem qCy (s:ByteArray) (k:Nat) (h:k<s.size):s[k]'h=s.data.toList.getD k 0:=by
 cases s with
 |mk d=>
  have:k<d.size:=h;simp[List.getD_eq_getElem?_getD,this];rfl
theorem qLv {k:IntKind} {a b:Int} (h:a=b):Ending.returned (.int k a)=.returned (.int k b):=by rw[h]
theorem zB2 {a a':Int} {b b':Int} {c c':Bool} (h:a=a') (h1:b=b') (h2:c=c'):Ending.returned (.tuple #[.int .i32 a,.int .i64 b,.bool c])=.returned (.tuple #[.int .i32 a',.int .i64 b',.bool c']):=by rw[h,h1,h2]
theorem ext_list (s:ByteArray) (a b:Nat):(s.extract a b).data.toList=(s.data.toList.take b).drop a:=by
 rw[Lib.extract_data,List.drop_take]
def Tabs (w:World):Prop:=Lib.Utf8Tabs 1 2 w
theorem qK8 {w:World} (h:Tabs w) (n:Nat):Tabs (w.drewN n):=h
theorem qC3 {w w':World} (h:Tabs w) (hb:Below w.heap.size w w'):Tabs w':=Utf8Tabs_below h hb
theorem qBu {s:ByteArray} {l:Bs} (h:s.data.toList=l):s=⟨l.toArray⟩:=by
 subst h;cases s;simp
end Go.Proofs.YtainiaighnjpfaaGreatDoor
namespace Go.Ms
open Go.Lib
end Go.Ms
namespace Go.Proofs.YtainiaighnjpfaaGreatDoor
open Go.RowKit Go.Ms Go.Lib
theorem qAg {w:World} {p:Addr} {v:Value} (h:w.cell? p=some v):p.block<w.heap.size:=by
 unfold World.cell? at h;rcases Nat.lt_or_ge p.block w.heap.size with h1|h1
 · exact h1
 · simp[Array.getElem?_eq_none h1] at h
theorem qMf (l:Bs):(⟨l.toArray⟩:ByteArray).size=l.length:=List.size_toArray
theorem qPy (l:Bs):(⟨l.toArray⟩:ByteArray).toList=l:=by rw[Lib.toList_data]
theorem qH1 (a b:Nat) (lo hi n:Int) (nu:Bool) (s:Bs) (w:World) (ha:w.cell? ⟨a,0,none⟩=some (.int .i64 lo)) (hb:w.cell? ⟨b,0,none⟩=some (.int .i64 hi)) :
    Calls Tryz.prog 145 #[.agg #[.bool nu,.int .i64 n,.string ⟨s.toArray⟩],.pointer (some ⟨a,0,none⟩),.pointer (some ⟨b,0,none⟩)] w fun e w'=>e=.returned (.bool (decide (s=[])&&decide (lo≤n)&&decide (n≤hi)))∧Below w.heap.size w w':=by
 have hla:=qAg ha;have hlb:=qAg hb
 cases s with
 |cons x r=>
  have e1:(⟨(x::r).toArray⟩:ByteArray).toList.isEmpty=false:=by rw[qPy];rfl
  have e2:¬(⟨(x::r).toArray⟩:ByteArray).toList=[]:=by rw[qPy];simp
  have hd:(decide (x::r=[])&&decide (lo≤n)&&decide (n≤hi))=false:=by simp
  rw[hd];clear hd;generalize (⟨(x::r).toArray⟩:ByteArray)=S at *; go_enter Tryz.func145,Tryz.ntmps145;go_wp2
  go_ret;exact⟨rfl,(Below.refl _ _).alloc (Nat.le_refl _) _⟩
 |nil=>
  by_cases h1:lo≤n
  · by_cases h2:n≤hi
    · have hd:(decide (([]:Bs)=[])&&decide (lo≤n)&&decide (n≤hi))=true:=by simp[h1,h2]
      rw[hd];clear hd;go_enter Tryz.func145,Tryz.ntmps145;go_wp2
      go_ret;exact⟨rfl,(Below.refl _ _).alloc (Nat.le_refl _) _⟩
    · have hd:(decide (([]:Bs)=[])&&decide (lo≤n)&&decide (n≤hi))=false:=by simp[h2]
      rw[hd];clear hd;go_enter Tryz.func145,Tryz.ntmps145;go_wp2
      go_ret;exact⟨rfl,(Below.refl _ _).alloc (Nat.le_refl _) _⟩
  · have hd:(decide (([]:Bs)=[])&&decide (lo≤n)&&decide (n≤hi))=false:=by simp[h1]
    rw[hd];clear hd;go_enter Tryz.func145,Tryz.ntmps145;go_wp2
    go_ret;exact⟨rfl,(Below.refl _ _).alloc (Nat.le_refl _) _⟩
theorem qNk (n:Int) (nu:Bool) (s:Bs) (w:World) (hs:s.length≤100000) :
    Calls Tryz.prog 146 #[.agg #[.bool nu,.int .i64 n,.string ⟨s.toArray⟩]] w fun e w'=>e=.returned (.bool (decide (n=0)&&decide (s.length≤1024)))∧Below w.heap.size w w':=by
 have hz:=qMf s;generalize (⟨s.toArray⟩:ByteArray)=S at *; generalize s.length=L at *; subst hz;by_cases h1:n=0
 · subst h1;by_cases h2:S.size≤1024
   · have h2':(S.size:Int)≤1024:=by omega
     rw[decide_eq_true h2];go_enter Tryz.func146,Tryz.ntmps146;go_wp2
     go_ret;exact⟨rfl,(Below.refl _ _).alloc (Nat.le_refl _) _⟩
   · have h2':¬(S.size:Int)≤1024:=by omega
     rw[decide_eq_false h2];go_enter Tryz.func146,Tryz.ntmps146;go_wp2
     go_ret;exact⟨rfl,(Below.refl _ _).alloc (Nat.le_refl _) _⟩
 · have h1':(n==0)=false:=by simpa using h1
   rw[decide_eq_false h1];go_enter Tryz.func146,Tryz.ntmps146;go_wp2
   go_ret;exact⟨rfl,(Below.refl _ _).alloc (Nat.le_refl _) _⟩
theorem qSr (n:Int) (nu:Bool) (s:Bs) (w:World) :
    Calls Tryz.prog 147 #[.agg #[.bool nu,.int .i64 n,.string ⟨s.toArray⟩]] w fun e w'=>e=.returned (.string ⟨(formatBool (n==1)).toArray⟩)∧Below w.heap.size w w':=by
 generalize (⟨s.toArray⟩:ByteArray)=S at *; go_enter Tryz.func147,Tryz.ntmps147;go_wp2_with (go_at_call 148;refine(Tryz.strconv_FormatBool _ _).mono ?_;rintro e w' ⟨rfl,rfl⟩)
 go_ret;exact⟨rfl,(Below.refl _ _).alloc (Nat.le_refl _) _⟩
def qYu:Bs:=[116,114,117,101]
theorem qS2 (S:ByteArray) (w:World) :
    Calls Tryz.prog 149 #[.string S] w fun e w'=>e=.returned (.agg #[.bool false,.int .i64 (if S.data.toList=qYu then 1 else 0),.string ⟨#[]⟩])∧Below w.heap.size w w':=by
 by_cases h:S.data.toList=qYu
 · rw[if_pos h];obtain rfl:S=⟨#[116,114,117,101]⟩:=qBu h;go_enter Tryz.func149,Tryz.ntmps149;go_wp2
   exact bodyPost_ret (v:=.agg #[.bool false,.int .i64 1,.string ⟨#[]⟩]) (by simp[results,Tryz.results149,go_sem]) rfl ⟨rfl,(Below.refl _ _).alloc (Nat.le_refl _) _⟩
 · rw[if_neg h];have h1:(S.toList==[116,114,117,101])=false:=by rw[Lib.toList_data];simpa[qYu] using h
   clear h;go_enter Tryz.func149,Tryz.ntmps149;go_wp2
   exact bodyPost_ret (v:=.agg #[.bool false,.int .i64 0,.string ⟨#[]⟩]) (by simp[results,Tryz.results149,go_sem]) rfl ⟨rfl,(Below.refl _ _).alloc (Nat.le_refl _) _⟩
theorem qT9:(Tryz.prog.info? 190).map (·.size)=some 2:=by kernel_rfl
theorem qYo:liesAt Tryz.prog Tryz.prog.depth 190 (2/Tryz.prog.cellsOf 190) 0 190 1=true:=by kernel_rfl
theorem infoByte:(Tryz.prog.info? 5).map (fun i=>(i.zero,i.size,i.bytes))=some (some (.int .u8 0),1,1):=by kernel_rfl
theorem qKs (b:Nat) (w:World) (h0:w.cell? ⟨b,0,none⟩=some (.pointer (some ⟨b,0,none⟩))) :
    Calls Tryz.prog 177 #[.pointer (some ⟨b,0,none⟩)] w fun e w'=>e=.returned (.tuple #[])∧w'=w:=by
 obtain⟨j,hj,_⟩:=Option.map_eq_some_iff.1 qT9;go_enter Tryz.func177,Tryz.ntmps177;go_wp2
 rw[Lib.run_neq_ptr_same w _ Tryz.underlying187 hj];go_wp2
 go_end0;exact⟨rfl,rfl⟩
theorem qJ7 (b:Nat) (w:World) (h0:w.cell? ⟨b,0,none⟩=some (.pointer none)) (hsh:w.shape? b=some (190,2)) (hfz:w.frozen? ⟨b,0,none⟩=false) :
    Calls Tryz.prog 177 #[.pointer (some ⟨b,0,none⟩)] w fun e w'=>e=.returned (.tuple #[])∧w'=w.setCell ⟨b,0,none⟩ (.pointer (some ⟨b,0,none⟩)):=by
 obtain⟨j,hj,hjs⟩:=Option.map_eq_some_iff.1 qT9;go_enter Tryz.func177,Tryz.ntmps177;go_wp2
 rw[Lib.run_to_unsafe w ⟨b,0,none⟩ Tryz.underlying187 Tryz.underlying67 hj (by rw[hjs];decide) hsh (Nat.zero_lt_succ 1)];simp only[Result.andThen];rw[Oper.upon_value];go_wp2
 rw[run_callFunc_extern Tryz.func214 (by kernel_rfl) (by kernel_rfl) (by kernel_rfl) (e:=Extern.AbiNoEscape.same) (by kernel_rfl)];rw[Lib.run_noEscape];simp only[Result.andThen];rw[Oper.upon_value];go_wp2
 rw[Lib.run_from_unsafe w ⟨b,0,none⟩ Tryz.underlying67 Tryz.underlying187 hj hsh qYo];simp only[Result.andThen];rw[Oper.upon_value];go_wp2
 go_end0;exact⟨rfl,rfl⟩
theorem qJg (B b:Nat) (bs:List Value) (w:World) (h:IsBuilderF 190 5 B b bs w) :
    Calls Tryz.prog 177 #[.pointer (some ⟨b,0,none⟩)] w fun e w'=>e=.returned (.tuple #[])∧(BuilderAtF 190 5 B b (.pointer (some ⟨b,0,none⟩)) bs w'∧Below B w w'∧OthersKept 5 (some b) w w'):=by
 rcases h with h|h
 · refine(qJ7 b w h.cell0 h.shape h.frozen0).mono ?_;rintro e w' ⟨rfl,rfl⟩;exact⟨rfl,h.used _,(Below.refl B w).setCell (p:=⟨b,0,none⟩) h.1 _,(OthersKept.refl _ _ w).setCell ⟨b,0,none⟩ rfl _⟩
 · refine(qKs b w h.cell0).mono ?_;rintro e w' ⟨rfl,rfl⟩;exact⟨rfl,h,Below.refl B _,OthersKept.refl _ _ _⟩
theorem qMs (B b:Nat) (bs:List Value) (c:Int) (w:World) (h:IsBuilderF 190 5 B b bs w) (hlen:bs.length+1≤140737488355328) (hBw:B≤w.heap.size) :
    Calls Tryz.prog 201 #[.pointer (some ⟨b,0,none⟩),.int .u8 c] w fun e w'=>e=.returned .nilIface∧(IsBuilderF 190 5 B b (bs++[.int .u8 c]) w'∧Below B w w'∧OthersKept 5 (some b) w w'):=by
 obtain⟨i0,hi,hz0,hz1,hz2⟩:=info_parts infoByte;go_enter Tryz.func201,Tryz.ntmps201;go_wp2_with (go_at_call 177;refine(qJg B b bs _ h).mono ?_)
 rintro e w1 ⟨rfl,h1,hb1,hk1⟩;obtain⟨hB,v,hbk,hown,hne⟩:=h1;have c0:w1.cell? ⟨b,0,none⟩=some (.pointer (some ⟨b,0,none⟩)):=by rw[Lib.cell_of_heap hbk];rfl
 have c1:w1.cell? ⟨b,1,none⟩=some v:=by rw[Lib.cell_of_heap hbk];rfl
 go_wp2_with (at_builtin;refine wpList_append_ownF _ rfl _ _ 188 rfl B 5 i0 (.int .u8 0) 1 1 Tryz.underlying188 hi hz0 hz1 hz2 rfl (by decide) _ _ _ rfl (hown.alloc _) ⟨w1.heap.size,0,none⟩ 1 1 [.int .u8 c] rfl rfl ?c1 ?c2 ?c3 ?c4 ?c5 ?_)
 case c1=>
  intro j u hj
  match j,hj with
  |0,hj=>simp at hj;subst hj;simp[Addr.add]
 case c2=>intro u hu;simp at hu;subst hu;rfl
 case c3=>unfold maxLen;omega
 case c4=>omega
 case c5=>have:=hb1.size;simp;omega
 intro v' w2 hown' hgrow _
 have hlt:b<w1.heap.size:=by
  rcases Nat.lt_or_ge b w1.heap.size with h'|h'
  · exact h'
  · simp[Array.getElem?_eq_none h'] at hbk
 have hb2:w2.heap[b]?=some (.cells #[.pointer (some ⟨b,0,none⟩),v] 190 (0,0)):=by
  rw[hgrow.block b (by simp;omega) (fun e=>hne e.symm),Lib.alloc_old w1 _ b hlt];exact hbk
 have d0:w2.cell? ⟨b,0,none⟩=some (.pointer (some ⟨b,0,none⟩)):=by rw[Lib.cell_of_heap hb2];rfl
 have d1:w2.cell? ⟨b,1,none⟩=some v:=by rw[Lib.cell_of_heap hb2];rfl
 have f1:w2.frozen? ⟨b,1,none⟩=false:=Lib.frozen_of_heap hb2 1
 obtain⟨g,cap,rfl⟩:∃g cap,v'=.slice (some ⟨g,0,none⟩) (bs.length+1) cap:=by
  rcases hown'.2 with⟨_,h0⟩|⟨g,cap,cur,fz,hv,_⟩
  · omega
  · exact⟨g,cap,hv⟩
 go_wp2
 go_ret;refine⟨rfl,.inr ?_,?_,((hk1.alloc _).grown hgrow (Lib.ownsRowF_kind (hown.alloc _))).setCell ⟨b,1,none⟩ rfl _⟩
 · exact Lib.BuilderAtF.put (T:=190) (e:=5) hB hb2 (bs':=bs++[.int .u8 c]) (by simpa using hown') (by decide)
 · exact((hb1.alloc (by have:=hb1.size;omega) _).grown hgrow (by have:=hb1.size;simp;omega) (fun k hk=>(hown.lt k hk).1)).setCell (p:=⟨b,1,none⟩) hB _
theorem qIu (B b:Nat) (bs:List Value) (s:ByteArray) (w:World) (h:IsBuilderF 190 5 B b bs w) (hlen:bs.length+s.size≤140737488355328) (hBw:B≤w.heap.size) :
    Calls Tryz.prog 131 #[.pointer (some ⟨b,0,none⟩),.string s] w fun e w'=>e=.returned (.tuple #[.int .i64 s.size,.nilIface])∧(IsBuilderF 190 5 B b (bs++Lib.strCells s) w'∧Below B w w'∧OthersKept 5 (some b) w w'):=by
 obtain⟨i0,hi,hz0,hz1,hz2⟩:=info_parts infoByte;go_enter Tryz.func131,Tryz.ntmps131;go_wp2_with (go_at_call 177;refine(qJg B b bs _ h).mono ?_)
 rintro e w1 ⟨rfl,h1,hb1,hk1⟩;obtain⟨hB,v,hbk,hown,hne⟩:=h1;have c0:w1.cell? ⟨b,0,none⟩=some (.pointer (some ⟨b,0,none⟩)):=by rw[Lib.cell_of_heap hbk];rfl
 have c1:w1.cell? ⟨b,1,none⟩=some v:=by rw[Lib.cell_of_heap hbk];rfl
 go_wp2_with (at_builtin;refine Lib.wpList_append_own_stringF _ rfl _ _ 188 9 rfl B 5 i0 Tryz.underlying188 Tryz.underlying9 hi hz0 hz1 hz2 _ _ _ rfl hown s rfl ?c3 ?c4 ?c5 ?_)
 case c3=>unfold maxLen;omega
 case c4=>omega
 case c5=>have:=hb1.size;omega
 intro v' w2 hown' hgrow _
 have hlt:b<w1.heap.size:=by
  rcases Nat.lt_or_ge b w1.heap.size with h'|h'
  · exact h'
  · simp[Array.getElem?_eq_none h'] at hbk
 have hb2:w2.heap[b]?=some (.cells #[.pointer (some ⟨b,0,none⟩),v] 190 (0,0)):=by
  rw[hgrow.block b hlt (fun e=>hne e.symm)];exact hbk
 have d0:w2.cell? ⟨b,0,none⟩=some (.pointer (some ⟨b,0,none⟩)):=by rw[Lib.cell_of_heap hb2];rfl
 have d1:w2.cell? ⟨b,1,none⟩=some v:=by rw[Lib.cell_of_heap hb2];rfl
 have f1:w2.frozen? ⟨b,1,none⟩=false:=Lib.frozen_of_heap hb2 1
 obtain⟨ao,n',cap,rfl⟩:∃ao n' cap,v'=.slice ao n' cap:=by
  rcases hown'.2 with⟨hv,_⟩|⟨g,cap,cur,fz,hv,_⟩
  · exact⟨_,_,_,hv⟩
  · exact⟨_,_,_,hv⟩
 go_wp2
 go_ret2;refine⟨rfl,.inr ?_,?_,(hk1.grown hgrow (Lib.ownsRowF_kind hown)).setCell ⟨b,1,none⟩ rfl _⟩
 · exact Lib.BuilderAtF.put (T:=190) (e:=5) hB hb2 (bs':=bs++Lib.strCells s) (by simpa[Lib.strCells_length] using hown') (by decide)
 · exact(hb1.grown hgrow (by have:=hb1.size;omega) (fun k hk=>(hown.lt k hk).1)).setCell (p:=⟨b,1,none⟩) hB _
theorem qTe (B b:Nat) (bs:List Value) (r:Int) (hr0: -2147483648≤r) (hr1:r≤2147483647) (w:World) (h:IsBuilderF 190 5 B b bs w) (hlen:bs.length+4≤140737488355328) (hBw:B≤w.heap.size) :
    Calls Tryz.prog 228 #[.pointer (some ⟨b,0,none⟩),.int .i32 r] w fun e w'=>e=.returned (.tuple #[.int .i64 (runeCells r).length,.nilIface])∧(IsBuilderF 190 5 B b (bs++runeCells r) w'∧Below B w w'∧OthersKept 5 (some b) w w'):=by
 have hk4:=runeCells_le r;go_enter Tryz.func228,Tryz.ntmps228;go_wp2_with (go_at_call 177;refine(qJg B b bs _ h).mono ?_)
 rintro e w1 ⟨rfl,h1,hb1,hk1⟩;obtain⟨hB,v,hbk,hown,hne⟩:=h1
 obtain⟨ao,cap,rfl⟩:∃ao cap,v=.slice ao bs.length cap:=by
  rcases hown.2 with⟨hv,h0⟩|⟨g,cap,cur,fz,hv,_⟩
  · exact⟨none,0,by rw[hv,h0]⟩
  · exact⟨_,_,hv⟩
 have c0:w1.cell? ⟨b,0,none⟩=some (.pointer (some ⟨b,0,none⟩)):=by rw[Lib.cell_of_heap hbk];rfl
 have c1:w1.cell? ⟨b,1,none⟩=some (.slice ao bs.length cap):=by rw[Lib.cell_of_heap hbk];rfl
 go_wp2_with (go_at_call 246;refine(Tryz.utf8_AppendRune_row B _ bs.length bs r hr0 hr1 _ hown hlen (by have:=hb1.size;omega)).mono ?_)
 rintro e w2 ⟨v',rfl,hown',o,hgrow⟩
 have hlt:b<w1.heap.size:=by
  rcases Nat.lt_or_ge b w1.heap.size with h'|h'
  · exact h'
  · simp[Array.getElem?_eq_none h'] at hbk
 have hb2:w2.heap[b]?=some (.cells #[.pointer (some ⟨b,0,none⟩),.slice ao bs.length cap] 190 (0,0)):=by
  rw[hgrow.block b (by simp;omega) (fun e=>hne e.symm),Lib.alloc_old w1 _ b hlt];exact hbk
 have d0:w2.cell? ⟨b,0,none⟩=some (.pointer (some ⟨b,0,none⟩)):=by rw[Lib.cell_of_heap hb2];rfl
 have d1:w2.cell? ⟨b,1,none⟩=some (.slice ao bs.length cap):=by rw[Lib.cell_of_heap hb2];rfl
 have f1:w2.frozen? ⟨b,1,none⟩=false:=Lib.frozen_of_heap hb2 1
 obtain⟨g,cap',rfl⟩:∃g cap',v'=.slice (some ⟨g,0,none⟩) (bs.length+(runeCells r).length) cap':=by
  rcases hown'.2 with⟨_,h0⟩|⟨g,cap',cur,fz,hv,_⟩
  · omega
  · exact⟨g,cap',hv⟩
 go_wp2
 go_ret2;refine⟨?_,.inr ?_,?_,((hk1.alloc _).grown hgrow (Lib.ownsRowF_kind (hown.alloc _))).setCell ⟨b,1,none⟩ rfl _⟩
 · have e:((bs.length:Int)+((runeCells r).length:Int)-(bs.length:Int))=((runeCells r).length:Int):=by omega
   simp[e]
 · exact Lib.BuilderAtF.put (T:=190) (e:=5) hB hb2 (bs':=bs++runeCells r) (by simpa using hown') (by decide)
 · exact((hb1.alloc (by have:=hb1.size;omega) _).grown hgrow (by have:=hb1.size;simp;omega) (fun k hk=>(hown.lt k hk).1)).setCell (p:=⟨b,1,none⟩) hB _
end Go.Proofs.YtainiaighnjpfaaGreatDoor
