/- Evolve's laws: the versions of a seed: what lies while they are put together. Schemas of a seed, plainly. Seeds of schemas: one column, walked. Seeds of schemas: an argument's list of fives, read as such. Schemas: names of whatever length; schemas that lie in memory. Schemas: a number among numbers; four texts joined; the lines of a schema. Schemas, plainly: what is read has that text; what may be is read of its text as it was. Schemas, plainly: a kind's word as the reference looks for it. Schemas, plainly: what may be is read of its text as it was. Schemas of a seed, plainly: their texts are short, and have a line feed for each column. Seeds of schemas: the schema of a seed, walked. Evolve's laws: a seed and rows of numbers among the arguments, read as such. Evolve's laws, plainly: how long a seed's texts and rows are. Schemas that follow each other, plainly: a version that is turned in one thing. -/
import Derived.Test.YtikpmmipopmjaaaGreatDoorZQas
import Derived.Test.YtikpmmipopmjaaaGreatDoorZQai
import Derived.Test.YtikpmmipopmjaaaGreatDoorZQae
import Derived.Test.YtikpmmipopmjaaaGreatDoorZQm
import Derived.Test.YtikpmmipopmjaaaGreatDoorZQj
import Derived.Test.YtikpmmipopmjaaaGreatDoorZQx
import Derived.Test.YtikpmmipopmjaaaGreatDoorZQp
import Derived.Deep.DeepCutAuto
import Derived.Test.YtikpmmipopmjaaaGreatDoorZQw
import Derived.Test.YtikpmmipopmjaaaGreatDoorZQo
import Derived.Test.YtikpmmipopmjaaaGreatDoorZQs
import Derived.Test.YtikpmmipopmjaaaGreatDoorZQag
import Derived.Lib.ItoaLen
import Derived.Test.YtikpmmipopmjaaaGreatDoorZQu
import Derived.Lib.ItoaMem
import Derived.Test.YtikpmmipopmjaaaGreatDoorZQar
import Derived.Test.YtikpmmipopmjaaaGreatDoorZQaf
set_option linter.unusedVariables false
set_option linter.unusedSimpArgs false
namespace Go.Ms
open Go.RowKit Go.Lib
def qHt:Nat→List (Int×Int×Int)→List Co→Int→List Co×Int
  |_,[],s,id=>(s,id)
  |i,v::r,s,id=>qHt (i+1) r (qCh i v s id).1 (qCh i v s id).2
theorem qLx (v:Int×Int×Int):∀(l:List (Int×Int×Int)) (i:Nat) (s:List Co) (id:Int),qHt i (l++[v]) s id=qCh (i+l.length) v (qHt i l s id).1 (qHt i l s id).2
  |[],i,s,id=>rfl
  |a::r,i,s,id=>by
   show qHt (i+1) (r++[v]) _ _=_
   rw[qLx v r (i+1),List.length_cons,show i+1+r.length=i+(r.length+1) by omega];rfl
theorem qLb (v:Int×Int×Int):∀(l:List (Int×Int×Int)) (i:Nat) (s:List Co) (id:Int),qC3 i (l++[v]) s id=qC3 i l s id++[((qCh (i+l.length) v (qHt i l s id).1 (qHt i l s id).2).1,[0])]
  |[],i,s,id=>rfl
  |a::r,i,s,id=>by
   show _::qC3 (i+1) (r++[v]) _ _=_
   rw[qLb v r (i+1),List.length_cons,show i+1+r.length=i+(r.length+1) by omega];rfl
theorem qRi:∀(l:List (Int×Int×Int)) (i:Nat) (s:List Co) (id:Int),EvOk i s id→i+l.length≤7→EvOk (i+l.length) (qHt i l s id).1 (qHt i l s id).2
  |[],i,s,id,h,_=>h
  |v::r,i,s,id,h,hl=>by
   rw[List.length_cons] at hl;have:=qRi r (i+1) _ _ (qIs h (by omega) v).1 (by omega);rw[List.length_cons,show i+(r.length+1)=i+1+r.length by omega];exact this
theorem qLa (gone wide:Int) (c:Co):∀(l:List Co) (k:Nat),qBw gone wide k (l++[c])=qBw gone wide k l++(if 0<k+l.length∧(gone/2^(k+l.length))%2=1 then [] else [qBu wide (k+l.length) c])
  |[],k=>by
   show qBw gone wide k [c]=_
   rw[List.length_nil,Nat.add_zero];unfold qBw
   split <;> rfl
  |a::r,k=>by
   have ih:=qLa gone wide c r (k+1);rw[List.length_cons,show k+(r.length+1)=k+1+r.length by omega]
   show qBw gone wide k (a::(r++[c]))=_
   unfold qBw
   split
   · exact ih
   · rw[ih];rfl
def v3V (l:List (Int×Int×Int)):List Value:=l.flatMap fun v=>[.int .i64 v.1,.int .i64 v.2.1,.int .i64 v.2.2]
theorem zAs (l:List (Int×Int×Int)):(v3V l).length=l.length*3:=by
 induction l with
 |nil=>rfl
 |cons a t ih=>show([_,_,_]++v3V t).length=_;rw[List.length_append,ih,List.length_cons];simp;omega
theorem qY0:∀(l:List (Int×Int×Int)) (i:Nat) (c:Int×Int×Int),l[i]?=some c→(v3V l)[i*3]?=some (.int .i64 c.1)∧(v3V l)[i*3+1]?=some (.int .i64 c.2.1)∧(v3V l)[i*3+2]?=some (.int .i64 c.2.2)
  |[],i,r,h=>by simp at h
  |a::t,0,r,h=>by
   have h:a=r:=by simpa using h
   subst h;exact⟨rfl,rfl,rfl⟩
  |a::t,i+1,r,h=>by
   have ih:=qY0 t i r (by simpa using h)
   have e1:(i+1)*3=i*3+3:=by omega
   rw[e1];exact ih
structure qPn (g o B:Nat) (a b c:Int) (W:World):Prop where
  lt:g<B
  c0:W.cell? ⟨g,o,none⟩=some (.int .i64 a)
  c1:W.cell? ⟨g,o+1,none⟩=some (.int .i64 b)
  c2:W.cell? ⟨g,o+2,none⟩=some (.int .i64 c)
theorem qPn.below {g o B:Nat} {a b c:Int} {W W':World} (h:qPn g o B a b c W) (hb:Below B W W'):qPn g o B a b c W':=⟨h.lt,(hb.cell h.lt).trans h.c0,(hb.cell h.lt).trans h.c1,(hb.cell h.lt).trans h.c2⟩
theorem qPn.more {g o B B':Nat} {a b c:Int} {W:World} (h:qPn g o B a b c W) (hb:B≤B'):qPn g o B' a b c W:=⟨Nat.lt_of_lt_of_le h.lt hb,h.c0,h.c1,h.c2⟩
theorem Lay.v3 {W:World} {B:Nat} {A:Option Addr} {l:List (Int×Int×Int)} {i:Nat} {c:Int×Int×Int} (h:Lay W B A (v3V l)) (hi:l[i]?=some c):∃g o,A=some ⟨g,o,none⟩∧qPn g (o+i*3) B c.1 c.2.1 c.2.2 W:=by
 have hl:=(List.getElem?_eq_some_iff.1 hi).1;obtain⟨g,o,e,hb,hc⟩:=h.some_ (by rw[zAs];omega);obtain⟨h1,h2,h3⟩:=qY0 l i c hi;exact⟨g,o,e,hb,hc _ _ h1,hc _ _ h2,hc _ _ h3⟩
structure ChC (tS tC tI:TypeId) (W0:World) (v10:Value) (l:List Co) (W:World):Prop where
  bel:Below W0.heap.size W0 W
  kb:W.heap[W0.heap.size]?=some (.cells #[.int .i64 0] tI (0,0))
  q10:W.heap[W0.heap.size+1]?=some (.cells #[v10,.slice (some ⟨W0.heap.size,0,none⟩) 1 1] tS (0,0))
  own:qBt W (W0.heap.size+2) tC v10 l
  sz:W0.heap.size+2≤W.heap.size
section
variable {tS tC tI:TypeId} {W0 W W':World} {v10:Value} {l:List Co}
theorem ChC.start (tS tC tI:TypeId) (W0:World):ChC tS tC tI W0 (.slice none 0 0) [] ((W0.alloc (.cells #[.int .i64 0] tI)).alloc (.cells #[.slice none 0 0,.slice (some ⟨W0.heap.size,0,none⟩) 1 1] tS)):=by
 refine⟨((Below.refl _ W0).alloc (Nat.le_refl _) _).alloc (by rw[World.size_alloc];omega) _,qAe (qAf _ _) _,?_,World.ownsRow_nil _ _ _ _,by rw[World.size_alloc,World.size_alloc];omega⟩;have:=qAf (W0.alloc (.cells #[.int .i64 0] tI)) (.cells #[.slice none 0 0,.slice (some ⟨W0.heap.size,0,none⟩) 1 1] tS);rw[World.size_alloc] at this;exact this
theorem ChC.to (h:ChC tS tC tI W0 v10 l W) (hb:Below W.heap.size W W'):ChC tS tC tI W0 v10 l W':=
  ⟨h.bel.trans (hb.mono h.bel.size),qAb h.kb hb,qAb h.q10 hb,own_below h.own hb,Nat.le_trans h.sz hb.size⟩
theorem ChC.push {v':Value} {c:Co} (h:ChC tS tC tI W0 v10 l W) (n2:tS≠tC) (n3:tI≠tC) (ho:W'.ownsRow (W0.heap.size+2) tC 7 v' (l.length+1) (colV l++coV c)) (hg:W.grownBy W' v10.ownBlock) :
    ChC tS tC tI W0 v' (l++[c]) (W'.setCell ⟨W0.heap.size+1,0,none⟩ v'):=by
 have he:=EffT.own h.own hg
 have ho2:qBt W' (W0.heap.size+2) tC v' (l++[c]):=by
  unfold qBt;rw[List.length_append,qJn,show colV [c]=coV c by simp[colV]];exact ho
 exact⟨(qBr h.own h.bel h.bel.size (by omega) hg).setCell (p:=⟨W0.heap.size+1,0,none⟩) (by simp only;omega) _,qAj (he.keep h.kb n3) (by omega) _,two_set0 (he.keep h.q10 n2) _,own_set' ho2 (by omega) _,by simp only[World.size_setCell];exact Nat.le_trans h.sz hg.size⟩
theorem ChC.far (h:ChC tS tC tI W0 v10 l W) {b:Nat} (hb:W0.heap.size+2≤b) (hne:v10.ownBlock≠some b) (i:Nat) (u:Value):ChC tS tC tI W0 v10 l (W.setCell ⟨b,i,none⟩ u):=
  ⟨h.bel.setCell (p:=⟨b,i,none⟩) (by simp only;omega) _,qAj h.kb (by omega) _,qAj h.q10 (by omega) _,World.ownsRow.kept h.own (qAm W b i u) (.inr hne),by simp only[World.size_setCell];exact h.sz⟩
theorem ChC.sc2 {A:Option Addr} {n c:Nat} (h:ChC tS tC tI W0 (.slice A n c) l W) (hn:n=l.length) (hl:n≤100000):ScT tC tI W ⟨A,n,c,some ⟨W0.heap.size,0,none⟩,1,1⟩ (l,[0]):=by
 subst hn;exact⟨⟨rfl,rfl,hl,(show 1≤100000 by omega),Lay.of_own h.own (Nat.le_refl _),qFp (xs:=intV [0]) h.kb⟩,TyAt.own h.own,fun g o e=>by cases e;exact⟨_,h.kb⟩⟩
theorem ChC.sc (h:ChC tS tC tI W0 v10 l W) (hl:l.length≤100000):∃A c,v10=.slice A l.length c∧ScT tC tI W ⟨A,l.length,c,some ⟨W0.heap.size,0,none⟩,1,1⟩ (l,[0]):=by
 obtain⟨A,c,rfl,-,-⟩:=qAg h.own;exact⟨A,c,rfl,⟨rfl,rfl,hl,(show 1≤100000 by omega),Lay.of_own h.own (Nat.le_refl _),qFp (xs:=intV [0]) h.kb⟩,TyAt.own h.own,fun g o e=>by cases e;exact⟨_,h.kb⟩⟩
end
end Go.Ms
set_option linter.unusedSimpArgs false
namespace Go.Ms
open Go.RowKit Go.Lib
end Go.Ms
set_option linter.unusedSimpArgs false
namespace Go.Ms
open Go.RowKit Go.Lib Go.Rel
theorem qW8 {w:World} {b:Nat} {v0 v1 v2 v3 v4 v5 v6:Value} {T:TypeId} (h:w.heap[b]?=some (.cells #[v0,v1,v2,v3,v4,v5,v6] T (0,0))) (x0 x1 x2 x3 x4 x5 x6:Value) :
    (((((((w.setCell ⟨b,0,none⟩ x0).setCell ⟨b,1,none⟩ x1).setCell ⟨b,2,none⟩ x2).setCell ⟨b,3,none⟩ x3).setCell ⟨b,4,none⟩ x4).setCell ⟨b,5,none⟩ x5).setCell ⟨b,6,none⟩ x6).heap[b]?=some (.cells #[x0,x1,x2,x3,x4,x5,x6] T (0,0)):=by
 simp[World.setCell,Array.getElem?_modify,h]
end Go.Ms
namespace Go.Proofs.YtikpmmipopmjaaaGreatDoor
open Go.RowKit Go.Ms Go.Lib Go.Rel
end Go.Proofs.YtikpmmipopmjaaaGreatDoor
set_option linter.unusedSimpArgs false
namespace Go.Ms
open Go.RowKit Go.Lib
end Go.Ms
namespace Go.Proofs.YtikpmmipopmjaaaGreatDoor
open Go.RowKit Go.Ms Go.Lib Go.ChangeShapes Go.WideShapes Go.Deep
section
end
end Go.Proofs.YtikpmmipopmjaaaGreatDoor
set_option linter.unusedSimpArgs false
namespace Go.Ms
open Go.RowKit Go.Lib
end Go.Ms
namespace Go.Proofs.YtikpmmipopmjaaaGreatDoor
open Go.RowKit Go.Ms Go.Lib
end Go.Proofs.YtikpmmipopmjaaaGreatDoor
set_option linter.unusedSimpArgs false
namespace Go.Ms
open Go.RowKit Go.Lib
end Go.Ms
namespace Go.Proofs.YtikpmmipopmjaaaGreatDoor
open Go.RowKit Go.Ms Go.Lib
end Go.Proofs.YtikpmmipopmjaaaGreatDoor
set_option linter.unusedSimpArgs false
namespace Go.Ms
open Go.RowKit Go.Lib
end Go.Ms
set_option linter.unusedSimpArgs false
namespace Go.Ms
open Go.RowKit Go.Lib
end Go.Ms
set_option linter.unusedSimpArgs false
namespace Go.Ms
open Go.RowKit Go.Lib
end Go.Ms
set_option linter.unusedSimpArgs false
namespace Go.Ms
open Go.RowKit Go.Lib
end Go.Ms
set_option linter.unusedSimpArgs false
namespace Go.Ms
open Go.RowKit Go.Lib
section
end
end Go.Ms
namespace Go.Proofs.YtikpmmipopmjaaaGreatDoor
open Go.RowKit Go.Ms Go.Lib
end Go.Proofs.YtikpmmipopmjaaaGreatDoor
set_option linter.unusedSimpArgs false
namespace Go.Ms
open Go.RowKit Go.Lib
def thrV (x:Int×Int×Int):List Value:=[.int .i64 x.1,.int .i64 x.2.1,.int .i64 x.2.2]
theorem qW2 (x:Int×Int×Int):(thrV x).length=3:=rfl
def qYl (x:Int×Int×Int):Prop:=I64 x.1∧I64 x.2.1∧I64 x.2.2
theorem zCq {l:List (Int×Int×Int)} (h:∀x∈l,qYl x):∀x∈l, -9223372036854775808≤x.1∧x.1≤9223372036854775807∧ -9223372036854775808≤x.2.1∧x.2.1≤9223372036854775807∧ -9223372036854775808≤x.2.2∧x.2.2≤9223372036854775807:=fun x hx=>by
 have h1:=(h x hx).1;have h2:=(h x hx).2.1;have h3:=(h x hx).2.2;unfold I64 at h1 h2 h3;omega
structure qQm (w:World) (A:Option Addr) (n:Nat) (C:List Int) (B:Option Addr) (m:Nat) (V:List (Int×Int×Int)):Prop where
  en:n=C.length
  em:m=V.length
  nn:n≤maxLen
  mm:m≤maxLen
  la:Lay w w.heap.size A (intV C)
  lb:Lay w w.heap.size B (v3V V)
  c:∀x∈C, -9223372036854775808≤x∧x≤9223372036854775807
  v:∀x∈V, -9223372036854775808≤x.1∧x.1≤9223372036854775807∧ -9223372036854775808≤x.2.1∧x.2.1≤9223372036854775807∧ -9223372036854775808≤x.2.2∧x.2.2≤9223372036854775807
theorem qQm.to {w w':World} {A:Option Addr} {n:Nat} {C:List Int} {B:Option Addr} {m:Nat} {V:List (Int×Int×Int)} (h:qQm w A n C B m V) (hb:Below w.heap.size w w'):qQm w' A n C B m V:=
  ⟨h.en,h.em,h.nn,h.mm,(h.la.below hb).more hb.size,(h.lb.below hb).more hb.size,h.c,h.v⟩
theorem qQm.of {w:World} {A:Option Addr} {n c:Nat} {C:List Int} {B:Option Addr} {m d:Nat} {V:List (Int×Int×Int)} (hc:n≤c) (kc:c≤maxLen) (ll:C.length=n) (ex:Ext w w.heap.size A (intV C)) (ok:∀x∈C,I64 x)
    (hd:m≤d) (kd:d≤maxLen) (lm:V.length=m) (exb:Ext w w.heap.size B (v3V V)) (okb:∀x∈V,qYl x):qQm w A n C B m V:=
  ⟨ll.symm,lm.symm,Nat.le_trans hc kc,Nat.le_trans hd kd,qP1 ex,qP1 exb,ok,zCq okb⟩
end Go.Ms
namespace Go.Proofs.YtikpmmipopmjaaaGreatDoor
open Go.RowKit Go.Ms Go.Lib Go.ChangeShapes Go.WideShapes Go.Deep
section
variable {H:Type} {enc:TypeId×Value→H} {w:World} {base:Nat} {spare:Nat→Bool} {held:Bool}
theorem qOj:Tryz.prog.cellsOf 50=3:=by kernel_rfl
set_option maxRecDepth 100000 in
theorem zB1 {n:Nat} {cs':List Value} {y:DataW H×List MemPlace} (h:DataW.trod enc Tryz.prog w base spare held n 50 cs'=some y):∃x:Int×Int×Int,cs'=thrV x∧qYl x:=by
 obtain⟨xs,n',_,_,hl,hxl,hf⟩:=DataW.trod_array Tryz.underlying50 h;rw[qOj] at hl
 obtain⟨c0,c1,c2,rfl⟩:∃c0 c1 c2,cs'=[c0,c1,c2]:=by
  match cs',hl with
  |[a,b,c],_=>exact⟨a,b,c,rfl⟩
 obtain⟨y0,y1,y2,rfl⟩:∃c0 c1 c2,xs=[c0,c1,c2]:=by
  match xs,hxl with
  |[a,b,c],_=>exact⟨a,b,c,rfl⟩
 have k0:=hf 0 (by omega);have k1:=hf 1 (by omega);have k2:=hf 2 (by omega);rw[qFh] at k0 k1 k2;obtain⟨m0,e0,_,w0⟩:=DataW.trod_int Tryz.underlying3 (show DataW.trod enc Tryz.prog w base spare held n' 3 [c0]=some y0 from k0);obtain⟨m1,e1,_,w1⟩:=DataW.trod_int Tryz.underlying3 (show DataW.trod enc Tryz.prog w base spare held n' 3 [c1]=some y1 from k1);obtain⟨m2,e2,_,w2⟩:=DataW.trod_int Tryz.underlying3 (show DataW.trod enc Tryz.prog w base spare held n' 3 [c2]=some y2 from k2)
 obtain rfl:c0=.int .i64 m0:=by simpa using e0
 obtain rfl:c1=.int .i64 m1:=by simpa using e1
 obtain rfl:c2=.int .i64 m2:=by simpa using e2
 exact⟨(m0,m1,m2),rfl,I64.of w0,I64.of w1,I64.of w2⟩
end
end Go.Proofs.YtikpmmipopmjaaaGreatDoor
set_option linter.unusedSimpArgs false
namespace Go.Ms
open Go.RowKit Go.Lib
theorem qV2 (t:Ty) (n:Int):(qBy t n).2.2.size≤8:=by
 have h0:(ByteArray.mk #[]).size≤8:=by decide
 unfold qBy
 split
 · exact h0
 · split
   · exact h0
   · split
     · exact h0
     · split
       · exact h0
       · show(ByteArray.mk ((#[97,98,99,100,101,102,103,104]:Array UInt8).extract 0 (n%9).toNat)).size≤8
         rcases qQd (n:=n%9) ⟨by omega,by omega⟩ with e|e|e|e|e|e|e|e|e <;> rw[e] <;> decide +kernel
theorem qKa (n:List Int):∀(cs:List Co) (i:Nat),∀c∈qCi n i cs,c.2.2.size≤8
  |[],i,c,h=>by simp[qCi] at h
  |a::r,i,c,h=>by
   rw[qCi] at h
   rcases List.mem_cons.1 h with rfl|h
   · exact qV2 _ _
   · exact qKa n r (i+1) c h
theorem qSc (n:List Int) (cs:List Co) (i:Nat):∀c∈qCi n i cs,c.2.2.size≤100000:=fun c h=>by have:=qKa n cs i c h;omega
theorem qW6 {cs:List Co} {ks:List Int} (h:scOk cs ks=true):ScSz cs:=fun c hc=>by
 have:=qMl ((qK1 h).1 c hc);omega
theorem zAg (C:List Int) (V:List (Int×Int×Int)):∀s∈qEj C V,ScSz s.1:=fun s hs=>qW6 (qFq (qJe C V) s hs)
theorem qNs (C:List Int) (V:List (Int×Int×Int)):1≤(qEj C V).length∧(qEj C V).length≤8:=by
 have h:=qMh C V
 have:(V.take 7).length≤7:=by rw[List.length_take];omega
 omega
theorem qJg.own {W:World} {B:Nat} {e:TypeId} {v:Value} {r:List Cl} (h:OwnC W B e v r) (hl:r.length≤100000) (hs:∀c∈r,c.2.2.size≤100000):∃C c,v=.slice C r.length c∧qJg W C r.length r:=by
 obtain⟨C,c,rfl,-,-⟩:=qAg h;exact⟨C,c,rfl,rfl,hl,Lay.of_own h (Nat.le_refl _),hs⟩
end Go.Ms
set_option linter.unusedSimpArgs false
namespace Go.Ms
def EvDf (c:Co):Prop:=(c.2.2.2.2.1=0∨c.2.2.2.2.1=1)∧c.2.2.2.1=c.2.2.1.2∧(c.2.2.2.1=true→c.2.2.2.2.1=0)
theorem qQ1 {id n:Int} {nm:ByteArray} (h:0≤n∧n<8):EvDf (qE3 id nm n):=by
 unfold EvDf qE3
 rcases qNn h with rfl|rfl|rfl|rfl|rfl|rfl|rfl|rfl <;> refine⟨?_,?_,?_⟩ <;> simp[evDf,evNu]
theorem zAu {wide:Int} {k:Nat} {c:Co} (h:EvDf c):EvDf (qBu wide k c):=by
 unfold qBu
 split
 · exact h
 · exact h
theorem qRm (l:List Int):∀c∈qEo::qBq 0 l,EvDf c:=by
 intro c hc
 rcases List.mem_cons.1 hc with rfl|hc
 · unfold EvDf qEo;decide +kernel
 · obtain⟨j,hj⟩:=List.getElem?_of_mem hc;obtain⟨n,rfl,_⟩:=qIu l 0 j c hj;exact qQ1 (by omega)
theorem qT0 {i:Nat} {v:Int×Int×Int} {s:List Co} {id:Int} (h:∀c∈s,EvDf c):∀c∈(qCh i v s id).1,EvDf c:=by
 have hk:∀c∈qBw (v.1%65536) (v.2.1%65536) 0 s,EvDf c:=fun c hc=>by
  obtain⟨j,hj⟩:=List.getElem?_of_mem hc;obtain⟨m,d,_,h2,rfl⟩:=qKm _ _ s 0 j c hj;exact zAu (h d (List.mem_of_getElem? h2))
 intro c hc
 unfold qCh at hc
 split at hc
 · exact hk c hc
 · rcases List.mem_append.1 hc with h1|h1
   · exact hk c h1
   · obtain rfl:=List.mem_singleton.1 h1;exact qQ1 (by omega)
theorem qNr:∀(V:List (Int×Int×Int)) (i:Nat) (s:List Co) (id:Int),EvOk i s id→(∀c∈s,EvDf c)→i+V.length≤7→
    ∀t∈qC3 i V s id,t.2=[0]∧(∃j m,j≤7∧EvOk j t.1 m)∧∀c∈t.1,EvDf c
  |[],i,s,id,h,hd,hi,t,ht=>by simp[qC3] at ht
  |v::r,i,s,id,h,hd,hi,t,ht=>by
   rw[List.length_cons] at hi;obtain⟨h1,_,_⟩:=qIs h (by omega) v;rw[qC3] at ht
   rcases List.mem_cons.1 ht with rfl|ht
   · exact⟨rfl,⟨i+1,_,by omega,h1⟩,qT0 hd⟩
   · exact qNr r (i+1) _ _ h1 (qT0 hd) (by omega) t ht
theorem qUl (C:List Int) (V:List (Int×Int×Int)):∀t∈qEj C V,t.2=[0]∧(∃j m,j≤7∧EvOk j t.1 m)∧∀c∈t.1,EvDf c:=by
 have hC:(C.take 6).length≤6:=by rw[List.length_take];omega
 have hV:(V.take 7).length≤7:=by rw[List.length_take];omega
 intro t ht
 unfold qEj at ht
 rcases List.mem_cons.1 ht with rfl|ht
 · exact⟨rfl,⟨0,_,by omega,qGq hC⟩,qRm _⟩
 · exact qNr _ 0 _ _ (qGq hC) (qRm _) (by omega) t ht
theorem qGo {i:Nat} (hi:i≤7) {x:Bs} (h:x∈qGa i):x∈qGa 7:=by
 have:∀k,i+k≤7→x∈qGa (i+k):=fun k=>by
  induction k with
  |zero=>intro _;exact h
  |succ k ih=>intro hk;exact qMf (ih (by omega))
 have e:=this (7-i) (by omega)
 rwa [show i+(7-i)=7 by omega] at e
theorem qUa {i:Nat} {s:List Co} {id:Int} (h:EvOk i s id) (hi:i≤7) {k:Nat} {c d:Co} (hk:s[k]?=some c) (h1:d.1=c.1) (h2:coOk d=true) (h3:d.2.1=c.2.1∨d.2.1.data.toList∉qGa 7) (h4:k=0→d.2.2.1.2=false) {ks:List Int} (hks:ks=[0]∨ks=[]):scOk (s.set k d) ks=true:=by
 have hl:=h.ln;have hib:=h.ib;have hkl:=(List.getElem?_eq_some_iff.1 hk).1
 have at1:∀(j:Nat) x,(s.set k d)[j]?=some x→(j=k∧x=d)∨(j≠k∧s[j]?=some x):=fun j x hx=>by
  rw[List.getElem?_set] at hx
  split at hx
  · rename_i e
    exact .inl ⟨e.symm,(Option.some.inj hx).symm⟩
  · rename_i e;exact .inr ⟨fun e'=>e e'.symm,hx⟩
 have nmd:∀(j:Nat) x,j≠k→s[j]?=some x→d.2.1≠x.2.1:=fun j x hj hx e=>by
  rcases h3 with h3|h3
  · rcases Nat.lt_or_gt_of_ne hj with h5|h5
    · exact h.ap j k x c h5 hx hk (e.symm.trans h3)
    · exact h.ap k j c x h5 hk hx (h3.symm.trans e)
  · rw[e] at h3;exact h3 (qGo hi (h.nm x (List.mem_of_getElem? hx)))
 have le:∀(j:Nat) x,(s.set k d)[j]?=some x→1≤x.1∧x.1≤id:=fun j x hx=>by
  rcases at1 j x hx with⟨_,rfl⟩|⟨_,hx⟩
  · rw[h1];exact h.le c (List.mem_of_getElem? hk)
  · exact h.le x (List.mem_of_getElem? hx)
 have full0:∀c',(s.set k d)[0]?=some c'→c'.2.2.1.2=false:=fun c' hc=>by
  rcases at1 0 c' hc with⟨e,rfl⟩|⟨_,hc⟩
  · exact h4 e.symm
  · obtain⟨c0,r0,hs0,_,hc2⟩:=h.hd;rw[hs0] at hc
    obtain rfl:c0=c':=by simpa using hc
    exact hc2
 refine(qB6 _ _).2 ⟨fun j x hx=>?_,by rw[List.length_set];omega,by rw[List.length_set];omega,fun a b x y hab hx hy=>?_,fun j x hx=>?_,fun j x y hx hy=>?_,?_,fun j x hx=>?_,fun j a b ha hb=>?_,fun j x c' hx hc=>?_⟩
 · have hco:coOk x=true:=by
     rcases at1 j x hx with⟨_,rfl⟩|⟨_,hx⟩
     · exact h2
     · exact h.co x (List.mem_of_getElem? hx)
   unfold coOk at hco
   simpa using hco
 · rcases at1 a x hx with⟨e,e1⟩|⟨e,hx1⟩
   · rcases at1 b y hy with⟨e',e1'⟩|⟨e',hy1⟩
     · omega
     · rw[e1];exact nmd b y e' hy1
   · rcases at1 b y hy with⟨e',e1'⟩|⟨e',hy1⟩
     · rw[e1'];exact fun e2=>nmd a x e hx1 e2.symm
     · exact h.ap a b x y hab hx1 hy1
 · have:=le j x hx;omega
 · rcases at1 j x hx with⟨e,e1⟩|⟨e,hx1⟩
   · rcases at1 (j+1) y hy with⟨e',e1'⟩|⟨e',hy1⟩
     · omega
     · rw[e1,h1];exact h.up (j+1) k c y (by omega) hk hy1
   · rcases at1 (j+1) y hy with⟨e',e1'⟩|⟨e',hy1⟩
     · rw[e1',h1];exact h.up k j x c (by omega) hx1 hk
     · exact h.up (j+1) j x y (by omega) hx1 hy1
 · rcases hks with rfl|rfl <;> simp
 · rcases hks with rfl|rfl
   · obtain⟨hj,rfl⟩:j=0∧(0:Int)=x:=by
       cases j with
       |zero=>simpa using hx
       |succ j=>simp at hx
     rw[List.length_set];omega
   · simp at hx
 · rcases hks with rfl|rfl <;> simp at hb
 · rcases hks with rfl|rfl
   · obtain⟨hj,rfl⟩:j=0∧(0:Int)=x:=by
       cases j with
       |zero=>simpa using hx
       |succ j=>simp at hx
     exact full0 c' hc
   · simp at hx
theorem qYu {s:List Co} {ks ls:List Int} (hu:qKy s) {k:Nat} {c d:Co} (hk:s[k]?=some c) (h1:d.1=c.1) (hs:qBj c d=false) (ab:Int):qAl (s,ks) (s.set k d,ls) ab=false:=by
 have hkl:=(List.getElem?_eq_some_iff.1 hk).1
 cases e:qAl (s,ks) (s.set k d,ls) ab with
 |false=>rfl
 |true=>
  exfalso
  unfold qAl at e;simp only[Bool.and_eq_true,decide_eq_true_eq,List.all_eq_true] at e;have hd:d∈s.set k d:=List.mem_of_getElem? (i:=k) (by rw[List.getElem?_set,if_pos rfl,if_pos hkl]);have:=qQ7 (e.1 d hd) (by rw[h1];exact qIj hu hk) hk;rw[hs] at this
  cases this
theorem qNc {a b:Sc} (ha:scOk a.1 a.2=true) (hb:scOk b.1 b.2=true) (h:∀ab,qAl a b ab=false):qBh a b=120∧qA6 [a,b]=120:=by
 constructor
 · unfold qBh;rw[if_pos ⟨ha,hb⟩,if_neg]
   rw[h];simp
 · unfold qA6;rw[if_neg (by simp),if_pos (by simp[ha,hb])];simp only[qEp,h,Bool.false_and]
   simp
end Go.Ms
