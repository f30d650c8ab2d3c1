/- Two numbers among the arguments. Schemas of a seed, plainly. Seeds of schemas: one column, walked. What lies at an address lies at a plain one. Seeds of schemas: an argument's list of fives, read as such. Schemas: columns of one's own, stored; a schema cut. Schemas: names of whatever length; schemas that lie in memory. Schemas: a number among numbers; four texts joined; the lines of a schema. Schemas, plainly: what is read has that text; what may be is read of its text as it was. Schemas, plainly: a kind's word as the reference looks for it. Schemas, plainly: what may be is read of its text as it was. Schemas of a seed, plainly: their texts are short, and have a line feed for each column. Seeds of schemas: the schema of a seed, walked. Evolve's laws: a seed and rows of numbers among the arguments, read as such. Registry's laws: offers among the arguments, read as such. -/
import Derived.Test.YtainiaighnjpfaaGreatDoorZQaj
import Derived.Test.YtainiaighnjpfaaGreatDoorZQb
import Derived.Test.YtainiaighnjpfaaGreatDoorZQc
import Derived.Test.YtainiaighnjpfaaGreatDoorZQah
import Derived.Test.YtainiaighnjpfaaGreatDoorZQx
import Derived.Test.YtainiaighnjpfaaGreatDoorZQp
import Derived.Deep.DeepCutAuto
import Derived.Test.YtainiaighnjpfaaGreatDoorZQu
import Derived.Test.YtainiaighnjpfaaGreatDoorZQo
import Derived.Test.YtainiaighnjpfaaGreatDoorZQr
import Derived.Test.YtainiaighnjpfaaGreatDoorZQac
import Derived.Lib.ItoaLen
import Derived.Test.YtainiaighnjpfaaGreatDoorZQt
import Derived.Lib.ItoaMem
set_option linter.unusedVariables false
set_option linter.unusedSimpArgs false
namespace Go.Proofs.YtainiaighnjpfaaGreatDoor
open Go.RowKit Go.Ms Go.Lib Go.ChangeShapes Go.WideShapes Go.Deep
section
variable {H:Type} {enc:TypeId×Value→H} {w:World} {base:Nat} {spare:Nat→Bool} {held:Bool}
set_option maxRecDepth 100000 in
theorem qW9 {r:Reach} {b0:Nat} {v:Value} {d:DataW H} {p:List MemPlace} (hv:Value.okWide Tryz.prog w r b0 23 v) (h:DataW.Trod enc Tryz.prog w base spare held 23 v d p) :
    ∃a b:Int,v=.agg #[.int .i64 a,.int .i64 b]∧I64 a∧I64 b:=by
 simp only[Value.okWide,Tryz.underlying23] at hv;obtain⟨cs,rfl,hsz,_⟩:=hv
 obtain⟨c0,c1,rfl⟩:∃c0 c1,cs=#[c0,c1]:=by
  have h2:=hsz.trans (show Tryz.prog.cellsOf 23=2 by kernel_rfl);obtain⟨l⟩:=cs
  match l,h2 with
  |[a,b],_=>exact⟨a,b,rfl⟩
 obtain⟨fuel,hf⟩:=h;obtain⟨xs,n',_,_,hl,hxl,hf⟩:=DataW.trod_array Tryz.underlying23 (show DataW.trod enc Tryz.prog w base spare held fuel 23 [c0,c1]=some (d,p) from hf)
 obtain⟨y0,y1,rfl⟩:∃c0 c1,xs=[c0,c1]:=by
  match xs,hxl with
  |[a,b],_=>exact⟨a,b,rfl⟩
 have k0:=hf 0 (by omega);have k1:=hf 1 (by omega);rw[qOr] at k0 k1;obtain⟨m0,e0,_,w0⟩:=DataW.trod_int Tryz.underlying3 (show DataW.trod enc Tryz.prog w base spare held n' 3 [c0]=some y0 from k0);obtain⟨m1,e1,_,w1⟩:=DataW.trod_int Tryz.underlying3 (show DataW.trod enc Tryz.prog w base spare held n' 3 [c1]=some y1 from k1)
 obtain rfl:c0=.int .i64 m0:=by simpa using e0
 obtain rfl:c1=.int .i64 m1:=by simpa using e1
 exact⟨m0,m1,rfl,I64.of w0,I64.of w1⟩
end
end Go.Proofs.YtainiaighnjpfaaGreatDoor
set_option linter.unusedSimpArgs false
namespace Go.Ms
open Go.RowKit Go.Lib
end Go.Ms
set_option linter.unusedSimpArgs false
namespace Go.Ms
open Go.RowKit Go.Lib Go.Rel
end Go.Ms
namespace Go.Proofs.YtainiaighnjpfaaGreatDoor
open Go.RowKit Go.Ms Go.Lib Go.Rel
end Go.Proofs.YtainiaighnjpfaaGreatDoor
set_option linter.unusedSimpArgs false
namespace Go.Ms
open Go.RowKit Go.Lib
theorem qTx {w:World} {B:Nat} {A:Option Addr} {xs:List Value} (h:Ext w B A xs):Lay w B A xs:=fun j u hu=>by
 have hl:j<xs.length:=(List.getElem?_eq_some_iff.1 hu).1;obtain⟨a,rfl,hb,h0⟩:=h 0 _ (List.getElem?_eq_getElem (by omega));obtain⟨_,e,_,hj⟩:=h j u hu
 cases e
 obtain⟨g,o,s⟩:=a
 have hs:s=none:=by
  cases s with
  |none=>rfl
  |some x=>
   exfalso
   have:(Addr.add ⟨g,o,some x⟩ 0)=⟨g,o,some x⟩:=rfl;rw[this] at h0;unfold World.cell? at h0
   split at h0
   · simp at h0
   · cases h0
 subst hs;refine⟨g,o,rfl,hb,?_⟩;rw[Addr.add_lit] at hj;exact hj
end Go.Ms
set_option linter.unusedSimpArgs false
namespace Go.Ms
open Go.RowKit Go.Lib
end Go.Ms
namespace Go.Proofs.YtainiaighnjpfaaGreatDoor
open Go.RowKit Go.Ms Go.Lib Go.ChangeShapes Go.WideShapes Go.Deep
section
end
end Go.Proofs.YtainiaighnjpfaaGreatDoor
set_option linter.unusedSimpArgs false
namespace Go.Ms
open Go.RowKit Go.Lib
theorem qWr:∀(l:List Co) (k:Nat) (c:Co),k<l.length→((((((((colV l).set (k*7) (.int .i64 c.1)).set (k*7+1) (.string c.2.1)).set (k*7+2) (.int .i64 c.2.2.1.1)).set (k*7+3) (.bool c.2.2.1.2)).set (k*7+4) (.bool c.2.2.2.1)).set (k*7+5) (.int .i64 c.2.2.2.2.1)).set (k*7+6) (.string c.2.2.2.2.2))=colV (l.set k c)
  |[],k,c,h=>by simp at h
  |a::t,0,c,h=>rfl
  |a::t,k+1,c,h=>by
   have ih:=qWr t k c (by simpa using h)
   have ec:∀(x:Co) (m:List Co),colV (x::m)=.int .i64 x.1::.string x.2.1::.int .i64 x.2.2.1.1::.bool x.2.2.1.2::.bool x.2.2.2.1::.int .i64 x.2.2.2.2.1::.string x.2.2.2.2.2::colV m:=fun _ _=>rfl
   have e0:(k+1)*7=k*7+7:=by omega
   rw[List.set_cons_succ,ec,ec,e0];simp only[Nat.add_assoc,Nat.reduceAdd,List.set_cons_succ];rw[ih]
theorem qXk {w:World} {B n cap g:Nat} {e:TypeId} {l:List Co} {k:Nat} {c:Co} (h:qEq w B e (.slice (some ⟨g,0,none⟩) n cap) l) (hc:l[k]?=some c) :
    w.cell? ⟨g,k*7,none⟩=some (.int .i64 c.1)∧w.cell? ⟨g,k*7+1,none⟩=some (.string c.2.1)∧w.cell? ⟨g,k*7+2,none⟩=some (.int .i64 c.2.2.1.1)∧w.cell? ⟨g,k*7+3,none⟩=some (.bool c.2.2.1.2)∧w.cell? ⟨g,k*7+4,none⟩=some (.bool c.2.2.2.1)∧w.cell? ⟨g,k*7+5,none⟩=some (.int .i64 c.2.2.2.2.1)∧w.cell? ⟨g,k*7+6,none⟩=some (.string c.2.2.2.2.2)∧
    w.frozen? ⟨g,k*7,none⟩=false∧w.frozen? ⟨g,k*7+1,none⟩=false∧w.frozen? ⟨g,k*7+2,none⟩=false∧w.frozen? ⟨g,k*7+3,none⟩=false∧w.frozen? ⟨g,k*7+4,none⟩=false∧w.frozen? ⟨g,k*7+5,none⟩=false∧w.frozen? ⟨g,k*7+6,none⟩=false:=by
 have hl:=h.lay;have hk:k<l.length:=(List.getElem?_eq_some_iff.1 hc).1;have k7:=qJd l k c hc
 have h':w.ownsRow B e 7 (.slice (some ⟨g,0,none⟩) n cap) n (colV l):=by unfold qEq at h;rw[←hl.1] at h;exact h
 have hn:=hl.1
 have hcell:∀j,j<n*7→w.cell? ⟨g,j,none⟩=(colV l)[j]?:=fun j hj=>World.ownsRow.cellAt h' j hj
 refine⟨(hcell _ (by omega)).trans (k7 0 _ rfl),(hcell _ (by omega)).trans (k7 1 _ rfl),(hcell _ (by omega)).trans (k7 2 _ rfl),(hcell _ (by omega)).trans (k7 3 _ rfl),(hcell _ (by omega)).trans (k7 4 _ rfl),(hcell _ (by omega)).trans (k7 5 _ rfl),(hcell _ (by omega)).trans (k7 6 _ rfl),
   World.ownsRow.frozenAt h' _,World.ownsRow.frozenAt h' _,World.ownsRow.frozenAt h' _,World.ownsRow.frozenAt h' _,World.ownsRow.frozenAt h' _,World.ownsRow.frozenAt h' _,World.ownsRow.frozenAt h' _⟩
theorem qXc {w:World} {B n cap g:Nat} {e:TypeId} {l:List Co} {k:Nat} (h:qEq w B e (.slice (some ⟨g,0,none⟩) n cap) l) (hk:k<l.length) (c:Co) :
    qEq (((((((w.setCell ⟨g,k*7,none⟩ (.int .i64 c.1)).setCell ⟨g,k*7+1,none⟩ (.string c.2.1)).setCell ⟨g,k*7+2,none⟩ (.int .i64 c.2.2.1.1)).setCell ⟨g,k*7+3,none⟩ (.bool c.2.2.1.2)).setCell ⟨g,k*7+4,none⟩ (.bool c.2.2.2.1)).setCell ⟨g,k*7+5,none⟩ (.int .i64 c.2.2.2.2.1)).setCell ⟨g,k*7+6,none⟩ (.string c.2.2.2.2.2)) B e (.slice (some ⟨g,0,none⟩) n cap) (l.set k c):=by
 have hl:=h.lay
 have h':w.ownsRow B e 7 (.slice (some ⟨g,0,none⟩) n cap) n (colV l):=by unfold qEq at h;rw[←hl.1] at h;exact h
 unfold qEq;rw[List.length_set,←hl.1,←qWr l k c hk];exact(World.ownsRow.stored (World.ownsRow.stored (World.ownsRow.stored (World.ownsRow.stored (World.ownsRow.stored (World.ownsRow.stored (World.ownsRow.stored h' _ _).1 _ _).1 _ _).1 _ _).1 _ _).1 _ _).1 _ _).1
end Go.Ms
namespace Go.Proofs.YtainiaighnjpfaaGreatDoor
open Go.RowKit Go.Ms Go.Lib
end Go.Proofs.YtainiaighnjpfaaGreatDoor
set_option linter.unusedSimpArgs false
namespace Go.Ms
open Go.RowKit Go.Lib
end Go.Ms
namespace Go.Proofs.YtainiaighnjpfaaGreatDoor
open Go.RowKit Go.Ms Go.Lib
end Go.Proofs.YtainiaighnjpfaaGreatDoor
set_option linter.unusedSimpArgs false
namespace Go.Ms
open Go.RowKit Go.Lib
end Go.Ms
namespace Go.Proofs.YtainiaighnjpfaaGreatDoor
open Go.RowKit Go.Ms Go.Lib
end Go.Proofs.YtainiaighnjpfaaGreatDoor
set_option linter.unusedSimpArgs false
namespace Go.Ms
open Go.RowKit Go.Lib
end Go.Ms
set_option linter.unusedSimpArgs false
namespace Go.Ms
open Go.RowKit Go.Lib
end Go.Ms
set_option linter.unusedSimpArgs false
namespace Go.Ms
open Go.RowKit Go.Lib
end Go.Ms
set_option linter.unusedSimpArgs false
namespace Go.Ms
open Go.RowKit Go.Lib
end Go.Ms
set_option linter.unusedSimpArgs false
namespace Go.Ms
open Go.RowKit Go.Lib
section
end
end Go.Ms
namespace Go.Proofs.YtainiaighnjpfaaGreatDoor
open Go.RowKit Go.Ms Go.Lib
end Go.Proofs.YtainiaighnjpfaaGreatDoor
set_option linter.unusedSimpArgs false
namespace Go.Ms
open Go.RowKit Go.Lib
def thrV (x:Int×Int×Int):List Value:=[.int .i64 x.1,.int .i64 x.2.1,.int .i64 x.2.2]
theorem qSf (x:Int×Int×Int):(thrV x).length=3:=rfl
def qQ9 (x:Int×Int×Int):Prop:=I64 x.1∧I64 x.2.1∧I64 x.2.2
theorem qUw {l:List (Int×Int×Int)} (h:∀x∈l,qQ9 x):∀x∈l, -9223372036854775808≤x.1∧x.1≤9223372036854775807∧ -9223372036854775808≤x.2.1∧x.2.1≤9223372036854775807∧ -9223372036854775808≤x.2.2∧x.2.2≤9223372036854775807:=fun x hx=>by
 have h1:=(h x hx).1;have h2:=(h x hx).2.1;have h3:=(h x hx).2.2;unfold I64 at h1 h2 h3;omega
end Go.Ms
namespace Go.Proofs.YtainiaighnjpfaaGreatDoor
open Go.RowKit Go.Ms Go.Lib Go.ChangeShapes Go.WideShapes Go.Deep
section
variable {H:Type} {enc:TypeId×Value→H} {w:World} {base:Nat} {spare:Nat→Bool} {held:Bool}
theorem qKs:Tryz.prog.cellsOf 35=3:=by kernel_rfl
set_option maxRecDepth 100000 in
theorem qVg {n:Nat} {cs':List Value} {y:DataW H×List MemPlace} (h:DataW.trod enc Tryz.prog w base spare held n 35 cs'=some y):∃x:Int×Int×Int,cs'=thrV x∧qQ9 x:=by
 obtain⟨xs,n',_,_,hl,hxl,hf⟩:=DataW.trod_array Tryz.underlying35 h;rw[qKs] at hl
 obtain⟨c0,c1,c2,rfl⟩:∃c0 c1 c2,cs'=[c0,c1,c2]:=by
  match cs',hl with
  |[a,b,c],_=>exact⟨a,b,c,rfl⟩
 obtain⟨y0,y1,y2,rfl⟩:∃c0 c1 c2,xs=[c0,c1,c2]:=by
  match xs,hxl with
  |[a,b,c],_=>exact⟨a,b,c,rfl⟩
 have k0:=hf 0 (by omega);have k1:=hf 1 (by omega);have k2:=hf 2 (by omega);rw[qOr] at k0 k1 k2;obtain⟨m0,e0,_,w0⟩:=DataW.trod_int Tryz.underlying3 (show DataW.trod enc Tryz.prog w base spare held n' 3 [c0]=some y0 from k0);obtain⟨m1,e1,_,w1⟩:=DataW.trod_int Tryz.underlying3 (show DataW.trod enc Tryz.prog w base spare held n' 3 [c1]=some y1 from k1);obtain⟨m2,e2,_,w2⟩:=DataW.trod_int Tryz.underlying3 (show DataW.trod enc Tryz.prog w base spare held n' 3 [c2]=some y2 from k2)
 obtain rfl:c0=.int .i64 m0:=by simpa using e0
 obtain rfl:c1=.int .i64 m1:=by simpa using e1
 obtain rfl:c2=.int .i64 m2:=by simpa using e2
 exact⟨(m0,m1,m2),rfl,I64.of w0,I64.of w1,I64.of w2⟩
end
end Go.Proofs.YtainiaighnjpfaaGreatDoor
namespace Go.Ms
open Go.RowKit Go.Lib
theorem qNe.of {w:World} {A:Option Addr} {n c:Nat} {V:List (Int×Int×Int)} (hc:n≤c) (kc:c≤maxLen) (ll:V.length=n) (ex:Ext w w.heap.size A (v3V V)) (ok:∀x∈V,qQ9 x):qNe w A n V:=
  ⟨ll.symm,Nat.le_trans hc kc,qTx ex,qUw ok⟩
end Go.Ms
