/- Schemas: an argument's lists, read as such. Schemas: columns of one's own, stored; a schema cut. Rows: a row copied. Schemas that follow each other, plainly. Schemas that follow each other, plainly: a row carried along a chain is what it is if it is moved at once. Evolve: two boxes of a call's own; columns as they stand (plain). -/
import Derived.Test.YtikpmmipopmjaaaGreatDoorZQm
import Derived.Test.YtikpmmipopmjaaaGreatDoorZQq
import Derived.Deep.Slices
import Derived.Deep.Fields
import Derived.ChangeSame
import Derived.Lib.SmallJoins
import Derived.OpenShut
import Derived.Test.YtikpmmipopmjaaaGreatDoorZQv
import Derived.Test.YtikpmmipopmjaaaGreatDoorZQn
import Derived.Test.YtikpmmipopmjaaaGreatDoorZQp
set_option linter.unusedVariables false
namespace Go.Ms
open Go.RowKit Go.Lib Go.ChangeShapes Go.WideShapes Go.Deep
def ClIn (c:Cl):Prop:=c.2.2.size≤maxLen∧ -9223372036854775808≤c.2.1∧c.2.1≤9223372036854775807
def I64 (n:Int):Prop:= -9223372036854775808≤n∧n≤9223372036854775807
def qSl (c:Co):Prop:=I64 c.1∧c.2.1.size≤maxLen∧I64 c.2.2.1.1∧ClIn c.2.2.2
theorem I64.of {n:Int} (h:(Lit.int .i64 n).wf=true):I64 n:=bounds_i64 h
section
variable {H:Type} {enc:TypeId×Value→H} {P:Program} {w:World} {base:Nat} {spare:Nat→Bool} {held:Bool}
theorem qTz {α:Type} (f:α→List Value) (k:Nat) (hk:∀x,(f x).length=k):∀(l:List α) (j:Nat) (u:Value),(l.flatMap f)[j]?=some u→0<k→∃x,l[j/k]?=some x∧(f x)[j%k]?=some u
  |[],j,u,h,_=>by simp at h
  |a::t,j,u,h,h0=>by
   rw[List.flatMap_cons] at h
   by_cases hj:j<k
   · rw[List.getElem?_append_left (by rw[hk];exact hj)] at h;exact⟨a,by rw[Nat.div_eq_of_lt hj];rfl,by rw[Nat.mod_eq_of_lt hj];exact h⟩
   · rw[List.getElem?_append_right (by rw[hk];omega),hk] at h;obtain⟨x,h1,h2⟩:=qTz f k hk t (j-k) u h h0;refine⟨x,?_,?_⟩
     · rw[Nat.div_eq_sub_div h0 (by omega)];simpa using h1
     · rw[Nat.mod_eq_sub_mod (by omega)];exact h2
theorem qD0 {α:Type} (f:α→List Value) (ok:α→Prop) {t e:TypeId} {k:Nat} (hk:∀x,(f x).length=k) (hk0:0<k) (ht:P.underlying t=some (.slice e)) (hC:P.cellsOf e=k)
    (hel:∀n cs' y,DataW.trod enc P w base spare held n e cs'=some y→∃x,cs'=f x∧ok x)
    {fuel:Nat} {v:Value} {x:DataW H×List MemPlace} (hf:DataW.trod enc P w base spare held fuel t [v]=some x) :
    ∃(A:Option Addr) (len cap:Nat) (l:List α),v=.slice A len cap∧l.length=len∧len≤cap∧cap≤maxLen∧(∀x∈l,ok x)∧∀j u,(l.flatMap f)[j]?=some u→∃a,A=some a∧a.block<w.heap.size∧w.cell? (a.add j)=some u:=by
 rcases open_slice ht hf with⟨hcs,_⟩|⟨a,len,cap,m,n,D,Pl,hcs,hb,hl,hm,hmm,hx,hi⟩
 · obtain rfl:v=.slice none 0 0:=by simpa using hcs
   exact⟨none,0,0,[],rfl,rfl,Nat.le_refl _,by unfold maxLen;omega,by simp,by simp⟩
 · obtain rfl:v=.slice (some a) len cap:=by simpa using hcs
   have hlm:len≤m:=by rw[hmm];split <;> omega
   have hex:∀i,i<len→∃x,ok x∧∀j u,(f x)[j]?=some u→w.cell? (a.add (i*k+j))=some u:=by
    intro i hil
    obtain⟨cs',hc,ht'⟩:=hi i (by omega);obtain⟨x,rfl,hok⟩:=hel _ _ _ ht';refine⟨x,hok,fun j u hu=>?_⟩;obtain⟨_,_,hat⟩:=World.cells?_some hc
    have hj:j<k:=by rw[←hk x];exact(List.getElem?_eq_some_iff.1 hu).1
    have:=hat j (by rw[hC];exact hj);rw[hC] at this;rw[←Go.Deep.add_add,this,hu]
   have hlist:∃l:List α,l.length=len∧(∀x∈l,ok x)∧∀i x,l[i]?=some x→∀j u,(f x)[j]?=some u→w.cell? (a.add (i*k+j))=some u:=by
    refine⟨List.ofFn fun i:Fin len=>Classical.choose (hex i.1 i.2),by simp,?_,?_⟩
    · intro x hx
      obtain⟨i,hi,rfl⟩:=List.getElem_of_mem hx;rw[List.getElem_ofFn];exact(Classical.choose_spec (hex i (by simpa using hi))).1
    · intro i x hx
      obtain⟨hi,rfl⟩:=List.getElem?_eq_some_iff.1 hx;rw[List.getElem_ofFn];exact(Classical.choose_spec (hex i (by simpa using hi))).2
   obtain⟨l,h1,h2,h3⟩:=hlist;refine⟨some a,len,cap,l,rfl,h1,hl,hm,h2,fun j u hu=>⟨a,rfl,?_,?_⟩⟩
   · have hj:0<l.length:=by
       rcases l with _|⟨x,t⟩
       · simp at hu
       · simp
     obtain⟨cs',hc,_⟩:=hi 0 (by omega);obtain⟨_,hcl,hat⟩:=World.cells?_some hc;have h0:=hat 0 (by rw[hC];exact hk0);have hv0:cs'[0]?=some (cs'[0]'(by rw[hcl,hC];exact hk0)):=List.getElem?_eq_getElem _;rw[hv0] at h0;have:=World.block_lt_of_cell? w _ h0
     simp[qOw] at this
     exact this
   · obtain⟨x,hx,hxu⟩:=qTz f k hk l j u hu hk0;have:=h3 _ x hx _ u hxu
     rwa [Nat.div_add_mod' ] at this
theorem open_list {α:Type} (f:α→List Value) (ok:α→Prop) {t e:TypeId} {k:Nat} (hk:∀x,(f x).length=k) (hk0:0<k) (ht:P.underlying t=some (.slice e)) (hC:P.cellsOf e=k)
    (hel:∀n cs' y,DataW.trod enc P w base spare held n e cs'=some y→∃x,cs'=f x∧ok x)
    {r:Reach} {b0:Nat} {v:Value} {d:DataW H} {p:List MemPlace} (hv:Value.okWide P w r b0 t v) (h:DataW.Trod enc P w base spare held t v d p) :
    ∃(A:Option Addr) (len cap:Nat) (l:List α),v=.slice A len cap∧l.length=len∧len≤cap∧cap≤maxLen∧(∀x∈l,ok x)∧∀j u,(l.flatMap f)[j]?=some u→∃a,A=some a∧a.block<w.heap.size∧w.cell? (a.add j)=some u:=by
 obtain⟨A,len,cap,rfl⟩:=okWide_slice ht hv;obtain⟨fuel,hf⟩:=h;exact qD0 f ok hk hk0 ht hC hel hf
end
end Go.Ms
namespace Go.Proofs.YtikpmmipopmjaaaGreatDoor
open Go.RowKit Go.Ms Go.Lib Go.ChangeShapes Go.WideShapes Go.Deep
theorem len2 {α:Type} {l:List α} (h:l.length=2):∃a b,l=[a,b]:=by
 match l,h with
 |[a,b],_=>exact⟨a,b,rfl⟩
theorem len3 {α:Type} {l:List α} (h:l.length=3):∃a b c,l=[a,b,c]:=by
 match l,h with
 |[a,b,c],_=>exact⟨a,b,c,rfl⟩
theorem len4 {α:Type} {l:List α} (h:l.length=4):∃a b c d,l=[a,b,c,d]:=by
 match l,h with
 |[a,b,c,d],_=>exact⟨a,b,c,d,rfl⟩
theorem len7 {α:Type} {l:List α} (h:l.length=7):∃a b c d e f g,l=[a,b,c,d,e,f,g]:=by
 match l,h with
 |[a,b,c,d,e,f,g],_=>exact⟨a,b,c,d,e,f,g,rfl⟩
section
variable {H:Type} {enc:TypeId×Value→H} {w:World} {base:Nat} {spare:Nat→Bool} {held:Bool}
theorem qL3:Tryz.prog.cellsOf 4=1:=by kernel_rfl
theorem qUc:Tryz.prog.cellsOf 2=1:=by kernel_rfl
theorem qFh:Tryz.prog.cellsOf 3=1:=by kernel_rfl
theorem qPa:Tryz.prog.cellsOf 9=1:=by kernel_rfl
theorem qIo:Tryz.prog.cellsOf 57=3:=by kernel_rfl
theorem qMp:Tryz.prog.cellsOf 55=2:=by kernel_rfl
theorem qN7:Tryz.prog.cellsOf 59=7:=by kernel_rfl
theorem qUp {n:Nat} {cs':List Value} {y:DataW H×List MemPlace} (h:DataW.trod enc Tryz.prog w base spare held n 57 cs'=some y):∃x:Cl,cs'=clV x∧ClIn x:=by
 obtain⟨xs,n',_,_,hl,hxl,hf⟩:=DataW.trod_struct Tryz.underlying57 h;rw[qIo] at hl;obtain⟨y0,y1,y2,rfl⟩:=len3 (show xs.length=3 from hxl);obtain⟨c0,c1,c2,rfl⟩:=len3 hl;have h0:DataW.trod enc Tryz.prog w base spare held n' 4 (([c0,c1,c2].drop 0).take (Tryz.prog.cellsOf 4))=some y0:=hf 0 _ rfl;rw[qL3] at h0;have h1:DataW.trod enc Tryz.prog w base spare held n' 2 (([c0,c1,c2].drop 1).take (Tryz.prog.cellsOf 2))=some y1:=hf 1 _ rfl;rw[qUc] at h1
 have h2:DataW.trod enc Tryz.prog w base spare held n' 9 (([c0,c1,c2].drop 2).take (Tryz.prog.cellsOf 9))=some y2:=hf 2 _ rfl;rw[qPa] at h2;obtain⟨u,e0,_⟩:=DataW.trod_bool Tryz.underlying4 (show DataW.trod enc Tryz.prog w base spare held n' 4 [c0]=some y0 from h0);obtain⟨m,e1,_,wm⟩:=DataW.trod_int Tryz.underlying2 (show DataW.trod enc Tryz.prog w base spare held n' 2 [c1]=some y1 from h1);obtain⟨s,e2,_,ws⟩:=DataW.trod_string Tryz.underlying9 (show DataW.trod enc Tryz.prog w base spare held n' 9 [c2]=some y2 from h2)
 obtain rfl:c0=.bool u:=by simpa using e0
 obtain rfl:c1=.int .i64 m:=by simpa using e1
 obtain rfl:c2=.string s:=by simpa using e2
 exact⟨(u,m,s),rfl,ws,I64.of wm⟩
theorem qZu {n:Nat} {cs':List Value} {y:DataW H×List MemPlace} (h:DataW.trod enc Tryz.prog w base spare held n 55 cs'=some y):∃x:Ty,cs'=[.int .i64 x.1,.bool x.2]∧I64 x.1:=by
 obtain⟨xs,n',_,_,hl,hxl,hf⟩:=DataW.trod_struct Tryz.underlying55 h;rw[qMp] at hl;obtain⟨y0,y1,rfl⟩:=len2 (show xs.length=2 from hxl);obtain⟨c0,c1,rfl⟩:=len2 hl;have h0:DataW.trod enc Tryz.prog w base spare held n' 3 (([c0,c1].drop 0).take (Tryz.prog.cellsOf 3))=some y0:=hf 0 _ rfl;rw[qFh] at h0;have h1:DataW.trod enc Tryz.prog w base spare held n' 4 (([c0,c1].drop 1).take (Tryz.prog.cellsOf 4))=some y1:=hf 1 _ rfl;rw[qL3] at h1
 obtain⟨m,e0,_,wm⟩:=DataW.trod_int Tryz.underlying3 (show DataW.trod enc Tryz.prog w base spare held n' 3 [c0]=some y0 from h0);obtain⟨u,e1,_⟩:=DataW.trod_bool Tryz.underlying4 (show DataW.trod enc Tryz.prog w base spare held n' 4 [c1]=some y1 from h1)
 obtain rfl:c0=.int .i64 m:=by simpa using e0
 obtain rfl:c1=.bool u:=by simpa using e1
 exact⟨(m,u),rfl,I64.of wm⟩
theorem zCr {n:Nat} {cs':List Value} {y:DataW H×List MemPlace} (h:DataW.trod enc Tryz.prog w base spare held n 59 cs'=some y):∃x:Co,cs'=coV x∧qSl x:=by
 obtain⟨xs,n',_,_,hl,hxl,hf⟩:=DataW.trod_struct Tryz.underlying59 h;rw[qN7] at hl;obtain⟨y0,y1,y2,y3,rfl⟩:=len4 (show xs.length=4 from hxl);obtain⟨c0,c1,c2,c3,c4,c5,c6,rfl⟩:=len7 hl;have h0:DataW.trod enc Tryz.prog w base spare held n' 3 (([c0,c1,c2,c3,c4,c5,c6].drop 0).take (Tryz.prog.cellsOf 3))=some y0:=hf 0 _ rfl;rw[qFh] at h0;have h1:DataW.trod enc Tryz.prog w base spare held n' 9 (([c0,c1,c2,c3,c4,c5,c6].drop 1).take (Tryz.prog.cellsOf 9))=some y1:=hf 1 _ rfl;rw[qPa] at h1
 have h2:DataW.trod enc Tryz.prog w base spare held n' 55 (([c0,c1,c2,c3,c4,c5,c6].drop 2).take (Tryz.prog.cellsOf 55))=some y2:=hf 2 _ rfl;rw[qMp] at h2;have h3:DataW.trod enc Tryz.prog w base spare held n' 57 (([c0,c1,c2,c3,c4,c5,c6].drop 4).take (Tryz.prog.cellsOf 57))=some y3:=hf 3 _ rfl;rw[qIo] at h3;obtain⟨m,e0,_,wm⟩:=DataW.trod_int Tryz.underlying3 (show DataW.trod enc Tryz.prog w base spare held n' 3 [c0]=some y0 from h0)
 obtain⟨s,e1,_,ws⟩:=DataW.trod_string Tryz.underlying9 (show DataW.trod enc Tryz.prog w base spare held n' 9 [c1]=some y1 from h1);obtain⟨t,e2,wt⟩:=qZu (show DataW.trod enc Tryz.prog w base spare held n' 55 [c2,c3]=some y2 from h2);obtain⟨c,e3,wc⟩:=qUp (show DataW.trod enc Tryz.prog w base spare held n' 57 [c4,c5,c6]=some y3 from h3)
 obtain rfl:c0=.int .i64 m:=by simpa using e0
 obtain rfl:c1=.string s:=by simpa using e1
 have e2':c2=.int .i64 t.1∧c3=.bool t.2:=by simpa using e2
 have e3':c4=.bool c.1∧c5=.int .i64 c.2.1∧c6=.string c.2.2:=by simpa[clV] using e3
 obtain⟨rfl,rfl⟩:=e2';obtain⟨rfl,rfl,rfl⟩:=e3';exact⟨(m,s,t,c),rfl,I64.of wm,ws,wt,wc⟩
def oneI (n:Int):List Value:=[.int .i64 n]
theorem qRp (n:Int):(oneI n).length=1:=rfl
theorem qZe {n:Nat} {cs':List Value} {y:DataW H×List MemPlace} (h:DataW.trod enc Tryz.prog w base spare held n 3 cs'=some y):∃x:Int,cs'=oneI x∧I64 x:=by
 obtain⟨m,e,_,wm⟩:=DataW.trod_int Tryz.underlying3 h;exact⟨m,e,I64.of wm⟩
theorem qRr {B:Nat} {A:Option Addr} {l:List Int} (h:Ext w B A (l.flatMap oneI)):Ext w B A (intV l):=by
 have e:intV l=l.flatMap oneI:=by
  clear h
  induction l with
  |nil=>rfl
  |cons a t ih=>show .int .i64 a::intV t=[.int .i64 a]++t.flatMap oneI;rw[ih];rfl
 rw[e];exact h
end
end Go.Proofs.YtikpmmipopmjaaaGreatDoor
namespace Go.Ms
open Go.RowKit Go.Lib
theorem qZ1 (c:Cl):(clV c).length=3:=rfl
theorem qPf (c:Co):(coV c).length=7:=rfl
theorem qR6 (l:List Co):∀(n:Nat),(colV l).take (n*7)=colV (l.take n):=by
 induction l with
 |nil=>intro n;simp[colV]
 | cons a t ih=>
  intro n
  cases n with
  |zero=>simp[colV]
  |succ n=>
   show(coV a++colV t).take ((n+1)*7)=coV a++colV (t.take n)
   rw[List.take_append,qPf,show(n+1)*7-7=n*7 by omega,ih n,List.take_of_length_le (by rw[qPf];omega)]
end Go.Ms
set_option linter.unusedSimpArgs false
namespace Go.Ms
open Go.RowKit Go.Lib
theorem qQ8:∀(l:List Co) (k:Nat) (c:Co),k<l.length→((((((((colV l).set (k*7) (.int .i64 c.1)).set (k*7+1) (.string c.2.1)).set (k*7+2) (.int .i64 c.2.2.1.1)).set (k*7+3) (.bool c.2.2.1.2)).set (k*7+4) (.bool c.2.2.2.1)).set (k*7+5) (.int .i64 c.2.2.2.2.1)).set (k*7+6) (.string c.2.2.2.2.2))=colV (l.set k c)
  |[],k,c,h=>by simp at h
  |a::t,0,c,h=>rfl
  |a::t,k+1,c,h=>by
   have ih:=qQ8 t k c (by simpa using h)
   have ec:∀(x:Co) (m:List Co),colV (x::m)=.int .i64 x.1::.string x.2.1::.int .i64 x.2.2.1.1::.bool x.2.2.1.2::.bool x.2.2.2.1::.int .i64 x.2.2.2.2.1::.string x.2.2.2.2.2::colV m:=fun _ _=>rfl
   have e0:(k+1)*7=k*7+7:=by omega
   rw[List.set_cons_succ,ec,ec,e0];simp only[Nat.add_assoc,Nat.reduceAdd,List.set_cons_succ];rw[ih]
theorem qJd {w:World} {B n cap g:Nat} {e:TypeId} {l:List Co} {k:Nat} {c:Co} (h:qBt w B e (.slice (some ⟨g,0,none⟩) n cap) l) (hc:l[k]?=some c) :
    w.cell? ⟨g,k*7,none⟩=some (.int .i64 c.1)∧w.cell? ⟨g,k*7+1,none⟩=some (.string c.2.1)∧w.cell? ⟨g,k*7+2,none⟩=some (.int .i64 c.2.2.1.1)∧w.cell? ⟨g,k*7+3,none⟩=some (.bool c.2.2.1.2)∧w.cell? ⟨g,k*7+4,none⟩=some (.bool c.2.2.2.1)∧w.cell? ⟨g,k*7+5,none⟩=some (.int .i64 c.2.2.2.2.1)∧w.cell? ⟨g,k*7+6,none⟩=some (.string c.2.2.2.2.2)∧
    w.frozen? ⟨g,k*7,none⟩=false∧w.frozen? ⟨g,k*7+1,none⟩=false∧w.frozen? ⟨g,k*7+2,none⟩=false∧w.frozen? ⟨g,k*7+3,none⟩=false∧w.frozen? ⟨g,k*7+4,none⟩=false∧w.frozen? ⟨g,k*7+5,none⟩=false∧w.frozen? ⟨g,k*7+6,none⟩=false:=by
 have hl:=h.lay;have hk:k<l.length:=(List.getElem?_eq_some_iff.1 hc).1;have k7:=qKj l k c hc
 have h':w.ownsRow B e 7 (.slice (some ⟨g,0,none⟩) n cap) n (colV l):=by unfold qBt at h;rw[←hl.1] at h;exact h
 have hn:=hl.1
 have hcell:∀j,j<n*7→w.cell? ⟨g,j,none⟩=(colV l)[j]?:=fun j hj=>World.ownsRow.cellAt h' j hj
 refine⟨(hcell _ (by omega)).trans (k7 0 _ rfl),(hcell _ (by omega)).trans (k7 1 _ rfl),(hcell _ (by omega)).trans (k7 2 _ rfl),(hcell _ (by omega)).trans (k7 3 _ rfl),(hcell _ (by omega)).trans (k7 4 _ rfl),(hcell _ (by omega)).trans (k7 5 _ rfl),(hcell _ (by omega)).trans (k7 6 _ rfl),
   World.ownsRow.frozenAt h' _,World.ownsRow.frozenAt h' _,World.ownsRow.frozenAt h' _,World.ownsRow.frozenAt h' _,World.ownsRow.frozenAt h' _,World.ownsRow.frozenAt h' _,World.ownsRow.frozenAt h' _⟩
theorem qVn {w:World} {B n cap g:Nat} {e:TypeId} {l:List Co} {k:Nat} (h:qBt w B e (.slice (some ⟨g,0,none⟩) n cap) l) (hk:k<l.length) (c:Co) :
    qBt (((((((w.setCell ⟨g,k*7,none⟩ (.int .i64 c.1)).setCell ⟨g,k*7+1,none⟩ (.string c.2.1)).setCell ⟨g,k*7+2,none⟩ (.int .i64 c.2.2.1.1)).setCell ⟨g,k*7+3,none⟩ (.bool c.2.2.1.2)).setCell ⟨g,k*7+4,none⟩ (.bool c.2.2.2.1)).setCell ⟨g,k*7+5,none⟩ (.int .i64 c.2.2.2.2.1)).setCell ⟨g,k*7+6,none⟩ (.string c.2.2.2.2.2)) B e (.slice (some ⟨g,0,none⟩) n cap) (l.set k c):=by
 have hl:=h.lay
 have h':w.ownsRow B e 7 (.slice (some ⟨g,0,none⟩) n cap) n (colV l):=by unfold qBt at h;rw[←hl.1] at h;exact h
 unfold qBt;rw[List.length_set,←hl.1,←qQ8 l k c hk];exact(World.ownsRow.stored (World.ownsRow.stored (World.ownsRow.stored (World.ownsRow.stored (World.ownsRow.stored (World.ownsRow.stored (World.ownsRow.stored h' _ _).1 _ _).1 _ _).1 _ _).1 _ _).1 _ _).1 _ _).1
def qHz (c:Co):Co:=(c.1,c.2.1.extract 0 (min c.2.1.size 40),c.2.2.1,(c.2.2.2.1,c.2.2.2.2.1,c.2.2.2.2.2.extract 0 (min c.2.2.2.2.2.size 1100)))
theorem qXa {l:List Co} {k:Nat} {c:Co} (hc:l[k]?=some c):(((l.take k).map qHz++l.drop k).set k (qHz c))=(l.take (k+1)).map qHz++l.drop (k+1):=by
 have hk:k<l.length:=(List.getElem?_eq_some_iff.1 hc).1
 have e1:((l.take k).map qHz).length=k:=by rw[List.length_map,List.length_take];omega
 have e2:l.drop k=c::l.drop (k+1):=by
  have:=List.getElem?_eq_some_iff.1 hc;rw[List.drop_eq_getElem_cons hk,this.2]
 rw[List.set_append_right _ _ (by omega),e1,Nat.sub_self,e2,List.set_cons_zero,List.take_add_one,hc]
 simp
theorem zCu {l:List Co} {k:Nat} {c:Co} (hc:l[k]?=some c):((l.take k).map qHz++l.drop k)[k]?=some c:=by
 have hk:k<l.length:=(List.getElem?_eq_some_iff.1 hc).1
 have e1:((l.take k).map qHz).length=k:=by rw[List.length_map,List.length_take];omega
 rw[List.getElem?_append_right (by omega),e1,Nat.sub_self,List.getElem?_drop];exact hc
structure qPe (tS:TypeId) (tC tI:TypeId) (w:World) (v1 v2:Value) (l:List Co) (ks:List Int) (wr:World):Prop where
  box:wr.heap[w.heap.size]?=some (.cells #[v1,v2] tS (0,0))
  res:wr.heap[w.heap.size+1]?=some (.cells #[.slice none 0 0,.slice none 0 0] tS (0,0))
  o1:qBt wr (w.heap.size+2) tC v1 l
  o2:OwnI wr (w.heap.size+2) tI v2 ks
  bel:Below w.heap.size w wr
theorem qPe.step {tS tC tI:TypeId} {w wr w':World} {v1 v2:Value} {l:List Co} {ks:List Int} (h:qPe tS tC tI w v1 v2 l ks wr) (hb:Below wr.heap.size wr w'):qPe tS tC tI w v1 v2 l ks w':=
  ⟨qAb h.box hb,qAb h.res hb,own_below h.o1 hb,own_below h.o2 hb,h.bel.trans (hb.mono h.bel.size)⟩
theorem qYr (w:World) (g i:Nat) (a b c d e f x:Value):w.grownBy (((((((w.setCell ⟨g,i,none⟩ a).setCell ⟨g,i+1,none⟩ b).setCell ⟨g,i+2,none⟩ c).setCell ⟨g,i+3,none⟩ d).setCell ⟨g,i+4,none⟩ e).setCell ⟨g,i+5,none⟩ f).setCell ⟨g,i+6,none⟩ x) (some g):=
  (((((((qAm w g i a).trans (qAm _ g (i+1) b)).trans (qAm _ g (i+2) c)).trans (qAm _ g (i+3) d)).trans (qAm _ g (i+4) e)).trans (qAm _ g (i+5) f)).trans (qAm _ g (i+6) x))
theorem qPe.put {tS tC tI:TypeId} (hne:tC≠tI) {w wr:World} {n cap g k:Nat} {v2:Value} {l:List Co} {ks:List Int} (h:qPe tS tC tI w (.slice (some ⟨g,0,none⟩) n cap) v2 l ks wr) (hk:k<l.length) (c:Co) :
    qPe tS tC tI w (.slice (some ⟨g,0,none⟩) n cap) v2 (l.set k c) ks (((((((wr.setCell ⟨g,k*7,none⟩ (.int .i64 c.1)).setCell ⟨g,k*7+1,none⟩ (.string c.2.1)).setCell ⟨g,k*7+2,none⟩ (.int .i64 c.2.2.1.1)).setCell ⟨g,k*7+3,none⟩ (.bool c.2.2.1.2)).setCell ⟨g,k*7+4,none⟩ (.bool c.2.2.2.1)).setCell ⟨g,k*7+5,none⟩ (.int .i64 c.2.2.2.2.1)).setCell ⟨g,k*7+6,none⟩ (.string c.2.2.2.2.2)):=by
 have hg:=qYr wr g (k*7) (.int .i64 c.1) (.string c.2.1) (.int .i64 c.2.2.1.1) (.bool c.2.2.1.2) (.bool c.2.2.2.1) (.int .i64 c.2.2.2.2.1) (.string c.2.2.2.2.2);have hb:=(World.ownsRow.lt h.o1 g rfl).1;refine⟨(hg.block _ (Array.getElem?_eq_some_iff.1 h.box).1 (fun e=>by cases e;omega)).trans h.box,(hg.block _ (Array.getElem?_eq_some_iff.1 h.res).1 (fun e=>by cases e;omega)).trans h.res,qVn h.o1 hk c,World.ownsRow.kept h.o2 hg ?_,h.bel.grown hg h.bel.size (fun k e=>by cases e;omega)⟩;have:=qF4 h.o2 h.o1 (Ne.symm hne)
 simpa[Value.ownBlock] using this
end Go.Ms
namespace Go.Proofs.YtikpmmipopmjaaaGreatDoor
open Go.RowKit Go.Ms Go.Lib
end Go.Proofs.YtikpmmipopmjaaaGreatDoor
namespace Go.Proofs.YtikpmmipopmjaaaGreatDoor
open Go.RowKit Go.Ms Go.Lib
theorem qB7:Tryz.prog.underlying 26=some (.slice 57):=Tryz.underlying26
set_option maxRecDepth 100000 in
theorem qTj (w:World) (A:Option Addr) (n cap:Nat) (xs:List Cl) (hn':n≤100000) (hn:n=xs.length) (hA:Lay w w.heap.size A (rowV xs)) :
    Calls Tryz.prog 48 #[.slice A n cap] w fun e w'=> ∃v,e=.returned v∧OwnC w' w.heap.size 57 v xs∧Below w.heap.size w w':=by
 obtain⟨i0,hi,hz0,hz1,hz2⟩:=info_parts qFj
 rcases A with _|a
 · have h0:=hA.none_len
   have hx:xs=[]:=by
    have:=qJm xs;rw[h0] at this
    exact List.eq_nil_of_length_eq_zero (by simp at this;omega)
   subst hx
   obtain rfl:n=0:=by simpa using hn
   have he:=fun w=>run_eql_slice_nil (P:=Tryz.prog) w 26 57 none 0 cap 0 0 qB7
   clear hA h0 hn hn'
   go_enter Tryz.func48,Tryz.ntmps48
   go_wp2_with fail
   go_ret
   exact⟨_,rfl,World.ownsRow_nil _ _ _ _,Below.refl _ _⟩
 · have he:=fun w=>run_eql_slice_nil (P:=Tryz.prog) w 26 57 (some a) n cap 0 0 qB7
   have HA:=Lib.hid hA;have HN:=Lib.hid hn
   clear hA hn
   go_enter Tryz.func48,Tryz.ntmps48
   have hown0:(w.alloc (.cells #[] 57)).ownsRow w.heap.size 57 3 (.slice (some ⟨w.heap.size,0,none⟩) 0 0) 0 []:=World.ownsRow_made w #[] 0 (Nat.le_refl _) (by unfold maxLen;omega) rfl;have hb0:Below w.heap.size w (w.alloc (.cells #[] 57)):=(Below.refl _ _).alloc (Nat.le_refl _) _
   have HO:=Lib.hid hown0;have HB:=Lib.hid hb0
   clear hown0 hb0
   go_wp2_with (at_builtin;refine qAk rfl (.tmp 5) (.tmp 6) _ rfl w.heap.size 57 i0 _ 3 32 qB7 hi hz0 hz1 hz2 rfl (by omega) (.slice (some ⟨w.heap.size,0,none⟩) 0 0) 0 [] rfl HO.out w.heap.size (some a) n cap (rowV xs) rfl (by rw[qJm,HN.out]) (HA.out.below HB.out) (qFt _) (by unfold maxLen;omega) (by omega) HB.out.size ?_;intro v1 w1 hown1 hg1)
   have HO1:=Lib.hid hown1;have HB1:=Lib.hid (qBr HO.out HB.out HB.out.size (Nat.le_refl _) hg1);clear hown1 hg1
   go_wp2_with fail
   go_ret
   refine⟨_,rfl,?_,HB1.out⟩;unfold OwnC;have:=HO1.out;rw[Nat.zero_add,HN.out] at this;exact this
end Go.Proofs.YtikpmmipopmjaaaGreatDoor
set_option linter.unusedSimpArgs false
namespace Go.Ms
abbrev Sc:=List Co×List Int
def qBj (a b:Co):Bool:=decide (a.2.1=b.2.1)&&decide (a.2.2.2=b.2.2.2)&&(a.2.2.1.2==b.2.2.1.2)&&(decide (a.2.2.1.1=b.2.2.1.1)||(decide (a.2.2.1.1=2)&&decide (b.2.2.1.1=3)))
def qA7 (cs:List Co):Int:=(cs.getLast?.map fun c=>c.1).getD 0
def qA4 (s:Sc):List Int:=s.2.map fun k=>(s.1.getD k.toNat zCo).1
def evAt (cs:List Co) (id:Int):Option Nat:=cs.findIdx? fun c=>decide (c.1=id)
def qDs (cs:List Co) (above:Int) (d:Co):Bool:=match evAt cs d.1 with
 |some k=>qBj (cs.getD k zCo) d
 |none=>decide (above<d.1)
def qAl (a b:Sc) (above:Int):Bool:=b.1.all (qDs a.1 above)&&decide (qA4 a=qA4 b)
def qBh (a b:Sc):Int:=if scOk a.1 a.2=true∧scOk b.1 b.2=true then (if qAl a b (qA7 a.1)=true then 0 else 120) else 2
def qEp:Sc→Int→List Sc→Bool
  |_,_,[]=>true
  |p,ab,s::r=>qAl p s ab&&qEp s (max ab (qA7 s.1)) r
def qA6 (l:List Sc):Int:=if 64<l.length then 5 else if (l.all fun s=>scOk s.1 s.2)=true then (match l with
 |[]=>0
 |s::r=>if qEp s (max 0 (qA7 s.1)) r=true then 0 else 120) else 2
def qA1 (a b:List Co) (r:List Cl):List Cl:=b.map fun d=>match evAt a d.1 with
 |some k=>r.getD k zCl
 |none=>d.2.2.2
def qEb (a b:Sc) (r:List Cl):List Cl×Int:=if qBh a b=0 then (if qBx (qC0 a.1) r=0 then (qA1 a.1 b.1 r,0) else ([],qBx (qC0 a.1) r)) else ([],qBh a b)
def qE5:Sc→List Sc→List Cl→List Cl
  |_,[],r=>r
  |a,b::l,r=>qE5 b l (qA1 a.1 b.1 r)
def zSc:Sc:=([],[])
def qCe (l:List Sc) (f t:Int) (r:List Cl):List Cl×Int:=
  if qA6 l=0 then (if f<1∨t<f∨(l.length:Int)<t then ([],131) else if qBx (qC0 (l.getD (f.toNat-1) zSc).1) r=0 then (qE5 (l.getD (f.toNat-1) zSc) ((l.drop f.toNat).take (t-f).toNat) r,0) else ([],qBx (qC0 (l.getD (f.toNat-1) zSc).1) r)) else ([],qA6 l)
theorem qGi {cs:List Co} {id:Int} {k:Nat} (h:evAt cs id=some k):∃c,cs[k]?=some c∧c.1=id:=by
 unfold evAt at h;rw[List.findIdx?_eq_some_iff_getElem] at h;obtain⟨h1,h2,_⟩:=h;exact⟨_,List.getElem?_eq_getElem h1,by simpa using h2⟩
theorem qUg {cs:List Co} {id:Int} (h:evAt cs id=none):∀c∈cs,c.1≠id:=by
 unfold evAt at h;rw[List.findIdx?_eq_none_iff] at h
 intro c hc
 simpa using h c hc
def qKy (cs:List Co):Prop:= ∀(j i:Nat) a b,i<j→cs[i]?=some a→cs[j]?=some b→a.1<b.1
theorem qYw {cs:List Co} {ks:List Int} (h:ScOk cs ks):qKy cs:=by
 intro j
 induction j with
 |zero=>intro i a b hij;omega
 |succ j ih=>
  intro i a b hij ha hb
  by_cases e:i=j
  · subst e;exact h.up i a b ha hb
  · have hl:=(List.getElem?_eq_some_iff.1 hb).1;have h1:=ih i a _ (by omega) ha (List.getElem?_eq_getElem (by omega));have h2:=h.up j _ b (List.getElem?_eq_getElem (by omega)) hb;omega
theorem qIj {cs:List Co} (hu:qKy cs) {k:Nat} {c:Co} (h:cs[k]?=some c):evAt cs c.1=some k:=by
 cases he:evAt cs c.1 with
 |none=>exact absurd rfl (qUg he c (List.mem_of_getElem? h))
 |some j=>
  obtain⟨d,hd,e⟩:=qGi he
  rcases Nat.lt_trichotomy j k with h1|h1|h1
  · have:=hu k j d c h1 hd h;omega
  · rw[h1]
  · have:=hu j k c d h1 h hd;omega
theorem qUe {cs:List Co} (hu:qKy cs):∀c∈cs,c.1≤qA7 cs:=by
 intro c hc
 obtain⟨k,hk⟩:=List.getElem?_of_mem hc;have hl:=(List.getElem?_eq_some_iff.1 hk).1;unfold qA7
 have hg:cs.getLast?=some (cs[cs.length-1]'(by omega)):=by rw[List.getLast?_eq_getElem?,List.getElem?_eq_getElem (by omega)]
 rw[hg];simp only[Option.map_some,Option.getD_some]
 by_cases e:k=cs.length-1
 · have:cs[cs.length-1]?=some c:=by rw[←e];exact hk
   obtain⟨h1,h2⟩:=List.getElem?_eq_some_iff.1 this
   rw[h2];exact Int.le_refl _
 · have:=hu (cs.length-1) k c _ (by omega) hk (List.getElem?_eq_getElem (by omega));omega
theorem qO1 (c:Co):qBj c c=true:=by unfold qBj;simp
theorem qYc {a b:Co} (h:qBj a b=true):a.2.2.2=b.2.2.2:=by
 unfold qBj at h;simp only[Bool.and_eq_true,decide_eq_true_eq] at h;exact h.1.1.2
theorem qQ7 {cs:List Co} {ab:Int} {d:Co} {k:Nat} {c:Co} (h:qDs cs ab d=true) (hk:evAt cs d.1=some k) (hc:cs[k]?=some c):qBj c d=true:=by
 unfold qDs at h;rw[hk] at h
 simpa[List.getD_eq_getElem?_getD,hc] using h
theorem qGf (a b:List Co) (r:List Cl):(qA1 a b r).length=b.length:=by unfold qA1;rw[List.length_map]
end Go.Ms
set_option linter.unusedSimpArgs false
namespace Go.Ms
theorem qUo {cs:List Co} {q:Int} (h:∀x∈cs,x.1≤q) (h0:0≤q):qA7 cs≤q:=by
 unfold qA7
 cases hl:cs.getLast? with
 |none=>exact h0
 |some c=>exact h c (List.mem_of_getLast? hl)
theorem qPd:∀(l m:List Sc) (a:Sc) (r:List Cl),qE5 a (l++m) r=qE5 ((a::l).getLast (by simp)) m (qE5 a l r)
  |[],m,a,r=>rfl
  |b::l,m,a,r=>by
   have e:(a::b::l).getLast (by simp)=(b::l).getLast (by simp):=List.getLast_cons (by simp);rw[List.cons_append,qE5,qE5,qPd l m b,e]
theorem qPw {s:Sc} {l:List Sc} (h:qA6 (s::l)=0):(s::l).length≤64∧(∀t∈s::l,scOk t.1 t.2=true)∧qEp s (max 0 (qA7 s.1)) l=true:=by
 unfold qA6 at h
 split at h
 · omega
 · rename_i h1
   split at h
   · rename_i h2
     simp only at h
     split at h
     · rename_i h3
       exact⟨by omega,by simpa[List.all_eq_true] using h2,h3⟩
     · omega
   · omega
end Go.Ms
set_option linter.unusedSimpArgs false
namespace Go.Ms
open Go.RowKit Go.Lib
structure Bx2 (o0 o1:Obj) (w W:World):Prop where
  b0:W.heap[w.heap.size]?=some o0
  b1:W.heap[w.heap.size+1]?=some o1
  bel:Below w.heap.size w W
theorem Bx2.start (va vb:Array Value) (ta tb:TypeId) (w:World):Bx2 (.cells va ta (0,0)) (.cells vb tb (0,0)) w ((w.alloc (.cells va ta)).alloc (.cells vb tb)):=by
 refine⟨qAe (qAf _ _) _,?_,((Below.refl _ w).alloc (Nat.le_refl _) _).alloc (by rw[World.size_alloc];omega) _⟩;have:=qAf (w.alloc (.cells va ta)) (.cells vb tb);rw[World.size_alloc] at this;exact this
theorem Bx2.step {o0 o1:Obj} {w W W':World} (h:Bx2 o0 o1 w W) (hb:Below W.heap.size W W'):Bx2 o0 o1 w W':=
  ⟨qAb h.b0 hb,qAb h.b1 hb,h.bel.trans (hb.mono h.bel.size)⟩
theorem Bx2.alloc {o0 o1:Obj} {w W:World} (h:Bx2 o0 o1 w W) (o:Obj):Bx2 o0 o1 w (W.alloc o):=h.step ((Below.refl _ W).alloc (Nat.le_refl _) o)
theorem qQt (cs:List Co) (v:Int):qD4 (fun c=>decide (c.1=v)) cs=match evAt cs v with
    |some k=>(k,true)
    |none=>(0,false):=by
 unfold qD4 evAt;rfl
theorem qTm {cs:List Co} {ab:Int} {d:Co} (h:evAt cs d.1=none):qDs cs ab d=decide (ab<d.1):=by unfold qDs;rw[h]
theorem qTw {cs:List Co} {ab:Int} {d:Co} {k:Nat} (h:evAt cs d.1=some k):qDs cs ab d=qBj (cs.getD k zCo) d:=by unfold qDs;rw[h]
theorem qNp {cs:List Co} {ab:Int} {pre:List Co} {x:Co} (h:pre.all (qDs cs ab)=true) (hx:qDs cs ab x=true):(pre++[x]).all (qDs cs ab)=true:=by rw[List.all_append,h];simp[hx]
structure qPl (g o B:Nat) (i1:Int) (s1:ByteArray) (k1:Int) (u1 n1:Bool) (m1:Int) (t1:ByteArray) (W:World):Prop where
  lt:g<B
  c0:W.cell? ⟨g,o,none⟩=some (.int .i64 i1)
  c1:W.cell? ⟨g,o+1,none⟩=some (.string s1)
  c2:W.cell? ⟨g,o+2,none⟩=some (.int .i64 k1)
  c3:W.cell? ⟨g,o+3,none⟩=some (.bool u1)
  c4:W.cell? ⟨g,o+4,none⟩=some (.bool n1)
  c5:W.cell? ⟨g,o+5,none⟩=some (.int .i64 m1)
  c6:W.cell? ⟨g,o+6,none⟩=some (.string t1)
theorem qPl.below {g o B:Nat} {i1:Int} {s1:ByteArray} {k1:Int} {u1 n1:Bool} {m1:Int} {t1:ByteArray} {W W':World} (h:qPl g o B i1 s1 k1 u1 n1 m1 t1 W) (hb:Below B W W'):qPl g o B i1 s1 k1 u1 n1 m1 t1 W':=
  ⟨h.lt,(hb.cell h.lt).trans h.c0,(hb.cell h.lt).trans h.c1,(hb.cell h.lt).trans h.c2,(hb.cell h.lt).trans h.c3,(hb.cell h.lt).trans h.c4,(hb.cell h.lt).trans h.c5,(hb.cell h.lt).trans h.c6⟩
theorem qPl.more {g o B B':Nat} {i1:Int} {s1:ByteArray} {k1:Int} {u1 n1:Bool} {m1:Int} {t1:ByteArray} {W:World} (h:qPl g o B i1 s1 k1 u1 n1 m1 t1 W) (hb:B≤B'):qPl g o B' i1 s1 k1 u1 n1 m1 t1 W:=
  ⟨Nat.lt_of_lt_of_le h.lt hb,h.c0,h.c1,h.c2,h.c3,h.c4,h.c5,h.c6⟩
theorem Lay.colAt {W:World} {B:Nat} {A:Option Addr} {cs:List Co} {k:Nat} {i1:Int} {s1:ByteArray} {k1:Int} {u1 n1:Bool} {m1:Int} {t1:ByteArray} (h:Lay W B A (colV cs)) (hk:cs[k]?=some (i1,s1,(k1,u1),n1,m1,t1)):∃g o,A=some ⟨g,o,none⟩∧qPl g (o+k*7) B i1 s1 k1 u1 n1 m1 t1 W:=by
 obtain⟨g,o,e,hg,h1,h2,h3,h4,h5,h6,h7⟩:=h.co hk;exact⟨g,o,e,hg,h1,h2,h3,h4,h5,h6,h7⟩
end Go.Ms
