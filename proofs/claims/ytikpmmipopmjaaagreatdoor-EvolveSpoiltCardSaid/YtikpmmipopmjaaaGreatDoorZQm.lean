/- Rows: words for lists that lie in memory, cell by cell: cells, whole numbers, columns. Rows, plainly: what is checked, compared and picked; keys, put together and taken apart. Schemas, plainly: what is a name, what may be, the text of a schema, and how a text is read. Texts cut at a byte: what the library's SplitN and the loops answer. Schemas, plainly: what may be, said place by place. Cells: what is taken off: words. Cells: what is taken off. Cells: what is taken off. Cells: what is taken off. Cells: what is taken off. Cells: what is taken off. Cells: what is taken off, whole. Cells: the laws' helpers; the chapter's examples. Cells: the chapter's examples. Cells: cut; three boxed cells. Cells: two and three boxed cells. Cells: a boxed type and a boxed cell; how long texts and bits are. Cells: a boxed type and two boxed cells. -/
import Derived.WalkKit
import Derived.Below
import Derived.Deep.Draws
import Derived.Lib.Hide
import Derived.Laws.OwnMore
import Derived.Maps.AppendAt
import Derived.Test.YtikpmmipopmjaaaGreatDoorZQi
import Derived.Lib.Split
import Derived.Test.YtikpmmipopmjaaaGreatDoorZQk
import Derived.Deep.RegionHeld3
import Derived.Test.YtikpmmipopmjaaaGreatDoorZQl
import Derived.Deep.DeepCutAuto
import Derived.Deep.RegionWith
import Derived.Lib.ItoaLen
import Derived.Test.YtikpmmipopmjaaaGreatDoorZQa
set_option linter.unusedVariables false
namespace Go.Ms
open Go.RowKit Go.Lib
abbrev Cl:=Bool×Int×ByteArray
abbrev Ty:=Int×Bool
def clV (c:Cl):List Value:=[.bool c.1,.int .i64 c.2.1,.string c.2.2]
def rowV (l:List Cl):List Value:=l.flatMap clV
def intV (l:List Int):List Value:=l.map (Value.int .i64)
def Lay (w:World) (B:Nat) (A:Option Addr) (xs:List Value):Prop:= ∀j u,xs[j]?=some u→∃g o,A=some ⟨g,o,none⟩∧g<B∧w.cell? ⟨g,o+j,none⟩=some u
namespace Lay
variable {w w':World} {B B':Nat} {A:Option Addr} {xs:List Value}
theorem keep (h:Lay w B A xs) (hk:∀p:Addr,p.block<B→w'.cell? p=w.cell? p):Lay w' B A xs:=fun j u hu=>by
 obtain⟨g,o,e,hb,hc⟩:=h j u hu;exact⟨g,o,e,hb,(hk _ hb).trans hc⟩
theorem more (h:Lay w B A xs) (hB:B≤B'):Lay w B' A xs:=fun j u hu=>by
 obtain⟨g,o,e,hb,hc⟩:=h j u hu;exact⟨g,o,e,by omega,hc⟩
theorem below (h:Lay w B A xs) (hb:Below B w w'):Lay w' B A xs:=h.keep fun _ hp=>hb.cell hp
theorem some_ (h:Lay w B A xs) (hx:0<xs.length):∃g o,A=some ⟨g,o,none⟩∧g<B∧∀j u,xs[j]?=some u→w.cell? ⟨g,o+j,none⟩=some u:=by
 obtain⟨g,o,e,hb,_⟩:=h 0 _ (List.getElem?_eq_getElem hx);refine⟨g,o,e,hb,fun j u hu=>?_⟩;obtain⟨g',o',e',_,hc⟩:=h j u hu;rw[e] at e'
 cases e'
 exact hc
theorem of_own {base size n c:Nat} {e:TypeId} (h:w.ownsRow base e size (.slice A n c) n xs) (hB:w.heap.size≤B):Lay w B A xs:=fun j u hu=>by
 have hj:j<xs.length:=(List.getElem?_eq_some_iff.1 hu).1
 rcases h.2 with⟨_,h0⟩|⟨g,cap,cur,hv,_,hg,_⟩
 · have:=h.1;rw[h0] at this;omega
 · have hA:A=some ⟨g,0,none⟩:=by injection hv
   subst hA;have hlt:g<w.heap.size:=(Array.getElem?_eq_some_iff.1 hg).1;refine⟨_,_,rfl,by omega,?_⟩;have:=h.cells (g:=g) rfl j u hu;rw[Addr.add_lit] at this;exact this
theorem take (h:Lay w B A xs) (n:Nat):Lay w B A (xs.take n):=fun j u hu=>by
 refine h j u ?_;rw[List.getElem?_take] at hu
 split at hu
 · exact hu
 · cases hu
end Lay
theorem qJm (l:List Cl):(rowV l).length=l.length*3:=by
 induction l with
 |nil=>rfl
 |cons a t ih=>show(clV a++rowV t).length=_;rw[List.length_append,ih,List.length_cons];simp[clV];omega
theorem qP4:∀(l:List Cl) (i:Nat) (c:Cl),l[i]?=some c→(rowV l)[i*3]?=some (.bool c.1)∧(rowV l)[i*3+1]?=some (.int .i64 c.2.1)∧(rowV l)[i*3+2]?=some (.string c.2.2)
  |[],i,c,h=>by simp at h
  |a::t,0,c,h=>by
   have h:a=c:=by simpa using h
   subst h;exact⟨rfl,rfl,rfl⟩
  | a::t,i+1,c,h=>by
   obtain⟨h1,h2,h3⟩:=qP4 t i c (by simpa using h)
   have e:∀k,(rowV (a::t))[(i+1)*3+k]?=(rowV t)[i*3+k]?:=fun k=>by
    show(clV a++rowV t)[(i+1)*3+k]?=_
    rw[List.getElem?_append_right (by simp[clV];omega)]
    congr 1
    simp[clV];omega
   exact⟨(e 0).trans h1,(e 1).trans h2,(e 2).trans h3⟩
theorem qGt (l m:List Cl):rowV (l++m)=rowV l++rowV m:=List.flatMap_append
theorem qZ7 (l:List Int) (i:Nat) (p:Int) (h:l[i]?=some p):(intV l)[i]?=some (.int .i64 p):=by simp[intV,h]
theorem Lay.cl {w:World} {B:Nat} {A:Option Addr} {l:List Cl} {i:Nat} {c:Cl} (h:Lay w B A (rowV l)) (hi:l[i]?=some c) :
    ∃g o,A=some ⟨g,o,none⟩∧g<B∧w.cell? ⟨g,o+i*3,none⟩=some (.bool c.1)∧w.cell? ⟨g,o+i*3+1,none⟩=some (.int .i64 c.2.1)∧w.cell? ⟨g,o+i*3+2,none⟩=some (.string c.2.2):=by
 obtain⟨h1,h2,h3⟩:=qP4 l i c hi;have hl:i<l.length:=(List.getElem?_eq_some_iff.1 hi).1;obtain⟨g,o,e,hb,hc⟩:=h.some_ (by rw[qJm];omega);exact⟨g,o,e,hb,hc _ _ h1,hc _ _ h2,hc _ _ h3⟩
theorem Lay.num {w:World} {B:Nat} {A:Option Addr} {l:List Int} {i:Nat} {p:Int} (h:Lay w B A (intV l)) (hi:l[i]?=some p) :
    ∃g o,A=some ⟨g,o,none⟩∧g<B∧w.cell? ⟨g,o+i,none⟩=some (.int .i64 p):=by
 have h1:=qZ7 l i p hi;have hl:i<l.length:=(List.getElem?_eq_some_iff.1 hi).1;obtain⟨g,o,e,hb,hc⟩:=h.some_ (by simp[intV];omega);exact⟨g,o,e,hb,hc _ _ h1⟩
structure Cols (w:World) (B:Nat) (A:Option Addr) (ts:List Ty) (xs:List Value):Prop where
  len:xs.length=ts.length*7
  lay:Lay w B A xs
  kind:∀(i:Nat) t,ts[i]?=some t→xs[i*7+2]?=some (.int .i64 t.1)∧xs[i*7+3]?=some (.bool t.2)
theorem Cols.below {w w':World} {B:Nat} {A:Option Addr} {ts:List Ty} {xs:List Value} (h:Cols w B A ts xs) (hb:Below B w w'):Cols w' B A ts xs:=⟨h.len,h.lay.below hb,h.kind⟩
theorem Cols.more {w:World} {B B':Nat} {A:Option Addr} {ts:List Ty} {xs:List Value} (h:Cols w B A ts xs) (hB:B≤B'):Cols w B' A ts xs:=⟨h.len,h.lay.more hB,h.kind⟩
theorem Cols.ty {w:World} {B:Nat} {A:Option Addr} {ts:List Ty} {xs:List Value} {i:Nat} {t:Ty} (h:Cols w B A ts xs) (hi:ts[i]?=some t) :
    ∃g o,A=some ⟨g,o,none⟩∧g<B∧w.cell? ⟨g,o+i*7+2,none⟩=some (.int .i64 t.1)∧w.cell? ⟨g,o+i*7+2+1,none⟩=some (.bool t.2):=by
 obtain⟨h1,h2⟩:=h.kind i t hi;have hl:i<ts.length:=(List.getElem?_eq_some_iff.1 hi).1;obtain⟨g,o,e,hb,hc⟩:=h.lay.some_ (by rw[h.len];omega);exact⟨g,o,e,hb,hc _ _ h1,hc _ _ h2⟩
end Go.Ms
namespace Go.Ms
def zCl:Cl:=(false,0,⟨#[]⟩)
def qCc (t:Ty) (c:Cl):Int:=qAt t.1 t.2 c.1 c.2.1 c.2.2.data.toList
def unCl (x:Bool×Int×Bs):Cl:=(x.1,x.2.1,⟨x.2.2.toArray⟩)
def qCk:List Ty→List Cl→Int
  |t::ts,c::cs=>if qCc t c=0 then qCk ts cs else qCc t c
  |_,_=>0
def qBx (ts:List Ty) (cs:List Cl):Int:=if ts.length=cs.length then qCk ts cs else 100
end Go.Ms
set_option linter.unusedSimpArgs false
namespace Go.Ms
open Go.RowKit Go.Lib
abbrev Co:=Int×ByteArray×Ty×Cl
def coV (c:Co):List Value:=[.int .i64 c.1,.string c.2.1,.int .i64 c.2.2.1.1,.bool c.2.2.1.2,.bool c.2.2.2.1,.int .i64 c.2.2.2.2.1,.string c.2.2.2.2.2]
def colV (l:List Co):List Value:=l.flatMap coV
def coA (c:Co):Value:=.agg #[.int .i64 c.1,.string c.2.1,.int .i64 c.2.2.1.1,.bool c.2.2.1.2,.bool c.2.2.2.1,.int .i64 c.2.2.2.2.1,.string c.2.2.2.2.2]
def zCo:Co:=(0,⟨#[]⟩,(0,false),(false,0,⟨#[]⟩))
def qDa (c:UInt8):Bool:=decide (97≤c.toNat)&&decide (c.toNat≤122)
def qDz (c:UInt8):Bool:=qDa c||(decide (48≤c.toNat)&&decide (c.toNat≤57))||decide (c.toNat=95)
def isNm (s:Bs):Bool:=decide (1≤s.length)&&decide (s.length≤32)&&qDa (s.getD 0 0)&&s.all qDz
def qE7:List Int→Int→Int→Bool
  |[],_,_=>true
  |n::r,lo,hi=>decide (lo≤n)&&decide (n≤hi)&&qE7 r (n+1) hi
def coOk (c:Co):Bool:=isNm c.2.1.data.toList&&decide (qCc c.2.2.1 c.2.2.2=0)
def qF0 (l:List Co):List ByteArray:=l.map fun c=>c.2.1
def qEk (l:List Co):List Int:=l.map fun c=>c.1
def qC0 (l:List Co):List Ty:=l.map fun c=>c.2.2.1
def qPj (cs:List Co) (k:Int):Bool:= !(cs.getD k.toNat zCo).2.2.1.2
def scOk (cs:List Co) (ks:List Int):Bool:=
  cs.all coOk&&decide (1≤cs.length)&&decide (cs.length≤32)&&decide ((qF0 cs).Nodup)&&qE7 (qEk cs) 1 1048576 &&
    decide (ks.length≤8)&&qE7 ks 0 (cs.length-1)&&ks.all (qPj cs)
def qAz (cs:List Co) (ks:List Int):Int:=if scOk cs ks=true then 0 else 2
def qD4 (p:Co→Bool) (l:List Co):Nat×Bool:=match l.findIdx? p with
 |some i=>(i,true)
 |none=>(0,false)
def qEs (k:Int):Bs:=if k=1 then [98,111,111,108] else if k=2 then [105,110,116,51,50] else if k=3 then [105,110,116,54,52] else if k=4 then [115,116,114,105,110,103] else if k=5 then [98,121,116,101,115] else []
def zBq (c:Co):Bs:=qCa c.2.2.1.1 c.2.2.1.2 c.2.2.2.1 c.2.2.2.2.1 c.2.2.2.2.2.data.toList
def cutAt (c:UInt8):Bs→Option (Bs×Bs)
  |[]=>none
  |b::r=>if b=c then some ([],r) else match cutAt c r with
   |some x=>some (b::x.1,x.2)
   |none=>none
def idOf (s:Bs):Int:=if itoa (qJc s)=s∧0≤qJc s∧qJc s≤1048576 then qJc s else -1
def qBd (c:UInt8) (s:Bs):Bs×Bool:=if s.getLast?=some c then (s.dropLast,true) else (s,false)
def kindOf (w:Bs):Int:=if w=qEs 1 then 1 else if w=qEs 2 then 2 else if w=qEs 3 then 3 else if w=qEs 4 then 4 else if w=qEs 5 then 5 else 0
def qGl (a b k t:Bs):Option (Co×Bool):=
  if isNm b=true∧0≤idOf a∧1≤kindOf (qBd 63 (qBd 42 k).1).1∧(qB4 (kindOf (qBd 63 (qBd 42 k).1).1) (qBd 63 (qBd 42 k).1).2 t).2=0 then
    some ((idOf a,⟨b.toArray⟩,(kindOf (qBd 63 (qBd 42 k).1).1,(qBd 63 (qBd 42 k).1).2),unCl (qB4 (kindOf (qBd 63 (qBd 42 k).1).1) (qBd 63 (qBd 42 k).1).2 t).1),(qBd 42 k).2)
  else none
def qG9 (s:Bs):Option (Co×Bool):=match cutAt 32 s with
 |none=>none
 | some x=>match cutAt 32 x.2 with
  |none=>none
  |some y=>match cutAt 32 y.2 with
   |none=>none
   |some z=>qGl x.1 y.1 z.1 z.2
def qBm:Bs→List Bs×Bs
  |[]=>([],[])
  |c::r=>if c=10 then ([]::(qBm r).1,(qBm r).2) else match (qBm r).1 with
   |[]=>([],c::(qBm r).2)
   |l::ls=>((c::l)::ls,(qBm r).2)
def readAll:List Co→List Int→List Bs→List Co×List Int×Bool
  |cs,ks,[]=>(cs,ks,true)
  |cs,ks,l::ls=>match qG9 l with
   |none=>(cs,ks,false)
   |some x=>readAll (cs++[x.1]) (if x.2=true then ks++[(cs.length:Int)] else ks) ls
def qCw (s:Bs):List Co×List Int×Bool:=
  ((readAll [] [] (qBm s).1).1,(readAll [] [] (qBm s).1).2.1,(readAll [] [] (qBm s).1).2.2&&decide ((qBm s).2=[]))
def qBb (s:Bs):List Co×List Int×Nat×Int:=
  if 1048576<s.length then ([],[],0,5)
  else if (qCw s).2.2=true then (if scOk (qCw s).1 (qCw s).2.1=true then ((qCw s).1,(qCw s).2.1,0,0) else ([],[],0,2))
  else ([],[],(qCw s).1.length,4)
theorem cell_of_block {w:World} {b i:Nat} {cs:Array Value} {T:TypeId} {v:Value} (h:w.heap[b]?=some (.cells cs T (0,0))) (hv:cs[i]?=some v):w.cell? ⟨b,i,none⟩=some v:=by
 simp[World.cell?,h,hv]
theorem qAf (w:World) (o:Obj):(w.alloc o).heap[w.heap.size]?=some o:=by
 show(w.heap.push o)[w.heap.size]?=some o
 simp
theorem qAe {w:World} {b:Nat} {o:Obj} (h:w.heap[b]?=some o) (o':Obj):(w.alloc o').heap[b]?=some o:=
  (Below.heap_alloc w o' b (Array.getElem?_eq_some_iff.1 h).1).trans h
theorem qAb {w w':World} {b:Nat} {o:Obj} (h:w.heap[b]?=some o) (hb:Below w.heap.size w w'):w'.heap[b]?=some o:=
  (hb.block b (Array.getElem?_eq_some_iff.1 h).1).trans h
theorem qEf (l:List Co):(colV l).length=l.length*7:=by
 induction l with
 |nil=>rfl
 |cons a t ih=>show(coV a++colV t).length=_;rw[List.length_append,ih,List.length_cons];simp[coV];omega
theorem qJn (l m:List Co):colV (l++m)=colV l++colV m:=List.flatMap_append
theorem qKj:∀(l:List Co) (i:Nat) (c:Co),l[i]?=some c→∀(j:Nat) (u:Value),(coV c)[j]?=some u→(colV l)[i*7+j]?=some u
  |[],i,c,h,j,u,hu=>by simp at h
  |a::t,0,c,h,j,u,hu=>by
   have h:a=c:=by simpa using h
   subst h;have hj:j<(coV a).length:=(List.getElem?_eq_some_iff.1 hu).1
   show(coV a++colV t)[0*7+j]?=_
   rw[List.getElem?_append_left (by omega),Nat.zero_mul,Nat.zero_add];exact hu
  |a::t,i+1,c,h,j,u,hu=>by
   have ih:=qKj t i c (by simpa using h) j u hu
   show(coV a++colV t)[(i+1)*7+j]?=_
   rw[List.getElem?_append_right (by simp[coV];omega),←ih]
   congr 1
   simp[coV];omega
theorem qCd (l:List Co):∀u∈colV l,u.oneCell'=true:=by
 intro u hu
 obtain⟨c,_,hc⟩:=List.mem_flatMap.1 hu
 simp[coV] at hc
 rcases hc with rfl|rfl|rfl|rfl|rfl|rfl|rfl <;> rfl
theorem Lay.co {w:World} {B:Nat} {A:Option Addr} {l:List Co} {i:Nat} {c:Co} (h:Lay w B A (colV l)) (hi:l[i]?=some c) :
    ∃ g o,A=some ⟨g,o,none⟩∧g<B∧w.cell? ⟨g,o+i*7,none⟩=some (.int .i64 c.1)∧w.cell? ⟨g,o+i*7+1,none⟩=some (.string c.2.1)∧w.cell? ⟨g,o+i*7+2,none⟩=some (.int .i64 c.2.2.1.1)∧w.cell? ⟨g,o+i*7+3,none⟩=some (.bool c.2.2.1.2)∧
      w.cell? ⟨g,o+i*7+4,none⟩=some (.bool c.2.2.2.1)∧w.cell? ⟨g,o+i*7+5,none⟩=some (.int .i64 c.2.2.2.2.1)∧w.cell? ⟨g,o+i*7+6,none⟩=some (.string c.2.2.2.2.2):=by
 have hl:i<l.length:=(List.getElem?_eq_some_iff.1 hi).1;obtain⟨g,o,e,hb,hc⟩:=h.some_ (by rw[qEf];omega);have k:=qKj l i c hi;exact⟨g,o,e,hb,hc _ _ (k 0 _ rfl),hc _ _ (k 1 _ rfl),hc _ _ (k 2 _ rfl),hc _ _ (k 3 _ rfl),hc _ _ (k 4 _ rfl),hc _ _ (k 5 _ rfl),hc _ _ (k 6 _ rfl)⟩
theorem Lay.cols {w:World} {B:Nat} {A:Option Addr} {l:List Co} (h:Lay w B A (colV l)):Cols w B A (qC0 l) (colV l):=by
 refine⟨by rw[qEf];simp[qC0],h,fun i t ht=>?_⟩;simp only[qC0,List.getElem?_map,Option.map_eq_some_iff] at ht;obtain⟨c,hc,rfl⟩:=ht;exact⟨qKj l i c hc 2 _ rfl,qKj l i c hc 3 _ rfl⟩
end Go.Ms
set_option linter.unusedSimpArgs false
namespace Go.Ms
open Go.Lib
theorem qC6 {c:UInt8}:∀{s x y:Bs},cutAt c s=some (x,y)→s=x++c::y∧c∉x
  |[],x,y,h=>by simp[cutAt] at h
  |b::r,x,y,h=>by
   unfold cutAt at h
   split at h
   · rename_i hb
     simp only[Option.some.injEq,Prod.mk.injEq] at h;obtain⟨rfl,rfl⟩:=h;exact⟨by rw[hb];rfl,by simp⟩
   · rename_i hb
     split at h
     · rename_i z hz
       simp only[Option.some.injEq,Prod.mk.injEq] at h;obtain⟨rfl,rfl⟩:=h;obtain⟨h1,h2⟩:=qC6 (x:=z.1) (y:=z.2) hz;refine⟨by rw[List.cons_append,←h1],?_⟩;simp only[List.mem_cons,not_or];exact⟨fun e=>hb e.symm,h2⟩
     · cases h
theorem qIt {c:UInt8}:∀{s:Bs},cutAt c s=none↔c∉s
  |[]=>by simp[cutAt]
  |b::r=>by
   have ih:=qIt (c:=c) (s:=r);unfold cutAt
   split
   · rename_i hb;subst hb;simp
   · rename_i hb
     split
     · rename_i z hz
       have:¬cutAt c r=none:=by rw[hz];simp
       rw[ih] at this;simp only[reduceCtorEq,List.mem_cons,not_or,false_iff,not_and]
       exact fun _=>this
     · rename_i hz
       simp only[List.mem_cons,not_or,true_iff];exact⟨fun e=>hb e.symm,ih.1 hz⟩
theorem qKd:∀{x y:Bs},(10:UInt8)∉x→qBm (x++10::y)=(x::(qBm y).1,(qBm y).2)
  |[],y,h=>by simp[qBm]
  |b::r,y,h=>by
   simp only[List.mem_cons,not_or] at h;rw[List.cons_append,qBm,if_neg (fun e=>h.1 e.symm),qKd h.2]
theorem qI4:∀{x:Bs},(10:UInt8)∉x→qBm x=([],x)
  |[],h=>rfl
  |b::r,h=>by
   simp only[List.mem_cons,not_or] at h;rw[qBm,if_neg (fun e=>h.1 e.symm),qI4 h.2]
theorem qJb:∀(s:Bs),s=(qBm s).1.flatMap (fun l=>l++[10])++(qBm s).2
  |[]=>rfl
  |c::r=>by
   have ih:=qJb r;unfold qBm
   split
   · rename_i hc;subst hc
     simp only[List.flatMap_cons,List.nil_append,List.cons_append];rw[←ih]
   · split
     · rename_i hl
       rw[hl] at ih;simp only[List.flatMap_nil,List.nil_append] at ih ⊢;rw[←ih]
     · rename_i l ls hl
       rw[hl] at ih;simp only[List.flatMap_cons,List.cons_append] at ih ⊢;rw[←ih]
theorem qIp:∀(s:Bs),(∀l∈(qBm s).1,(10:UInt8)∉l)∧(10:UInt8)∉(qBm s).2
  |[]=>by simp[qBm]
  |c::r=>by
   obtain⟨h1,h2⟩:=qIp r;unfold qBm
   split
   · rename_i hc
     refine⟨fun l hl=>?_,h2⟩;simp only[List.mem_cons] at hl
     rcases hl with rfl|hl
     · simp
     · exact h1 l hl
   · rename_i hc
     split
     · exact⟨by simp,by simp only[List.mem_cons,not_or];exact⟨fun e=>hc e.symm,h2⟩⟩
     · rename_i l ls hl
       rw[hl] at h1;refine⟨fun x hx=>?_,h2⟩;simp only[List.mem_cons] at hx
       rcases hx with rfl|hx
       · simp only[List.mem_cons,not_or];exact⟨fun e=>hc e.symm,h1 l (by simp)⟩
       · exact h1 x (by simp[hx])
end Go.Ms
set_option linter.unusedSimpArgs false
namespace Go.Ms
open Go.Lib
theorem qEm : ∀ (l:List Int) (lo hi:Int),qE7 l lo hi=true↔(∀(i:Nat) x,l[i]?=some x→lo≤x∧x≤hi)∧∀(i:Nat) x y,l[i]?=some x→l[i+1]?=some y→x<y
  |[],lo,hi=>by simp[qE7]
  | n :: r, lo, hi=>by
   have ih:=qEm r (n+1) hi;rw[qE7,Bool.and_eq_true,Bool.and_eq_true,decide_eq_true_eq,decide_eq_true_eq,ih]
   constructor
   · rintro⟨⟨h1,h2⟩,h3,h4⟩;refine⟨fun i x hx=>?_,fun i x y hx hy=>?_⟩
     · cases i with
      | zero => obtain rfl:n=x:=by simpa using hx
                exact⟨h1,h2⟩
      |succ i=>have:=h3 i x (by simpa using hx);exact⟨by omega,this.2⟩
     · cases i with
      |zero=>
       obtain rfl:n=x:=by simpa using hx
       have:=h3 0 y (by simpa using hy);omega
      |succ i=>exact h4 i x y (by simpa using hx) (by simpa using hy)
   · rintro⟨h1,h2⟩;have h0:=h1 0 n rfl;refine⟨h0,?_,fun i x y hx hy=>h2 (i+1) x y (by simpa using hx) (by simpa using hy)⟩
     intro i
     induction i with
     |zero=>intro x hx;have a:=h2 0 n x rfl (by simpa using hx);have b:=h1 1 x (by simpa using hx);exact⟨by omega,b.2⟩
     |succ i ih2=>
      intro x hx
      have hl:i+1<r.length:=(List.getElem?_eq_some_iff.1 hx).1;have hp:=ih2 _ (List.getElem?_eq_getElem (by omega:i<r.length));have a:=h2 (i+1) _ x (by simpa using List.getElem?_eq_getElem (by omega:i<r.length)) (by simpa using hx);have b:=h1 (i+2) x (by simpa using hx);exact⟨by omega,b.2⟩
def qFi (cs:List Co):Prop:= ∀(i j:Nat) a b,i<j→cs[i]?=some a→cs[j]?=some b→a.2.1≠b.2.1
theorem qKz (cs:List Co):(qF0 cs).Nodup↔qFi cs:=by
 unfold List.Nodup;rw[List.pairwise_iff_getElem];unfold qFi qF0
 constructor
 · intro h i j a b hij ha hb
   obtain⟨hi,rfl⟩:=List.getElem?_eq_some_iff.1 ha;obtain⟨hj,rfl⟩:=List.getElem?_eq_some_iff.1 hb;have:=h i j (by simpa using hi) (by simpa using hj) hij;rw[List.getElem_map,List.getElem_map] at this;exact this
 · intro h i j hi hj hij
   simp only[List.getElem_map];simp only[List.length_map] at hi hj;exact h i j _ _ hij (List.getElem?_eq_getElem hi) (List.getElem?_eq_getElem hj)
structure ScOk (cs:List Co) (ks:List Int):Prop where
  co:∀(i:Nat) c,cs[i]?=some c→isNm c.2.1.data.toList=true∧qCc c.2.2.1 c.2.2.2=0
  one:1≤cs.length
  most:cs.length≤32
  apart:qFi cs
  id:∀(i:Nat) c,cs[i]?=some c→1≤c.1∧c.1≤1048576
  up:∀(i:Nat) a b,cs[i]?=some a→cs[i+1]?=some b→a.1<b.1
  keys:ks.length≤8
  kin:∀(i:Nat) k,ks[i]?=some k→0≤k∧k<cs.length
  kup:∀(i:Nat) a b,ks[i]?=some a→ks[i+1]?=some b→a<b
  full:∀(i:Nat) k c,ks[i]?=some k→cs[k.toNat]?=some c→c.2.2.1.2=false
theorem qB6 (cs:List Co) (ks:List Int):scOk cs ks=true↔ScOk cs ks:=by
 unfold scOk;simp only[Bool.and_eq_true,decide_eq_true_eq,qKz,qEm]
 have hid:∀(i:Nat) x,(qEk cs)[i]?=some x↔∃c,cs[i]?=some c∧c.1=x:=fun i x=>by
  unfold qEk;rw[List.getElem?_map,Option.map_eq_some_iff]
 constructor
 · rintro⟨⟨⟨⟨⟨⟨⟨h1,h2⟩,h3⟩,h4⟩,h5,h6⟩,h7⟩,h8,h9⟩,h10⟩
   have kin:∀(i:Nat) k,ks[i]?=some k→0≤k∧k<cs.length:=fun i k hk=>by have:=h8 i k hk;omega
   refine⟨fun i c hc=>?_,h2,h3,h4,fun i c hc=>h5 i c.1 ((hid i c.1).2 ⟨c,hc,rfl⟩),fun i a b ha hb=>h6 i a.1 b.1 ((hid _ _).2 ⟨a,ha,rfl⟩) ((hid _ _).2 ⟨b,hb,rfl⟩),h7,kin,h9,fun i k c hk hc=>?_⟩
   · have:=List.all_eq_true.1 h1 c (List.mem_of_getElem? hc);unfold coOk at this
     simpa using this
   · have:=List.all_eq_true.1 h10 k (List.mem_of_getElem? hk);unfold qPj at this;rw[List.getD_eq_getElem?_getD,hc] at this
     simpa using this
 · intro h
   refine⟨⟨⟨⟨⟨⟨⟨List.all_eq_true.2 fun c hc=>?_,h.one⟩,h.most⟩,h.apart⟩,fun i x hx=>?_,fun i x y hx hy=>?_⟩,h.keys⟩,fun i k hk=>?_,h.kup⟩,List.all_eq_true.2 fun k hk=>?_⟩
   · obtain⟨i,hi⟩:=List.getElem?_of_mem hc;have:=h.co i c hi;unfold coOk
     simp[this.1,this.2]
   · obtain⟨c,hc,rfl⟩:=(hid i x).1 hx;exact h.id i c hc
   · obtain⟨a,ha,rfl⟩:=(hid i x).1 hx;obtain⟨b,hb,rfl⟩:=(hid _ y).1 hy;exact h.up i a b ha hb
   · have:=h.kin i k hk;omega
   · obtain⟨i,hi⟩:=List.getElem?_of_mem hk;obtain⟨h0,h1⟩:=h.kin i k hi
     have hl:k.toNat<cs.length:=by omega
     have:=h.full i k _ hi (List.getElem?_eq_getElem hl);unfold qPj;rw[List.getD_eq_getElem?_getD,List.getElem?_eq_getElem hl]
     simpa using this
theorem qLt {cs:List Co} {ks:List Int} (h:ScOk cs ks):qAz cs ks=0:=by unfold qAz;rw[if_pos ((qB6 cs ks).2 h)]
theorem qAp {cs:List Co} {ks:List Int} (h:¬ScOk cs ks):qAz cs ks=2:=by unfold qAz;rw[if_neg (fun e=>h ((qB6 cs ks).1 e))]
theorem qV3 {p:Co→Bool} {l:List Co} {k:Nat} {c:Co} (hc:l[k]?=some c) (hn:∀(j:Nat) d,j<k→l[j]?=some d→p d=false) (hp:p c=true):qD4 p l=(k,true):=by
 unfold qD4
 have:l.findIdx? p=some k:=by
  rw[List.findIdx?_eq_some_iff_getElem];obtain⟨hk,rfl⟩:=List.getElem?_eq_some_iff.1 hc;exact⟨hk,hp,fun j hj=>by have:=hn j _ hj (List.getElem?_eq_getElem (by omega));simpa using this⟩
 rw[this]
theorem qP0 {p:Co→Bool} {l:List Co} (hn:∀(j:Nat) d,l[j]?=some d→p d=false):qD4 p l=(0,false):=by
 unfold qD4
 have:l.findIdx? p=none:=by
  rw[List.findIdx?_eq_none_iff]
  intro x hx
  obtain⟨i,hi⟩:=List.getElem?_of_mem hx;exact hn i x hi
 rw[this]
end Go.Ms
namespace Go.Proofs.YtikpmmipopmjaaaGreatDoor
open Go.RowKit Go.Ms Go.Lib
end Go.Proofs.YtikpmmipopmjaaaGreatDoor
namespace Go.Proofs.YtikpmmipopmjaaaGreatDoor
open Go.RowKit Go.Ms Go.Lib
end Go.Proofs.YtikpmmipopmjaaaGreatDoor
namespace Go.Proofs.YtikpmmipopmjaaaGreatDoor
open Go.RowKit Go.Ms Go.Lib
end Go.Proofs.YtikpmmipopmjaaaGreatDoor
namespace Go.Proofs.YtikpmmipopmjaaaGreatDoor
open Go.RowKit Go.Ms Go.Lib
end Go.Proofs.YtikpmmipopmjaaaGreatDoor
namespace Go.Proofs.YtikpmmipopmjaaaGreatDoor
open Go.RowKit Go.Ms Go.Lib
end Go.Proofs.YtikpmmipopmjaaaGreatDoor
namespace Go.Proofs.YtikpmmipopmjaaaGreatDoor
open Go.RowKit Go.Ms Go.Lib
end Go.Proofs.YtikpmmipopmjaaaGreatDoor
namespace Go.Proofs.YtikpmmipopmjaaaGreatDoor
open Go.RowKit Go.Ms Go.Lib
end Go.Proofs.YtikpmmipopmjaaaGreatDoor
namespace Go.Proofs.YtikpmmipopmjaaaGreatDoor
open Go.RowKit Go.Ms Go.Lib
end Go.Proofs.YtikpmmipopmjaaaGreatDoor
namespace Go.Proofs.YtikpmmipopmjaaaGreatDoor
open Go.RowKit Go.Ms Go.Lib
end Go.Proofs.YtikpmmipopmjaaaGreatDoor
namespace Go.Proofs.YtikpmmipopmjaaaGreatDoor
open Go.RowKit Go.Ms Go.Lib
end Go.Proofs.YtikpmmipopmjaaaGreatDoor
namespace Go.Proofs.YtikpmmipopmjaaaGreatDoor
open Go.RowKit Go.Ms Go.Lib
abbrev zBf (b:Nat) (u:Bool) (n:Int) (S:ByteArray) (w:World):Prop:=Tri 57 b (.bool u) (.int .i64 n) (.string S) w
theorem qXs {T b:Nat} {x y z p q r:Value} {w:World} (h:Tri T b x y z w):Tri T b p q r (((w.setCell ⟨b,0,none⟩ p).setCell ⟨b,1,none⟩ q).setCell ⟨b,2,none⟩ r):=by
 unfold Tri at *; simp[World.setCell,Array.getElem?_modify,h]
theorem qXu {T b:Nat} {x y z:Value} {w w':World} (h:Tri T b x y z w) (hb:Below w.heap.size w w'):Tri T b x y z w':=h.below hb h.lt
theorem qSr {B b:Nat} {a w:World} (h:Below B a w) (hb:B≤b) (p q r:Value):Below B a (((w.setCell ⟨b,0,none⟩ p).setCell ⟨b,1,none⟩ q).setCell ⟨b,2,none⟩ r):=
  ((h.setCell (p:=⟨b,0,none⟩) hb _).setCell (p:=⟨b,1,none⟩) hb _).setCell (p:=⟨b,2,none⟩) hb _
section
variable {w w1 w2:World} {k:Nat} {u1 u2 u3:Bool} {n1 n2 n3:Int} {S1 S2 S3:ByteArray}
end
end Go.Proofs.YtikpmmipopmjaaaGreatDoor
namespace Go.Ms
open Go.Lib
end Go.Ms
namespace Go.Proofs.YtikpmmipopmjaaaGreatDoor
open Go.RowKit Go.Ms Go.Lib
structure TBx (w:World) (b:Nat) (k:Int) (tn:Bool) (u:Bool) (n:Int) (S:ByteArray) (w1:World):Prop where
  td:w1.heap[b]?=some (.cells #[.int .i64 k,.bool tn] 55 (0,0))
  ta:zBf (b+1) u n S w1
  bel:Below w.heap.size w w1
  hb:w.heap.size≤b
structure zBl (b:Nat) (k:Int) (tn:Bool) (u:Bool) (n:Int) (S:ByteArray) (w1:World):Prop where
  d0:w1.cell? ⟨b,0,none⟩=some (.int .i64 k)
  d1:w1.cell? ⟨b,1,none⟩=some (.bool tn)
  a0:w1.cell? ⟨b+1,0,none⟩=some (.bool u)
  a1:w1.cell? ⟨b+1,1,none⟩=some (.int .i64 n)
  a2:w1.cell? ⟨b+1,2,none⟩=some (.string S)
  f0:w1.frozen? ⟨b+1,0,none⟩=false
  f1:w1.frozen? ⟨b+1,1,none⟩=false
  f2:w1.frozen? ⟨b+1,2,none⟩=false
  l0:b<w1.heap.size
  l1:b+1<w1.heap.size
section
variable {w w1 w2:World} {b:Nat} {k n:Int} {tn u:Bool} {S:ByteArray}
theorem TBx.cells (h:TBx w b k tn u n S w1):zBl b k tn u n S w1:=
  ⟨by rw[Lib.cell_of_heap h.td];rfl,by rw[Lib.cell_of_heap h.td];rfl,h.ta.c0,h.ta.c1,h.ta.c2,h.ta.fr 0,h.ta.fr 1,h.ta.fr 2,(Array.getElem?_eq_some_iff.1 h.td).1,h.ta.lt⟩
theorem TBx.step (h:TBx w b k tn u n S w1) (hb:Below w1.heap.size w1 w2):TBx w b k tn u n S w2:=
  ⟨by rw[hb.block _ (Array.getElem?_eq_some_iff.1 h.td).1];exact h.td,qXu h.ta hb,h.bel.trans (hb.mono h.bel.size),h.hb⟩
theorem TBx.drew (h:TBx w b k tn u n S w1):TBx w b k tn u n S w1.drew:=h.step (qAc (Below.refl _ _) 1)
theorem TBx.alloc (h:TBx w b k tn u n S w1) (o:Obj):TBx w b k tn u n S (w1.alloc o):=h.step ((Below.refl _ _).alloc (Nat.le_refl _) _)
theorem TBx.set (h:TBx w b k tn u n S w1) (T:ByteArray):TBx w b k tn u n T (((w1.setCell ⟨b+1,0,none⟩ (.bool u)).setCell ⟨b+1,1,none⟩ (.int .i64 n)).setCell ⟨b+1,2,none⟩ (.string T)):=
  ⟨by
    have hx:=h.td
    simp[World.setCell,Array.getElem?_modify,hx],qXs h.ta,qSr h.bel (by have:=h.hb;omega) _ _ _,h.hb⟩
theorem TBx.start (w:World) (k:Int) (tn u:Bool) (n:Int) (S:ByteArray):TBx w w.heap.size k tn u n S ((w.alloc (.cells #[.int .i64 k,.bool tn] 55)).alloc (.cells #[.bool u,.int .i64 n,.string S] 57)):=by
 have t2:=heap_alloc_new (w.alloc (.cells #[.int .i64 k,.bool tn] 55)) (.cells #[.bool u,.int .i64 n,.string S] 57);exact⟨by rw[Lib.alloc_old _ _ _ (by simp)];exact heap_alloc_new w _,by simpa[Tri] using t2,((Below.refl _ _).alloc (Nat.le_refl _) _).alloc (by simp) _,Nat.le_refl _⟩
end
end Go.Proofs.YtikpmmipopmjaaaGreatDoor
namespace Go.Proofs.YtikpmmipopmjaaaGreatDoor
open Go.RowKit Go.Ms Go.Lib
section
end
end Go.Proofs.YtikpmmipopmjaaaGreatDoor
namespace Go.Proofs.YtikpmmipopmjaaaGreatDoor
open Go.RowKit Go.Ms Go.Lib
set_option maxHeartbeats 400000 in
theorem qWe (r:Int) (h0: -2147483648≤r) (h1:r≤2147483647) (w:World) :
    Calls Tryz.prog 191 #[.int .i32 r] w fun e w'=>e=.returned (.tuple #[.string ⟨(put r).toArray⟩,.bool (qB9 r)])∧Below w.heap.size w w':=by
 have kc1:=fun (w:World) (n:Nat) (hn:n=w.heap.size) (a:Int)=>qJl (P:=Tryz.prog) w n hn 92 5 Tryz.underlying92 Tryz.underlying5 [a] 9 Tryz.underlying9
 have kc2:=fun (w:World) (n:Nat) (hn:n=w.heap.size) (a b:Int)=>qJl (P:=Tryz.prog) w n hn 92 5 Tryz.underlying92 Tryz.underlying5 [a,b] 9 Tryz.underlying9
 have kc3:=fun (w:World) (n:Nat) (hn:n=w.heap.size) (a b c:Int)=>qJl (P:=Tryz.prog) w n hn 92 5 Tryz.underlying92 Tryz.underlying5 [a,b,c] 9 Tryz.underlying9
 have kc4:=fun (w:World) (n:Nat) (hn:n=w.heap.size) (a b c d:Int)=>qJl (P:=Tryz.prog) w n hn 92 5 Tryz.underlying92 Tryz.underlying5 [a,b,c,d] 9 Tryz.underlying9
 simp only[List.map_cons,List.map_nil,List.length_cons,List.length_nil,Nat.zero_add,Nat.reduceAdd] at kc1 kc2 kc3 kc4
 by_cases c1:r<0∨(55296≤r∧r≤57343)∨1114111<r
 · have hn:qB9 r=false:=by rw[Bool.eq_false_iff];intro h;rw[qA5] at h;omega
   rw[hn,qYn hn];clear hn
   rcases c1 with c|⟨c,d⟩|c
   · go_enter Tryz.func191,Tryz.ntmps191
     go_wp2
     go_ret2
     exact⟨rfl,Below.refl _ _⟩
   · have c':¬r<0:=by omega
     go_enter Tryz.func191,Tryz.ntmps191
     go_wp2
     go_ret2
     exact⟨rfl,Below.refl _ _⟩
   · have c':¬r<0:=by omega
     go_enter Tryz.func191,Tryz.ntmps191
     go_wp2
     go_ret2
     exact⟨rfl,Below.refl _ _⟩
 have hn:qB9 r=true:=by rw[qA5];omega
 rw[hn,qMy hn,←qQg];clear hn
 have c0:0≤r:=by omega
 have c0':¬r<0:=by omega
 have c3:r≤1114111:=by omega
 by_cases d1:r<128
 · rw[encodeRuneZ_one c0 (by omega)];clear c1
   go_enter Tryz.func191,Tryz.ntmps191
   go_wp2
   all_goals go_ret2
   all_goals exact⟨rfl,(Below.refl _ _).alloc (Nat.le_refl _) _⟩
 by_cases d2:r<2048
 · rw[encodeRuneZ_two (by omega) (by omega)];clear c1
   go_enter Tryz.func191,Tryz.ntmps191
   go_wp2
   all_goals go_ret2
   all_goals exact⟨rfl,((Below.refl _ _).alloc (Nat.le_refl _) _).alloc (by simp) _⟩
 by_cases d3:r<65536
 · rw[encodeRuneZ_three (by omega)]
   have d4:r<55296∨57343<r:=by omega
   rcases d4 with d4|d4
   all_goals
    clear c1
    go_enter Tryz.func191,Tryz.ntmps191
    go_wp2
    all_goals go_ret2
    all_goals exact⟨rfl,((Below.refl _ _).alloc (Nat.le_refl _) _).alloc (by simp) _⟩
 · rw[encodeRuneZ_four (by omega) (by omega)];clear c1
   go_enter Tryz.func191,Tryz.ntmps191
   go_wp2
   all_goals go_ret2
   all_goals exact⟨rfl,((Below.refl _ _).alloc (Nat.le_refl _) _).alloc (by simp) _⟩
set_option maxHeartbeats 400000 in
theorem qW0 (s:ByteArray) (w:World) (h:s.size=1) :
    Calls Tryz.prog 190 #[.string s] w fun e w'=>e=.returned (.int .i32 (qBa s.data.toList))∧w=w':=by
 have hl:s.data.toList.length=1:=by simpa using h
 have hb0:=qEv s.data.toList 0
 have g0:(s[0]'(by omega)).toNat=bt s.data.toList 0:=by rw[qDg];rfl
 have hn:qBa s.data.toList=(bt s.data.toList 0:Int):=by simp[qBa,hl]
 rw[hn];clear hn hl
 generalize bt s.data.toList 0=b0 at *
 go_enter Tryz.func190,Tryz.ntmps190
 go_wp2
 go_rounds 5
 go_ret
 exact⟨qMx (by omega),rfl⟩
set_option maxHeartbeats 400000 in
theorem qWw (s:ByteArray) (w:World) (h:s.size=2) :
    Calls Tryz.prog 190 #[.string s] w fun e w'=>e=.returned (.int .i32 (qBa s.data.toList))∧w=w':=by
 have hl:s.data.toList.length=2:=by simpa using h
 have hb0:=qEv s.data.toList 0
 have g0:(s[0]'(by omega)).toNat=bt s.data.toList 0:=by rw[qDg];rfl
 have hb1:=qEv s.data.toList 1
 have g1:(s[1]'(by omega)).toNat=bt s.data.toList 1:=by rw[qDg];rfl
 have hn:qBa s.data.toList=64*(bt s.data.toList 0%32:Nat)+(bt s.data.toList 1%64:Nat):=by simp[qBa,hl]
 rw[hn];clear hn hl
 generalize bt s.data.toList 0=b0 at *
 generalize bt s.data.toList 1=b1 at *
 go_enter Tryz.func190,Tryz.ntmps190
 go_wp2
 go_rounds 5
 go_ret
 exact⟨qMx (by omega),rfl⟩
set_option maxHeartbeats 400000 in
theorem qWa (s:ByteArray) (w:World) (h:s.size=3) :
    Calls Tryz.prog 190 #[.string s] w fun e w'=>e=.returned (.int .i32 (qBa s.data.toList))∧w=w':=by
 have hl:s.data.toList.length=3:=by simpa using h
 have hb0:=qEv s.data.toList 0
 have g0:(s[0]'(by omega)).toNat=bt s.data.toList 0:=by rw[qDg];rfl
 have hb1:=qEv s.data.toList 1
 have g1:(s[1]'(by omega)).toNat=bt s.data.toList 1:=by rw[qDg];rfl
 have hb2:=qEv s.data.toList 2
 have g2:(s[2]'(by omega)).toNat=bt s.data.toList 2:=by rw[qDg];rfl
 have hn:qBa s.data.toList=64*(64*(bt s.data.toList 0%16:Nat)+(bt s.data.toList 1%64:Nat))+(bt s.data.toList 2%64:Nat):=by simp[qBa,hl]
 rw[hn];clear hn hl
 generalize bt s.data.toList 0=b0 at *
 generalize bt s.data.toList 1=b1 at *
 generalize bt s.data.toList 2=b2 at *
 go_enter Tryz.func190,Tryz.ntmps190
 go_wp2
 go_rounds 5
 go_ret
 exact⟨qMx (by omega),rfl⟩
set_option maxHeartbeats 400000 in
theorem qX7 (s:ByteArray) (w:World) (h:s.size=4) :
    Calls Tryz.prog 190 #[.string s] w fun e w'=>e=.returned (.int .i32 (qBa s.data.toList))∧w=w':=by
 have hl:s.data.toList.length=4:=by simpa using h
 have hb0:=qEv s.data.toList 0
 have g0:(s[0]'(by omega)).toNat=bt s.data.toList 0:=by rw[qDg];rfl
 have hb1:=qEv s.data.toList 1
 have g1:(s[1]'(by omega)).toNat=bt s.data.toList 1:=by rw[qDg];rfl
 have hb2:=qEv s.data.toList 2
 have g2:(s[2]'(by omega)).toNat=bt s.data.toList 2:=by rw[qDg];rfl
 have hb3:=qEv s.data.toList 3
 have g3:(s[3]'(by omega)).toNat=bt s.data.toList 3:=by rw[qDg];rfl
 have hn:qBa s.data.toList=64*(64*(64*(bt s.data.toList 0%8:Nat)+(bt s.data.toList 1%64:Nat))+(bt s.data.toList 2%64:Nat))+(bt s.data.toList 3%64:Nat):=by simp[qBa,hl]
 rw[hn];clear hn hl
 generalize bt s.data.toList 0=b0 at *
 generalize bt s.data.toList 1=b1 at *
 generalize bt s.data.toList 2=b2 at *
 generalize bt s.data.toList 3=b3 at *
 go_enter Tryz.func190,Tryz.ntmps190
 go_wp2
 go_rounds 5
 go_ret
 exact⟨qMx (by omega),rfl⟩
theorem qSi (s:ByteArray) (w:World) (h1:1≤s.size) (h4:s.size≤4) :
    Calls Tryz.prog 190 #[.string s] w fun e w'=>e=.returned (.int .i32 (qBa s.data.toList))∧w=w':=by
 rcases(by omega:s.size=1∨s.size=2∨s.size=3∨s.size=4) with h|h|h|h
 · exact qW0 s w h
 · exact qWw s w h
 · exact qWa s w h
 · exact qX7 s w h
end Go.Proofs.YtikpmmipopmjaaaGreatDoor
namespace Go.Proofs.YtikpmmipopmjaaaGreatDoor
open Go.RowKit Go.Ms Go.Lib
theorem qSn (l:Bs):0≤qBa l∧qBa l≤2097151:=by
 have h0:=qEv l 0;have h1:=qEv l 1;have h2:=qEv l 2;have h3:=qEv l 3
 unfold qBa
 repeat' split
 all_goals omega
set_option maxHeartbeats 400000 in
theorem qVo (s:ByteArray) (w:World) (hs:s.size≤1000000) :
    Calls Tryz.prog 166 #[.string s] w fun e w'=>e=.returned (.tuple #[.int .i32 (qDk s.data.toList).1,.int .i64 (qDk s.data.toList).2.1,.bool (qDk s.data.toList).2.2])∧Below w.heap.size w w':=by
 have hlen:s.data.toList.length=s.size:=by simp
 go_enter Tryz.func166,Tryz.ntmps166
 go_wp2
 go_loopw [5] (fun i wr=> ∃k:Nat,1≤k∧k≤5∧k≤s.size+1∧i=.int .i64 k∧Hid (∀n,1≤n→n<k→Ms.hit s.data.toList n=false)∧Below w.heap.size w wr)
              (fun i _=>5-(RowKit.intOf i).toNat)
 case atStart=>exact⟨1,by omega,by omega,by omega,rfl,fun n a b=>by omega,Below.refl _ _⟩
 case round=>
  obtain⟨k,h1,h5,hk,rfl,hno,hb⟩:=hrel
  by_cases hlt:k≤4∧k≤s.size
  · obtain ⟨h4,hks⟩:=hlt
    have hsz:(s.extract 0 k).size=k:=by simp;omega
    have hbd:=qSn (s.data.toList.take k)
    have hext:(s.extract 0 k).toList=s.data.toList.take k:=by rw[Lib.toList_data,ext_list];simp
    have Hext:=Lib.hid hext;clear hext
    go_wp2_with (go_at_call 190;refine(qSi _ _ (by rw[hsz];omega) (by rw[hsz];omega)).mono ?_;rintro e w' ⟨rfl,rfl⟩)
    refine(qWe _ (by omega) (by omega) _).mono ?_;rintro e w' ⟨rfl,hb1⟩
    go_wp2_with fail
    · have e1:qB9 (qBa (List.take k s.data.toList))=true:=by assumption
      have e2:(put (qBa (List.take k s.data.toList))==(s.extract 0 k).toList)=true:=by assumption
      rw[Hext.out] at e2;have hh:=qXl s.data.toList k (by omega) (by unfold Ms.hit;rw[e1,e2];rfl)
      go_ret3
      rw[hh];exact⟨zCz (qIr e1).symm rfl rfl,hb.trans (hb1.mono hb.size)⟩
    all_goals
     go_roundw
     case rel=>
      refine⟨k+1,by omega,by omega,by omega,by go_num,fun n a b=>?_,hb.trans (hb1.mono hb.size)⟩
      by_cases hn:n=k
      · subst hn;unfold Ms.hit
        first
        | (have e2:(put (qBa (List.take n s.data.toList))==(s.extract 0 n).toList)=false:=by assumption
           rw[Hext.out] at e2;rw[e2];simp)
        | (have e1:¬qB9 (qBa (List.take n s.data.toList))=true:=by assumption
           rw[Bool.eq_false_iff.2 e1];rfl)
      · exact hno.out n a (by omega)
     case measure=>simp[RowKit.intOf];omega
  · have hnn:=zBx s.data.toList (fun n a b c=>hno.out n a (by omega));have Hnn:=Lib.hid hnn;clear hnn
    have hl2:(5:Nat)≤k∨s.size<k:=by omega
    rcases hl2 with hl2|hl2
    · have hl3:¬((k:Int)≤4):=by omega
      go_wp2_with fail
      go_ret3
      rw[Hnn.out];exact⟨rfl,hb⟩
    · have hl3:¬(k:Int)≤(s.size:Int):=by omega
      go_wp2_with fail
      all_goals
       go_ret3
       rw[Hnn.out];exact⟨rfl,hb⟩
end Go.Proofs.YtikpmmipopmjaaaGreatDoor
