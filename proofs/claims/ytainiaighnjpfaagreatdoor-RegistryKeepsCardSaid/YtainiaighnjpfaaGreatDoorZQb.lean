/- Schemas, plainly: what is a name, what may be, the text of a schema, and how a text is read. Schemas, plainly: what may be, said place by place. Schemas that follow each other, plainly. Schemas that follow each other, plainly: a row carried along a chain is what it is if it is moved at once. Registries, plainly: subjects by rising names, each with the versions of a schema. Literals, part by part: what the reader makes of them. Literals as rows of parts: read, and cut. Cells, plain: what is written is read; what is put together is taken apart. Cells, plain: what is taken off has just those bits; what was read was written so. Cells, plain: orders. -/
import Derived.Test.YtainiaighnjpfaaGreatDoorZQa
import GoSem.Op.String
set_option linter.unusedVariables false
set_option linter.unusedSimpArgs false
namespace Go.Ms
open Go.RowKit Go.Lib
abbrev Co:=Int×ByteArray×Ty×Cl
def coV (c:Co):List Value:=[.int .i64 c.1,.string c.2.1,.int .i64 c.2.2.1.1,.bool c.2.2.1.2,.bool c.2.2.2.1,.int .i64 c.2.2.2.2.1,.string c.2.2.2.2.2]
def colV (l:List Co):List Value:=l.flatMap coV
def coA (c:Co):Value:=.agg #[.int .i64 c.1,.string c.2.1,.int .i64 c.2.2.1.1,.bool c.2.2.1.2,.bool c.2.2.2.1,.int .i64 c.2.2.2.2.1,.string c.2.2.2.2.2]
def zCo:Co:=(0,⟨#[]⟩,(0,false),(false,0,⟨#[]⟩))
def qGd (c:UInt8):Bool:=decide (97≤c.toNat)&&decide (c.toNat≤122)
def qFo (c:UInt8):Bool:=qGd c||(decide (48≤c.toNat)&&decide (c.toNat≤57))||decide (c.toNat=95)
def isNm (s:Bs):Bool:=decide (1≤s.length)&&decide (s.length≤32)&&qGd (s.getD 0 0)&&s.all qFo
def qDl:List Int→Int→Int→Bool
  |[],_,_=>true
  |n::r,lo,hi=>decide (lo≤n)&&decide (n≤hi)&&qDl r (n+1) hi
def coOk (c:Co):Bool:=isNm c.2.1.data.toList&&decide (qDw c.2.2.1 c.2.2.2=0)
def qD6 (l:List Co):List ByteArray:=l.map fun c=>c.2.1
def qC6 (l:List Co):List Int:=l.map fun c=>c.1
def qGh (l:List Co):List Ty:=l.map fun c=>c.2.2.1
def qL2 (cs:List Co) (k:Int):Bool:= !(cs.getD k.toNat zCo).2.2.1.2
def scOk (cs:List Co) (ks:List Int):Bool:=
  cs.all coOk&&decide (1≤cs.length)&&decide (cs.length≤32)&&decide ((qD6 cs).Nodup)&&qDl (qC6 cs) 1 1048576 &&
    decide (ks.length≤8)&&qDl ks 0 (cs.length-1)&&ks.all (qL2 cs)
def qBb (cs:List Co) (ks:List Int):Int:=if scOk cs ks=true then 0 else 2
def qFn (p:Co→Bool) (l:List Co):Nat×Bool:=match l.findIdx? p with
 |some i=>(i,true)
 |none=>(0,false)
def qC5 (k:Int):Bs:=if k=1 then [98,111,111,108] else if k=2 then [105,110,116,51,50] else if k=3 then [105,110,116,54,52] else if k=4 then [115,116,114,105,110,103] else if k=5 then [98,121,116,101,115] else []
def qUs (c:Co):Bs:=qBk c.2.2.1.1 c.2.2.1.2 c.2.2.2.1 c.2.2.2.2.1 c.2.2.2.2.2.data.toList
def cutAt (c:UInt8):Bs→Option (Bs×Bs)
  |[]=>none
  |b::r=>if b=c then some ([],r) else match cutAt c r with
   |some x=>some (b::x.1,x.2)
   |none=>none
def idOf (s:Bs):Int:=if itoa (qGn s)=s∧0≤qGn s∧qGn s≤1048576 then qGn s else -1
def qAz (c:UInt8) (s:Bs):Bs×Bool:=if s.getLast?=some c then (s.dropLast,true) else (s,false)
def kindOf (w:Bs):Int:=if w=qC5 1 then 1 else if w=qC5 2 then 2 else if w=qC5 3 then 3 else if w=qC5 4 then 4 else if w=qC5 5 then 5 else 0
def qD7 (a b k t:Bs):Option (Co×Bool):=
  if isNm b=true∧0≤idOf a∧1≤kindOf (qAz 63 (qAz 42 k).1).1∧(qBg (kindOf (qAz 63 (qAz 42 k).1).1) (qAz 63 (qAz 42 k).1).2 t).2=0 then
    some ((idOf a,⟨b.toArray⟩,(kindOf (qAz 63 (qAz 42 k).1).1,(qAz 63 (qAz 42 k).1).2),unCl (qBg (kindOf (qAz 63 (qAz 42 k).1).1) (qAz 63 (qAz 42 k).1).2 t).1),(qAz 42 k).2)
  else none
def qEt (s:Bs):Option (Co×Bool):=match cutAt 32 s with
 |none=>none
 | some x=>match cutAt 32 x.2 with
  |none=>none
  |some y=>match cutAt 32 y.2 with
   |none=>none
   |some z=>qD7 x.1 y.1 z.1 z.2
def qA4:Bs→List Bs×Bs
  |[]=>([],[])
  |c::r=>if c=10 then ([]::(qA4 r).1,(qA4 r).2) else match (qA4 r).1 with
   |[]=>([],c::(qA4 r).2)
   |l::ls=>((c::l)::ls,(qA4 r).2)
def readAll:List Co→List Int→List Bs→List Co×List Int×Bool
  |cs,ks,[]=>(cs,ks,true)
  |cs,ks,l::ls=>match qEt l with
   |none=>(cs,ks,false)
   |some x=>readAll (cs++[x.1]) (if x.2=true then ks++[(cs.length:Int)] else ks) ls
def qB4 (s:Bs):List Co×List Int×Bool:=
  ((readAll [] [] (qA4 s).1).1,(readAll [] [] (qA4 s).1).2.1,(readAll [] [] (qA4 s).1).2.2&&decide ((qA4 s).2=[]))
def qCg (s:Bs):List Co×List Int×Nat×Int:=
  if 1048576<s.length then ([],[],0,5)
  else if (qB4 s).2.2=true then (if scOk (qB4 s).1 (qB4 s).2.1=true then ((qB4 s).1,(qB4 s).2.1,0,0) else ([],[],0,2))
  else ([],[],(qB4 s).1.length,4)
theorem cell_of_block {w:World} {b i:Nat} {cs:Array Value} {T:TypeId} {v:Value} (h:w.heap[b]?=some (.cells cs T (0,0))) (hv:cs[i]?=some v):w.cell? ⟨b,i,none⟩=some v:=by
 simp[World.cell?,h,hv]
theorem qAf (w:World) (o:Obj):(w.alloc o).heap[w.heap.size]?=some o:=by
 show(w.heap.push o)[w.heap.size]?=some o
 simp
theorem qAd {w:World} {b:Nat} {o:Obj} (h:w.heap[b]?=some o) (o':Obj):(w.alloc o').heap[b]?=some o:=
  (Below.heap_alloc w o' b (Array.getElem?_eq_some_iff.1 h).1).trans h
theorem qAa {w w':World} {b:Nat} {o:Obj} (h:w.heap[b]?=some o) (hb:Below w.heap.size w w'):w'.heap[b]?=some o:=
  (hb.block b (Array.getElem?_eq_some_iff.1 h).1).trans h
theorem qG2 (l:List Co):(colV l).length=l.length*7:=by
 induction l with
 |nil=>rfl
 |cons a t ih=>show(coV a++colV t).length=_;rw[List.length_append,ih,List.length_cons];simp[coV];omega
theorem qMn (l m:List Co):colV (l++m)=colV l++colV m:=List.flatMap_append
theorem qJd:∀(l:List Co) (i:Nat) (c:Co),l[i]?=some c→∀(j:Nat) (u:Value),(coV c)[j]?=some u→(colV l)[i*7+j]?=some u
  |[],i,c,h,j,u,hu=>by simp at h
  |a::t,0,c,h,j,u,hu=>by
   have h:a=c:=by simpa using h
   subst h;have hj:j<(coV a).length:=(List.getElem?_eq_some_iff.1 hu).1
   show(coV a++colV t)[0*7+j]?=_
   rw[List.getElem?_append_left (by omega),Nat.zero_mul,Nat.zero_add];exact hu
  |a::t,i+1,c,h,j,u,hu=>by
   have ih:=qJd t i c (by simpa using h) j u hu
   show(coV a++colV t)[(i+1)*7+j]?=_
   rw[List.getElem?_append_right (by simp[coV];omega),←ih]
   congr 1
   simp[coV];omega
theorem qG3 (l:List Co):∀u∈colV l,u.oneCell'=true:=by
 intro u hu
 obtain⟨c,_,hc⟩:=List.mem_flatMap.1 hu
 simp[coV] at hc
 rcases hc with rfl|rfl|rfl|rfl|rfl|rfl|rfl <;> rfl
theorem Lay.co {w:World} {B:Nat} {A:Option Addr} {l:List Co} {i:Nat} {c:Co} (h:Lay w B A (colV l)) (hi:l[i]?=some c) :
    ∃ g o,A=some ⟨g,o,none⟩∧g<B∧w.cell? ⟨g,o+i*7,none⟩=some (.int .i64 c.1)∧w.cell? ⟨g,o+i*7+1,none⟩=some (.string c.2.1)∧w.cell? ⟨g,o+i*7+2,none⟩=some (.int .i64 c.2.2.1.1)∧w.cell? ⟨g,o+i*7+3,none⟩=some (.bool c.2.2.1.2)∧
      w.cell? ⟨g,o+i*7+4,none⟩=some (.bool c.2.2.2.1)∧w.cell? ⟨g,o+i*7+5,none⟩=some (.int .i64 c.2.2.2.2.1)∧w.cell? ⟨g,o+i*7+6,none⟩=some (.string c.2.2.2.2.2):=by
 have hl:i<l.length:=(List.getElem?_eq_some_iff.1 hi).1;obtain⟨g,o,e,hb,hc⟩:=h.some_ (by rw[qG2];omega);have k:=qJd l i c hi;exact⟨g,o,e,hb,hc _ _ (k 0 _ rfl),hc _ _ (k 1 _ rfl),hc _ _ (k 2 _ rfl),hc _ _ (k 3 _ rfl),hc _ _ (k 4 _ rfl),hc _ _ (k 5 _ rfl),hc _ _ (k 6 _ rfl)⟩
theorem Lay.cols {w:World} {B:Nat} {A:Option Addr} {l:List Co} (h:Lay w B A (colV l)):Cols w B A (qGh l) (colV l):=by
 refine⟨by rw[qG2];simp[qGh],h,fun i t ht=>?_⟩;simp only[qGh,List.getElem?_map,Option.map_eq_some_iff] at ht;obtain⟨c,hc,rfl⟩:=ht;exact⟨qJd l i c hc 2 _ rfl,qJd l i c hc 3 _ rfl⟩
end Go.Ms
set_option linter.unusedSimpArgs false
namespace Go.Ms
open Go.Lib
theorem qC7 : ∀ (l:List Int) (lo hi:Int),qDl l lo hi=true↔(∀(i:Nat) x,l[i]?=some x→lo≤x∧x≤hi)∧∀(i:Nat) x y,l[i]?=some x→l[i+1]?=some y→x<y
  |[],lo,hi=>by simp[qDl]
  | n :: r, lo, hi=>by
   have ih:=qC7 r (n+1) hi;rw[qDl,Bool.and_eq_true,Bool.and_eq_true,decide_eq_true_eq,decide_eq_true_eq,ih]
   constructor
   · rintro⟨⟨h1,h2⟩,h3,h4⟩;refine⟨fun i x hx=>?_,fun i x y hx hy=>?_⟩
     · cases i with
      | zero => obtain rfl:n=x:=by simpa using hx
                exact⟨h1,h2⟩
      |succ i=>have:=h3 i x (by simpa using hx);exact⟨by omega,this.2⟩
     · cases i with
      |zero=>
       obtain rfl:n=x:=by simpa using hx
       have:=h3 0 y (by simpa using hy);omega
      |succ i=>exact h4 i x y (by simpa using hx) (by simpa using hy)
   · rintro⟨h1,h2⟩;have h0:=h1 0 n rfl;refine⟨h0,?_,fun i x y hx hy=>h2 (i+1) x y (by simpa using hx) (by simpa using hy)⟩
     intro i
     induction i with
     |zero=>intro x hx;have a:=h2 0 n x rfl (by simpa using hx);have b:=h1 1 x (by simpa using hx);exact⟨by omega,b.2⟩
     |succ i ih2=>
      intro x hx
      have hl:i+1<r.length:=(List.getElem?_eq_some_iff.1 hx).1;have hp:=ih2 _ (List.getElem?_eq_getElem (by omega:i<r.length));have a:=h2 (i+1) _ x (by simpa using List.getElem?_eq_getElem (by omega:i<r.length)) (by simpa using hx);have b:=h1 (i+2) x (by simpa using hx);exact⟨by omega,b.2⟩
def qEe (cs:List Co):Prop:= ∀(i j:Nat) a b,i<j→cs[i]?=some a→cs[j]?=some b→a.2.1≠b.2.1
theorem qHv (cs:List Co):(qD6 cs).Nodup↔qEe cs:=by
 unfold List.Nodup;rw[List.pairwise_iff_getElem];unfold qEe qD6
 constructor
 · intro h i j a b hij ha hb
   obtain⟨hi,rfl⟩:=List.getElem?_eq_some_iff.1 ha;obtain⟨hj,rfl⟩:=List.getElem?_eq_some_iff.1 hb;have:=h i j (by simpa using hi) (by simpa using hj) hij;rw[List.getElem_map,List.getElem_map] at this;exact this
 · intro h i j hi hj hij
   simp only[List.getElem_map];simp only[List.length_map] at hi hj;exact h i j _ _ hij (List.getElem?_eq_getElem hi) (List.getElem?_eq_getElem hj)
structure ScOk (cs:List Co) (ks:List Int):Prop where
  co:∀(i:Nat) c,cs[i]?=some c→isNm c.2.1.data.toList=true∧qDw c.2.2.1 c.2.2.2=0
  one:1≤cs.length
  most:cs.length≤32
  apart:qEe cs
  id:∀(i:Nat) c,cs[i]?=some c→1≤c.1∧c.1≤1048576
  up:∀(i:Nat) a b,cs[i]?=some a→cs[i+1]?=some b→a.1<b.1
  keys:ks.length≤8
  kin:∀(i:Nat) k,ks[i]?=some k→0≤k∧k<cs.length
  kup:∀(i:Nat) a b,ks[i]?=some a→ks[i+1]?=some b→a<b
  full:∀(i:Nat) k c,ks[i]?=some k→cs[k.toNat]?=some c→c.2.2.1.2=false
theorem qFf (cs:List Co) (ks:List Int):scOk cs ks=true↔ScOk cs ks:=by
 unfold scOk;simp only[Bool.and_eq_true,decide_eq_true_eq,qHv,qC7]
 have hid:∀(i:Nat) x,(qC6 cs)[i]?=some x↔∃c,cs[i]?=some c∧c.1=x:=fun i x=>by
  unfold qC6;rw[List.getElem?_map,Option.map_eq_some_iff]
 constructor
 · rintro⟨⟨⟨⟨⟨⟨⟨h1,h2⟩,h3⟩,h4⟩,h5,h6⟩,h7⟩,h8,h9⟩,h10⟩
   have kin:∀(i:Nat) k,ks[i]?=some k→0≤k∧k<cs.length:=fun i k hk=>by have:=h8 i k hk;omega
   refine⟨fun i c hc=>?_,h2,h3,h4,fun i c hc=>h5 i c.1 ((hid i c.1).2 ⟨c,hc,rfl⟩),fun i a b ha hb=>h6 i a.1 b.1 ((hid _ _).2 ⟨a,ha,rfl⟩) ((hid _ _).2 ⟨b,hb,rfl⟩),h7,kin,h9,fun i k c hk hc=>?_⟩
   · have:=List.all_eq_true.1 h1 c (List.mem_of_getElem? hc);unfold coOk at this
     simpa using this
   · have:=List.all_eq_true.1 h10 k (List.mem_of_getElem? hk);unfold qL2 at this;rw[List.getD_eq_getElem?_getD,hc] at this
     simpa using this
 · intro h
   refine⟨⟨⟨⟨⟨⟨⟨List.all_eq_true.2 fun c hc=>?_,h.one⟩,h.most⟩,h.apart⟩,fun i x hx=>?_,fun i x y hx hy=>?_⟩,h.keys⟩,fun i k hk=>?_,h.kup⟩,List.all_eq_true.2 fun k hk=>?_⟩
   · obtain⟨i,hi⟩:=List.getElem?_of_mem hc;have:=h.co i c hi;unfold coOk
     simp[this.1,this.2]
   · obtain⟨c,hc,rfl⟩:=(hid i x).1 hx;exact h.id i c hc
   · obtain⟨a,ha,rfl⟩:=(hid i x).1 hx;obtain⟨b,hb,rfl⟩:=(hid _ y).1 hy;exact h.up i a b ha hb
   · have:=h.kin i k hk;omega
   · obtain⟨i,hi⟩:=List.getElem?_of_mem hk;obtain⟨h0,h1⟩:=h.kin i k hi
     have hl:k.toNat<cs.length:=by omega
     have:=h.full i k _ hi (List.getElem?_eq_getElem hl);unfold qL2;rw[List.getD_eq_getElem?_getD,List.getElem?_eq_getElem hl]
     simpa using this
theorem qNo {cs:List Co} {ks:List Int} (h:ScOk cs ks):qBb cs ks=0:=by unfold qBb;rw[if_pos ((qFf cs ks).2 h)]
theorem qB2 {cs:List Co} {ks:List Int} (h:¬ScOk cs ks):qBb cs ks=2:=by unfold qBb;rw[if_neg (fun e=>h ((qFf cs ks).1 e))]
end Go.Ms
set_option linter.unusedSimpArgs false
namespace Go.Ms
abbrev Sc:=List Co×List Int
def qHu (a b:Co):Bool:=decide (a.2.1=b.2.1)&&decide (a.2.2.2=b.2.2.2)&&(a.2.2.1.2==b.2.2.1.2)&&(decide (a.2.2.1.1=b.2.2.1.1)||(decide (a.2.2.1.1=2)&&decide (b.2.2.1.1=3)))
def qCe (cs:List Co):Int:=(cs.getLast?.map fun c=>c.1).getD 0
def qBi (s:Sc):List Int:=s.2.map fun k=>(s.1.getD k.toNat zCo).1
def evAt (cs:List Co) (id:Int):Option Nat:=cs.findIdx? fun c=>decide (c.1=id)
def qGg (cs:List Co) (above:Int) (d:Co):Bool:=match evAt cs d.1 with
 |some k=>qHu (cs.getD k zCo) d
 |none=>decide (above<d.1)
def qBo (a b:Sc) (above:Int):Bool:=b.1.all (qGg a.1 above)&&decide (qBi a=qBi b)
def qE5:Sc→Int→List Sc→Bool
  |_,_,[]=>true
  |p,ab,s::r=>qBo p s ab&&qE5 s (max ab (qCe s.1)) r
def qAu (l:List Sc):Int:=if 64<l.length then 5 else if (l.all fun s=>scOk s.1 s.2)=true then (match l with
 |[]=>0
 |s::r=>if qE5 s (max 0 (qCe s.1)) r=true then 0 else 120) else 2
def qA7 (a b:List Co) (r:List Cl):List Cl:=b.map fun d=>match evAt a d.1 with
 |some k=>r.getD k zCl
 |none=>d.2.2.2
def qD3:Sc→List Sc→List Cl→List Cl
  |_,[],r=>r
  |a,b::l,r=>qD3 b l (qA7 a.1 b.1 r)
def zSc:Sc:=([],[])
def qCf (l:List Sc) (f t:Int) (r:List Cl):List Cl×Int:=
  if qAu l=0 then (if f<1∨t<f∨(l.length:Int)<t then ([],131) else if qDb (qGh (l.getD (f.toNat-1) zSc).1) r=0 then (qD3 (l.getD (f.toNat-1) zSc) ((l.drop f.toNat).take (t-f).toNat) r,0) else ([],qDb (qGh (l.getD (f.toNat-1) zSc).1) r)) else ([],qAu l)
theorem qKw {cs:List Co} {id:Int} {k:Nat} (h:evAt cs id=some k):∃c,cs[k]?=some c∧c.1=id:=by
 unfold evAt at h;rw[List.findIdx?_eq_some_iff_getElem] at h;obtain⟨h1,h2,_⟩:=h;exact⟨_,List.getElem?_eq_getElem h1,by simpa using h2⟩
theorem qOu {cs:List Co} {id:Int} (h:evAt cs id=none):∀c∈cs,c.1≠id:=by
 unfold evAt at h;rw[List.findIdx?_eq_none_iff] at h
 intro c hc
 simpa using h c hc
def qOe (cs:List Co):Prop:= ∀(j i:Nat) a b,i<j→cs[i]?=some a→cs[j]?=some b→a.1<b.1
theorem qVj {cs:List Co} {ks:List Int} (h:ScOk cs ks):qOe cs:=by
 intro j
 induction j with
 |zero=>intro i a b hij;omega
 |succ j ih=>
  intro i a b hij ha hb
  by_cases e:i=j
  · subst e;exact h.up i a b ha hb
  · have hl:=(List.getElem?_eq_some_iff.1 hb).1;have h1:=ih i a _ (by omega) ha (List.getElem?_eq_getElem (by omega));have h2:=h.up j _ b (List.getElem?_eq_getElem (by omega)) hb;omega
theorem qTg {cs:List Co} (hu:qOe cs) {k:Nat} {c:Co} (h:cs[k]?=some c):evAt cs c.1=some k:=by
 cases he:evAt cs c.1 with
 |none=>exact absurd rfl (qOu he c (List.mem_of_getElem? h))
 |some j=>
  obtain⟨d,hd,e⟩:=qKw he
  rcases Nat.lt_trichotomy j k with h1|h1|h1
  · have:=hu k j d c h1 hd h;omega
  · rw[h1]
  · have:=hu j k c d h1 h hd;omega
theorem qKm (a b:List Co) (r:List Cl):(qA7 a b r).length=b.length:=by unfold qA7;rw[List.length_map]
end Go.Ms
set_option linter.unusedSimpArgs false
namespace Go.Ms
theorem qK8:∀(l m:List Sc) (a:Sc) (r:List Cl),qD3 a (l++m) r=qD3 ((a::l).getLast (by simp)) m (qD3 a l r)
  |[],m,a,r=>rfl
  |b::l,m,a,r=>by
   have e:(a::b::l).getLast (by simp)=(b::l).getLast (by simp):=List.getLast_cons (by simp);rw[List.cons_append,qD3,qD3,qK8 l m b,e]
theorem qL0 {s:Sc} {l:List Sc} (h:qAu (s::l)=0):(s::l).length≤64∧(∀t∈s::l,scOk t.1 t.2=true)∧qE5 s (max 0 (qCe s.1)) l=true:=by
 unfold qAu at h
 split at h
 · omega
 · rename_i h1
   split at h
   · rename_i h2
     simp only at h
     split at h
     · rename_i h3
       exact⟨by omega,by simpa[List.all_eq_true] using h2,h3⟩
     · omega
   · omega
end Go.Ms
set_option linter.unusedSimpArgs false
namespace Go.Ms
abbrev Rg:=List (Bs×List Sc)
def qAq:Rg→Bs→Option (List Sc)
  |[],_=>none
  |(y,l)::r,x=>if y=x then some l else qAq r x
def qCh:Rg→Bs→List Sc→Rg
  |[],x,l=>[(x,l)]
  |(y,k)::r,x,l=>if y=x then (x,l)::r else if x<y then (x,l)::(y,k)::r else (y,k)::qCh r x l
def rgAt (G:Rg) (x:Bs):List Sc:=(qAq G x).getD []
open Classical in
noncomputable def qBf (G:Rg) (x:Bs) (s:Sc):Rg×Int×Int:=
  if isNm x=false then (G,0,130)
  else if scOk s.1 s.2=false∨s.2=[] then (G,0,2)
  else if (rgAt G x).getLast?=some s then (G,(rgAt G x).length,0)
  else if (rgAt G x).length=64∨(qAq G x=none∧G.length=16) then (G,0,5)
  else if qAu (rgAt G x++[s])=0 then (qCh G x (rgAt G x++[s]),((rgAt G x).length:Int)+1,0)
  else (G,0,120)
structure RgOk (G:Rg):Prop where
  up:G.Pairwise (fun p q=>p.1<q.1)
  nm:∀p∈G,isNm p.1=true
  ne:∀p∈G,p.2≠[]
  few:∀p∈G,p.2.length≤64
  ch:∀p∈G,qAu p.2=0
  ky:∀p∈G,∀s∈p.2,s.2≠[]
  len:G.length≤16
theorem qGz:RgOk []:=⟨List.Pairwise.nil,by simp,by simp,by simp,by simp,by simp,by simp⟩
theorem qUm {x y:Bs} (h1:¬x<y) (h2:y≠x):y<x:=by
 rcases List.le_iff_lt_or_eq.1 (List.not_lt.1 h1) with h|h
 · exact h
 · exact absurd h h2
theorem qEg:∀{G:Rg} {x:Bs} {l:List Sc},qAq G x=some l→(x,l)∈G
  | (y,k)::r,x,l,h=>by
   unfold qAq at h
   split at h
   · rename_i e
     cases h
     subst e;exact List.mem_cons_self
   · exact List.mem_cons_of_mem _ (qEg h)
theorem qCl:∀(G:Rg) (x z:Bs) (l:List Sc),qAq (qCh G x l) z=if z=x then some l else qAq G z
  |[],x,z,l=>by
   unfold qCh qAq
   by_cases e:z=x
   · rw[if_pos e,if_pos e.symm]
   · rw[if_neg e,if_neg (fun h=>e h.symm)];rfl
  | (y,k)::r,x,z,l=>by
   unfold qCh
   by_cases e1:y=x
   · rw[if_pos e1];subst e1;unfold qAq
     by_cases e:z=y
     · rw[if_pos e,if_pos e.symm]
     · rw[if_neg e,if_neg (fun h=>e h.symm),if_neg (fun h=>e h.symm)]
   · rw[if_neg e1]
     by_cases e2:x<y
     · rw[if_pos e2]
       show(if x=z then some l else qAq ((y,k)::r) z)=_
       by_cases e:z=x
       · rw[if_pos e,if_pos e.symm]
       · rw[if_neg e,if_neg (fun h=>e h.symm)]
     · rw[if_neg e2]
       show(if y=z then some k else qAq (qCh r x l) z)=if z=x then some l else (if y=z then some k else qAq r z)
       rw[qCl r x z l]
       by_cases e:z=x
       · rw[if_pos e,if_pos e,if_neg (fun h=>e1 (h.trans e))]
       · rw[if_neg e,if_neg e]
theorem qCu:∀{G:Rg} {x:Bs} {l:List Sc} {p:Bs×List Sc},p∈qCh G x l→p=(x,l)∨p∈G
  |[],x,l,p,h=>by simpa[qCh] using h
  | (y,k)::r,x,l,p,h=>by
   unfold qCh at h
   split at h
   · rcases List.mem_cons.1 h with h|h
     · exact .inl h
     · exact .inr (List.mem_cons_of_mem _ h)
   · split at h
     · rcases List.mem_cons.1 h with h|h
       · exact .inl h
       · exact .inr h
     · rcases List.mem_cons.1 h with h|h
       · exact .inr (h▸List.mem_cons_self)
       · rcases qCu h with h|h
         · exact .inl h
         · exact .inr (List.mem_cons_of_mem _ h)
theorem qMc:∀{G:Rg} (x:Bs) (l:List Sc),G.Pairwise (fun p q=>p.1<q.1)→(qCh G x l).Pairwise (fun p q=>p.1<q.1)
  |[],x,l,_=>by unfold qCh;exact List.pairwise_singleton _ _
  | (y,k)::r,x,l,h=>by
   obtain⟨h1,h2⟩:=List.pairwise_cons.1 h;unfold qCh
   split
   · rename_i e
     subst e;exact List.pairwise_cons.2 ⟨h1,h2⟩
   · rename_i e
     split
     · rename_i hl
       refine List.pairwise_cons.2 ⟨fun q hq=>?_,h⟩
       rcases List.mem_cons.1 hq with rfl|hq
       · exact hl
       · exact List.lt_trans hl (h1 q hq)
     · rename_i hl
       refine List.pairwise_cons.2 ⟨fun q hq=>?_,qMc x l h2⟩
       rcases qCu hq with rfl|hq
       · exact qUm hl e
       · exact h1 q hq
theorem qH4 {G:Rg} {x:Bs}:qAq G x=none↔∀p∈G,p.1≠x:=by
 induction G with
 |nil=>simp[qAq]
 |cons p r ih=>
  obtain⟨y,k⟩:=p
  show(if y=x then some k else qAq r x)=none↔_
  by_cases e:y=x
  · simp[e]
  · rw[if_neg e,ih]
    simp[e]
theorem qEa:∀{G:Rg} (x:Bs) (l:List Sc),G.Pairwise (fun p q=>p.1<q.1)→(qCh G x l).length=if (qAq G x).isNone=true then G.length+1 else G.length
  |[],x,l,_=>by simp[qCh,qAq]
  | (y,k)::r,x,l,h=>by
   obtain⟨h1,h2⟩:=List.pairwise_cons.1 h;unfold qCh
   show _=if (if y=x then some k else qAq r x).isNone=true then _ else _
   by_cases e:y=x
   · rw[if_pos e,if_pos e,if_neg (by simp)];rfl
   · rw[if_neg e,if_neg e]
     by_cases hl:x<y
     · rw[if_pos hl,if_pos (Option.isNone_iff_eq_none.2 (qH4.2 fun q hq e2=>by
         have h3:=h1 q hq;simp only at h3;rw[e2] at h3
         exact List.lt_irrefl x (List.lt_trans hl h3)))]
       rfl
     · rw[if_neg hl,List.length_cons,qEa x l h2]
       split <;> rfl
theorem qGy {G:Rg} {x:Bs} (h:rgAt G x≠[]):(x,rgAt G x)∈G:=by
 unfold rgAt at h ⊢
 cases hl:qAq G x with
 |none=>rw[hl] at h;exact absurd rfl h
 |some l=>exact qEg hl
theorem RgOk.put {G:Rg} (h:RgOk G) {x:Bs} {s:Sc} (hx:isNm x=true) (hk:s.2≠[]) (hn:(rgAt G x).length≠64) (hf:¬(qAq G x=none∧G.length=16)) (hc:qAu (rgAt G x++[s])=0):RgOk (qCh G x (rgAt G x++[s])):=by
 have hm:∀t∈rgAt G x,(x,rgAt G x)∈G:=fun t ht=>qGy (List.ne_nil_of_mem ht)
 refine⟨qMc _ _ h.up,?_,?_,?_,?_,?_,?_⟩
 · intro p hp;rcases qCu hp with rfl|hp
   · exact hx
   · exact h.nm p hp
 · intro p hp;rcases qCu hp with rfl|hp
   · simp
   · exact h.ne p hp
 · intro p hp;rcases qCu hp with rfl|hp
   · rw[List.length_append]
     by_cases e:rgAt G x=[]
     · rw[e];show 0+1≤64;omega
     · have:=h.few _ (qGy e);simp only at this
       show(rgAt G x).length+1≤64
       omega
   · exact h.few p hp
 · intro p hp;rcases qCu hp with rfl|hp
   · exact hc
   · exact h.ch p hp
 · intro p hp;rcases qCu hp with rfl|hp
   · intro t ht
     rcases List.mem_append.1 ht with ht|ht
     · exact h.ky _ (hm t ht) t ht
     · rw[List.mem_singleton.1 ht];exact hk
   · exact h.ky p hp
 · rw[qEa _ _ h.up];have:=h.len
   by_cases e:qAq G x=none
   · rw[if_pos (by rw[e];rfl)]
     have:G.length≠16:=fun e2=>hf ⟨e,e2⟩
     omega
   · rw[if_neg (fun h2=>e (Option.isNone_iff_eq_none.1 h2))];exact this
theorem RgOk.add {G:Rg} (h:RgOk G) (x:Bs) (s:Sc):RgOk (qBf G x s).1:=by
 unfold qBf
 split
 · exact h
 · rename_i hx
   split
   · exact h
   · rename_i hs
     split
     · exact h
     · split
       · exact h
       · rename_i hl
         split
         · rename_i hc
           exact h.put (by simpa using hx) (fun e=>hs (.inr e)) (fun e=>hl (.inl e)) (fun e=>hl (.inr e)) hc
         · exact h
theorem qW7 {G:Rg} {x:Bs} {s:Sc} {G':Rg} {n e:Int} (h:qBf G x s=(G',n,e)) (z:Bs):rgAt G' z=if z=x∧n=((rgAt G x).length:Int)+1 then rgAt G x++[s] else rgAt G z:=by
 unfold qBf at h
 have key:∀m:Int,0≤m→m≤(rgAt G x).length→rgAt G z=if z=x∧m=((rgAt G x).length:Int)+1 then rgAt G x++[s] else rgAt G z:=fun m h0 h1=>by rw[if_neg (fun h=>by omega)]
 split at h
 · cases h;exact key 0 (by omega) (by omega)
 · split at h
   · cases h;exact key 0 (by omega) (by omega)
   · split at h
     · cases h;exact key _ (by omega) (by omega)
     · split at h
       · cases h;exact key 0 (by omega) (by omega)
       · split at h
         · cases h
           unfold rgAt;rw[qCl]
           by_cases e:z=x
           · rw[if_pos e,if_pos ⟨e,rfl⟩];rfl
           · rw[if_neg e,if_neg (fun h=>e h.1)]
         · cases h;exact key 0 (by omega) (by omega)
end Go.Ms
namespace Go.Ms
open Go.Lib
theorem qAj {l:Bs} {p:Nat} {c:UInt8} {r:Bs} (h:l.drop p=c::r):p<l.length∧bt l p=c.toNat∧l.drop (p+1)=r:=by
 have hp:p<l.length:=by
  rcases Nat.lt_or_ge p l.length with h1|h1
  · exact h1
  · rw[List.drop_of_length_le h1] at h;cases h
 rw[List.drop_eq_getElem_cons hp] at h
 injection h with h1 h2
 refine⟨hp,?_,h2⟩;unfold bt
 rw[List.getD_eq_getElem?_getD,List.getElem?_eq_getElem hp,←h1];rfl
theorem qMx {l q r:Bs} {p:Nat} (h:l.drop p=q++r):l.drop (p+q.length)=r:=by
 rw[←List.drop_drop,h];simp
theorem qC4 {l:Bs} {p:Nat} {c:UInt8} {r:Bs} (h:l.drop p=c::r):qAn l p 0=(((c.toNat:Nat):Int),p+1,(0:Int)):=by
 obtain⟨h1,h2,_⟩:=qAj h;unfold qAn;rw[if_pos rfl,if_neg (by omega),h2]
theorem qI4 {l:Bs} {p:Nat} (hp:p≤l.length) (h:l.drop p=[]):qAn l p 0=((0:Int),p,(3:Int)):=by
 have:p=l.length:=by
  have:=congrArg List.length h;simp at this;omega
 unfold qAn;rw[if_pos rfl,if_pos this]
theorem qMi (l:Bs) (p:Nat) {e:Int} (he:e≠0):qAn l p e=((0:Int),p,e):=by
 unfold qAn;rw[if_neg he]
theorem qDp {e x:Int} (he:e≠0):qBv e x=e:=by unfold qBv;rw[if_neg he]
theorem qU7:hexv 0=16:=by decide
theorem qCn {l:Bs} {p:Nat} {c:UInt8} {r:Bs} (h:l.drop p=c::r) (hc:hexv c.toNat≠16):qAs l p 0=(hexv c.toNat,p+1,(0:Int)):=by
 unfold qAs;rw[qC4 h]
 simp only
 rw[if_neg hc]
theorem qFc {l:Bs} {p:Nat} (hp:p≤l.length) (h:l.drop p=[]):qAs l p 0=((0:Int),p,(3:Int)):=by
 unfold qAs;rw[qI4 hp h]
 simp only
 rw[if_pos qU7,qDp (by omega)]
theorem qB5 (l:Bs) (p:Nat) {e:Int} (he:e≠0):qAs l p e=((0:Int),p,e):=by
 unfold qAs;rw[qMi l p he]
 simp only
 rw[if_pos qU7,qDp he]
def num4 (a b c d:Int):Int:=16*(16*(16*a+b)+c)+d
def qH6 (second:Bool) (a b:Int):Prop:= ¬(second=true∧¬a=13)∧second=decide (220≤16*a+b∧16*a+b≤223)
theorem qJf {l:Bs} {p:Nat} {c1 c2 c3 c4:UInt8} {r:Bs} (second:Bool) (h:l.drop p=c1::c2::c3::c4::r)
    (k1:hexv c1.toNat≠16) (k2:hexv c2.toNat≠16) (k3:hexv c3.toNat≠16) (k4:hexv c4.toNat≠16) (ho:qH6 second (hexv c1.toNat) (hexv c2.toNat)) :
    qA9 l second p 0=(num4 (hexv c1.toNat) (hexv c2.toNat) (hexv c3.toNat) (hexv c4.toNat),p+4,(0:Int)):=by
 have e1:=(qAj h).2.2;have e2:=(qAj e1).2.2;have e3:=(qAj e2).2.2
 have g0:h0 l second p 0=(hexv c1.toNat,p+1,(0:Int)):=by
  unfold h0;rw[qCn h k1];simp only;rw[if_neg ho.1]
 have g1:h1 l second p 0=(16*hexv c1.toNat+hexv c2.toNat,p+2,(0:Int)):=by
  unfold h1;rw[g0];simp only;rw[qCn e1 k2];simp only;rw[if_pos ho.2]
 have g2:h2 l second p 0=(16*(16*hexv c1.toNat+hexv c2.toNat)+hexv c3.toNat,p+3,(0:Int)):=by
  unfold h2;rw[g1];simp only;rw[qCn e2 k3]
 unfold qA9;rw[g2]
 simp only
 rw[qCn e3 k4];rfl
theorem qGv (l:Bs) (second:Bool) (p:Nat) {e:Int} (he:e≠0):(qA9 l second p e).2.2=e∧(qA9 l second p e).2.1=p:=by
 have g0:(h0 l second p e).2.2=e∧(h0 l second p e).2.1=p:=by
  unfold h0;rw[qB5 l p he];simp only;refine⟨?_,trivial⟩;split
  · exact qDp he
  · rfl
 have g1:(h1 l second p e).2.2=e∧(h1 l second p e).2.1=p:=by
  unfold h1;rw[g0.1,g0.2,qB5 l p he];simp only;refine⟨?_,trivial⟩;split
  · rfl
  · exact qDp he
 have g2:(h2 l second p e).2.2=e∧(h2 l second p e).2.1=p:=by
  unfold h2;rw[g1.1,g1.2,qB5 l p he];exact⟨rfl,rfl⟩
 unfold qA9;rw[g2.1,g2.2,qB5 l p he];exact⟨rfl,rfl⟩
theorem qJg {l:Bs} {p:Nat} {c:UInt8} {r:Bs} (h:l.drop p=c::r):qA2 l c.toNat p 0=(p+1,(0:Int)):=by
 unfold qA2;rw[qC4 h];simp
theorem qMf {l:Bs} {p:Nat} {x:Int} (hp:p≤l.length) (h:l.drop p=[]) (hx:x≠0):qA2 l x p 0=(p,(3:Int)):=by
 unfold qA2;rw[qI4 hp h];simp only;rw[if_neg (Ne.symm hx)];rfl
theorem qMm (l:Bs) (x:Int) (p:Nat) {e:Int} (he:e≠0):qA2 l x p e=(p,e):=by
 unfold qA2;rw[qMi l p he];simp only;split
 · rfl
 · rw[qDp he]
inductive Part:Bs→Bs→Prop
  |rune (r:Int) (h:qCk r=true) (h1:32≤r) (h2:r≠34) (h3:r≠92):Part (encodeRune r) (encodeRune r)
  |slash:Part [92,47] [47]
  |short (c:UInt8) (k:Int) (h:qFi c.toNat=some k):Part [92,c] (encodeRune k)
  |four (c1 c2 c3 c4:UInt8) (k1:hexv c1.toNat≠16) (k2:hexv c2.toNat≠16) (k3:hexv c3.toNat≠16) (k4:hexv c4.toNat≠16)
      (ho:qH6 false (hexv c1.toNat) (hexv c2.toNat)) (hn:¬(55296≤num4 (hexv c1.toNat) (hexv c2.toNat) (hexv c3.toNat) (hexv c4.toNat)∧num4 (hexv c1.toNat) (hexv c2.toNat) (hexv c3.toNat) (hexv c4.toNat)<56320)) :
      Part [92,117,c1,c2,c3,c4] (encodeRune (num4 (hexv c1.toNat) (hexv c2.toNat) (hexv c3.toNat) (hexv c4.toNat)))
  |pair (c1 c2 c3 c4 d1 d2 d3 d4:UInt8) (k1:hexv c1.toNat≠16) (k2:hexv c2.toNat≠16) (k3:hexv c3.toNat≠16) (k4:hexv c4.toNat≠16)
      (j1:hexv d1.toNat≠16) (j2:hexv d2.toNat≠16) (j3:hexv d3.toNat≠16) (j4:hexv d4.toNat≠16)
      (ho:qH6 false (hexv c1.toNat) (hexv c2.toNat)) (hn:55296≤num4 (hexv c1.toNat) (hexv c2.toNat) (hexv c3.toNat) (hexv c4.toNat)∧num4 (hexv c1.toNat) (hexv c2.toNat) (hexv c3.toNat) (hexv c4.toNat)<56320)
      (hp:qH6 true (hexv d1.toNat) (hexv d2.toNat)) :
      Part [92,117,c1,c2,c3,c4,92,117,d1,d2,d3,d4]
        (encodeRune (65536+(num4 (hexv c1.toNat) (hexv c2.toNat) (hexv c3.toNat) (hexv c4.toNat)-55296)*1024+num4 (hexv d1.toNat) (hexv d2.toNat) (hexv d3.toNat) (hexv d4.toNat)-56320))
theorem qMw {r:Int} (h:qCk r=true):∃c t,encodeRune r=c::t∧(r≤127→((c.toNat:Nat):Int)=r)∧(128≤r→128≤c.toNat):=by
 have hl:=qAv r;obtain⟨c,t,e⟩:=List.exists_cons_of_ne_nil (l:=encodeRune r) (by intro e;rw[e] at hl;simp at hl);refine⟨c,t,e,fun h1=>?_,fun h1=>?_⟩
 · have hb:=(qAw r).1 h;rw[qDk (by omega) h1] at e
   injection e with e1 _
   rw[←e1];exact qIm (by omega) h1
 · exact qL9 h h1 c (by rw[e];simp)
theorem qRq {c k:Int} (h:qFi c=some k):c≠47∧c≠117∧0≤k∧k<128:=by
 unfold qFi at h
 repeat' split at h
 all_goals first|(cases h;done)|(injection h with h;omega)
theorem qTr {l q t rest:Bs} (hq:Part q t) {p n:Nat} {acc:Bs} (h:l.drop p=q++rest):uqGo l (n+1) acc p 0=uqGo l n (acc++t) (p+q.length) 0:=by
 cases hq with
 | rune r hr h1 h2 h3=>
  obtain⟨c,tl,e,ea,eh⟩:=qMw hr;have hc:=h;rw[e,List.cons_append] at hc;obtain⟨g1,g2,_⟩:=qAj hc;have hb:=(qAw r).1 hr
  have hx:32≤c.toNat∧c.toNat≠34∧c.toNat≠92:=by
   by_cases c1:r≤127
   · have:=ea c1;omega
   · have:=eh (by omega);omega
  rw[qBd,if_pos rfl,if_neg (by omega),if_neg (by omega),if_neg (by omega)];have hn:=qJ1 r rest hr
  have hp:qA6 l p 0=(encodeRune r,p+(encodeRune r).length,(0:Int)):=by
   unfold qA6;rw[if_neg (by omega),h,hn]
   simp
  rw[hp]
 | slash=>
  obtain⟨g1,g2,g3⟩:=qAj h;rw[qBd,if_pos rfl,if_neg (by omega),if_neg (by rw[g2];decide),if_pos (by rw[g2];rfl)]
  have he:qAp l (p+1) 0=([47],p+2,(0:Int)):=by
   unfold qAp;simp only[qC4 g3];rfl
  rw[he];rfl
 | short c k hk=>
  obtain⟨g1,g2,g3⟩:=qAj h;rw[qBd,if_pos rfl,if_neg (by omega),if_neg (by rw[g2];decide),if_pos (by rw[g2];rfl)]
  have he:qAp l (p+1) 0=(encodeRune k,p+2,(0:Int)):=by
   unfold qAp;simp only[qC4 g3];rw[if_neg (qRq hk).1,hk]
  rw[he];rfl
 | four c1 c2 c3 c4 k1 k2 k3 k4 ho hn=>
  obtain⟨g1,g2,g3⟩:=qAj h;obtain⟨_,_,g4⟩:=qAj g3;rw[qBd,if_pos rfl,if_neg (by omega),if_neg (by rw[g2];decide),if_pos (by rw[g2];rfl)];have hh:=qJf false g4 k1 k2 k3 k4 ho
  have he:qAp l (p+1) 0=(encodeRune (num4 (hexv c1.toNat) (hexv c2.toNat) (hexv c3.toNat) (hexv c4.toNat)),p+6,(0:Int)):=by
   unfold qAp qDv;simp only[qC4 g3];rw[if_neg (by decide)];simp only[show(((117:UInt8).toNat:Nat):Int)=117 from rfl,if_true,show qFi 117=none from by decide];rw[hh]
   simp only
   rw[if_neg hn];rfl
  rw[he];rfl
 | pair c1 c2 c3 c4 d1 d2 d3 d4 k1 k2 k3 k4 j1 j2 j3 j4 ho hn hp=>
  obtain⟨g1,g2,g3⟩:=qAj h;obtain⟨_,_,g4⟩:=qAj g3
  have g5:l.drop (p+1+1+4)=92::117::d1::d2::d3::d4::rest:=by
   have:=qMx (q:=[c1,c2,c3,c4]) (r:=92::117::d1::d2::d3::d4::rest) (p:=p+1+1) (l:=l) (by rw[g4];rfl);exact this
  obtain⟨_,_,g6⟩:=qAj g5;obtain⟨_,_,g7⟩:=qAj g6;rw[qBd,if_pos rfl,if_neg (by omega),if_neg (by rw[g2];decide),if_pos (by rw[g2];rfl)];have hh:=qJf false g4 k1 k2 k3 k4 ho;have hh2:=qJf true g7 j1 j2 j3 j4 hp;have w1:qA2 l 92 (p+1+1+4) 0=(p+1+1+4+1,(0:Int)):=qJg g5;have w2:qA2 l 117 (p+1+1+4+1) 0=(p+1+1+4+1+1,(0:Int)):=qJg g6
  have he:qAp l (p+1) 0=(encodeRune (65536+(num4 (hexv c1.toNat) (hexv c2.toNat) (hexv c3.toNat) (hexv c4.toNat)-55296)*1024+num4 (hexv d1.toNat) (hexv d2.toNat) (hexv d3.toNat) (hexv d4.toNat)-56320),p+12,(0:Int)):=by
   unfold qAp qDv rdPair;simp only[qC4 g3];rw[if_neg (by decide)];simp only[show(((117:UInt8).toNat:Nat):Int)=117 from rfl,if_true,show qFi 117=none from by decide];rw[hh]
   simp only
   rw[if_pos hn,w1]
   simp only
   rw[w2]
   simp only
   rw[hh2]
   simp
  rw[he];rfl
end Go.Ms
namespace Go.Ms
open Go.Lib
inductive Lits:Nat→Bs→Bs→Prop
  |nil:Lits 0 [] []
  |cons {n:Nat} {q t q' t':Bs} (h:Part q t) (h':Lits n q' t'):Lits (n+1) (q++q') (t++t')
theorem Part.pos {q t:Bs} (h:Part q t):1≤q.length:=by
 cases h
 case rune r _ _ _ _=>exact(qAv r).1
 all_goals simp
theorem Lits.le {k:Nat} {q t:Bs} (h:Lits k q t):k≤q.length:=by
 induction h with
 |nil=>simp
 |cons h _ ih=>have:=h.pos;simp only[List.length_append];omega
theorem Lits.one {q t:Bs} (h:Part q t):Lits 1 q t:=by
 have:=Lits.cons h .nil
 simpa using this
theorem qS5 (l:Bs) (n:Nat) (acc:Bs) (p:Nat) {e:Int} (he:e≠0):uqGo l (n+1) acc p e=([],0,e):=by
 rw[qBd,if_neg he]
end Go.Ms
namespace Go.Ms
open Go.Lib
theorem qSo (M:Nat):∀(l r:Bs) (acc:Nat),parseUintM M acc (l++r)=match parseUintM M acc l with
    | .ok a=>parseUintM M a r
    |e=>e
  |[],r,acc=>rfl
  |c::l,r,acc=>by
   rw[List.cons_append,parseUintM,parseUintM]
   split
   · split
     · rfl
     · split
       · rfl
       · exact qSo M l r _
   · rfl
theorem qVd:∀(u:Nat),u≤18446744073709551615→parseUintM 18446744073709551615 0 (decDigits u)=.ok u:=by
 intro u
 induction u using Nat.strongRecOn with
 |_ u ih=>
  intro hu
  by_cases h:u<10
  · rw[decDigits,dif_pos h]
    have e:(UInt8.ofNat (48+u)).toNat=48+u:=by simp;omega
    simp only[parseUintM,e];rw[if_pos ⟨by omega,by omega⟩,if_neg (by omega),if_neg (by omega)]
    congr 1;omega
  · rw[decDigits,dif_neg h,qSo,ih (u/10) (by omega) (by omega)]
    have e:(UInt8.ofNat (48+u%10)).toNat=48+u%10:=by simp;omega
    simp only[parseUintM,e];rw[if_pos ⟨by omega,by omega⟩,if_neg (by omega),if_neg (by omega)]
    congr 1;omega
theorem qU5 (u:Nat):decDigits u≠[]:=by
 rw[decDigits];split <;> simp
theorem qSk (u:Nat):∃c r,decDigits u=c::r∧48≤c.toNat∧c.toNat≤57:=by
 induction u using Nat.strongRecOn with
 |_ u ih=>
  by_cases h:u<10
  · rw[decDigits,dif_pos h]
    have e:(UInt8.ofNat (48+u)).toNat=48+u:=by simp;omega
    exact⟨_,_,rfl,by omega,by omega⟩
  · rw[decDigits,dif_neg h];obtain⟨c,r,h1,h2⟩:=ih (u/10) (by omega);rw[h1];exact⟨c,_,rfl,h2⟩
theorem qSt (u:Nat) (h:u≤18446744073709551615):parseUintB 64 (decDigits u)=.ok u:=by
 unfold parseUintB;rw[if_neg (qU5 u),show(2:Nat)^64-1=18446744073709551615 by decide,qVd u h]
end Go.Ms
namespace Go.Ms
open Go.Lib
end Go.Ms
namespace Go.Ms
open Go.Lib
end Go.Ms
