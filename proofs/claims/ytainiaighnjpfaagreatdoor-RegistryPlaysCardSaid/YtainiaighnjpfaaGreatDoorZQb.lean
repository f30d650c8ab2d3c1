/- Schemas, plainly: what is a name, what may be, the text of a schema, and how a text is read. Schemas, plainly: what may be, said place by place. Schemas that follow each other, plainly. Schemas that follow each other, plainly: a row carried along a chain is what it is if it is moved at once. Registries, plainly: subjects by rising names, each with the versions of a schema. Registries by definition, plainly: where a subject stands. -/
import Derived.Test.YtainiaighnjpfaaGreatDoorZQa
set_option linter.unusedVariables false
set_option linter.unusedSimpArgs false
namespace Go.Ms
open Go.RowKit Go.Lib
abbrev Co:=Int×ByteArray×Ty×Cl
def coV (c:Co):List Value:=[.int .i64 c.1,.string c.2.1,.int .i64 c.2.2.1.1,.bool c.2.2.1.2,.bool c.2.2.2.1,.int .i64 c.2.2.2.2.1,.string c.2.2.2.2.2]
def colV (l:List Co):List Value:=l.flatMap coV
def coA (c:Co):Value:=.agg #[.int .i64 c.1,.string c.2.1,.int .i64 c.2.2.1.1,.bool c.2.2.1.2,.bool c.2.2.2.1,.int .i64 c.2.2.2.2.1,.string c.2.2.2.2.2]
def zCo:Co:=(0,⟨#[]⟩,(0,false),(false,0,⟨#[]⟩))
def qCs (c:UInt8):Bool:=decide (97≤c.toNat)&&decide (c.toNat≤122)
def qDg (c:UInt8):Bool:=qCs c||(decide (48≤c.toNat)&&decide (c.toNat≤57))||decide (c.toNat=95)
def isNm (s:Bs):Bool:=decide (1≤s.length)&&decide (s.length≤32)&&qCs (s.getD 0 0)&&s.all qDg
def qEh:List Int→Int→Int→Bool
  |[],_,_=>true
  |n::r,lo,hi=>decide (lo≤n)&&decide (n≤hi)&&qEh r (n+1) hi
def coOk (c:Co):Bool:=isNm c.2.1.data.toList&&decide (qDw c.2.2.1 c.2.2.2=0)
def qFb (l:List Co):List ByteArray:=l.map fun c=>c.2.1
def qDz (l:List Co):List Int:=l.map fun c=>c.1
def qF6 (l:List Co):List Ty:=l.map fun c=>c.2.2.1
def qO5 (cs:List Co) (k:Int):Bool:= !(cs.getD k.toNat zCo).2.2.1.2
def scOk (cs:List Co) (ks:List Int):Bool:=
  cs.all coOk&&decide (1≤cs.length)&&decide (cs.length≤32)&&decide ((qFb cs).Nodup)&&qEh (qDz cs) 1 1048576 &&
    decide (ks.length≤8)&&qEh ks 0 (cs.length-1)&&ks.all (qO5 cs)
def qAm (cs:List Co) (ks:List Int):Int:=if scOk cs ks=true then 0 else 2
def qDf (p:Co→Bool) (l:List Co):Nat×Bool:=match l.findIdx? p with
 |some i=>(i,true)
 |none=>(0,false)
def qDv (k:Int):Bs:=if k=1 then [98,111,111,108] else if k=2 then [105,110,116,51,50] else if k=3 then [105,110,116,54,52] else if k=4 then [115,116,114,105,110,103] else if k=5 then [98,121,116,101,115] else []
def zBq (c:Co):Bs:=qBy c.2.2.1.1 c.2.2.1.2 c.2.2.2.1 c.2.2.2.2.1 c.2.2.2.2.2.data.toList
def cutAt (c:UInt8):Bs→Option (Bs×Bs)
  |[]=>none
  |b::r=>if b=c then some ([],r) else match cutAt c r with
   |some x=>some (b::x.1,x.2)
   |none=>none
def idOf (s:Bs):Int:=if itoa (qId s)=s∧0≤qId s∧qId s≤1048576 then qId s else -1
def qBc (c:UInt8) (s:Bs):Bs×Bool:=if s.getLast?=some c then (s.dropLast,true) else (s,false)
def kindOf (w:Bs):Int:=if w=qDv 1 then 1 else if w=qDv 2 then 2 else if w=qDv 3 then 3 else if w=qDv 4 then 4 else if w=qDv 5 then 5 else 0
def qFi (a b k t:Bs):Option (Co×Bool):=
  if isNm b=true∧0≤idOf a∧1≤kindOf (qBc 63 (qBc 42 k).1).1∧(qBr (kindOf (qBc 63 (qBc 42 k).1).1) (qBc 63 (qBc 42 k).1).2 t).2=0 then
    some ((idOf a,⟨b.toArray⟩,(kindOf (qBc 63 (qBc 42 k).1).1,(qBc 63 (qBc 42 k).1).2),unCl (qBr (kindOf (qBc 63 (qBc 42 k).1).1) (qBc 63 (qBc 42 k).1).2 t).1),(qBc 42 k).2)
  else none
def qGa (s:Bs):Option (Co×Bool):=match cutAt 32 s with
 |none=>none
 | some x=>match cutAt 32 x.2 with
  |none=>none
  |some y=>match cutAt 32 y.2 with
   |none=>none
   |some z=>qFi x.1 y.1 z.1 z.2
def qBh:Bs→List Bs×Bs
  |[]=>([],[])
  |c::r=>if c=10 then ([]::(qBh r).1,(qBh r).2) else match (qBh r).1 with
   |[]=>([],c::(qBh r).2)
   |l::ls=>((c::l)::ls,(qBh r).2)
def readAll:List Co→List Int→List Bs→List Co×List Int×Bool
  |cs,ks,[]=>(cs,ks,true)
  |cs,ks,l::ls=>match qGa l with
   |none=>(cs,ks,false)
   |some x=>readAll (cs++[x.1]) (if x.2=true then ks++[(cs.length:Int)] else ks) ls
def qCh (s:Bs):List Co×List Int×Bool:=
  ((readAll [] [] (qBh s).1).1,(readAll [] [] (qBh s).1).2.1,(readAll [] [] (qBh s).1).2.2&&decide ((qBh s).2=[]))
def qCo (s:Bs):List Co×List Int×Nat×Int:=
  if 1048576<s.length then ([],[],0,5)
  else if (qCh s).2.2=true then (if scOk (qCh s).1 (qCh s).2.1=true then ((qCh s).1,(qCh s).2.1,0,0) else ([],[],0,2))
  else ([],[],(qCh s).1.length,4)
theorem cell_of_block {w:World} {b i:Nat} {cs:Array Value} {T:TypeId} {v:Value} (h:w.heap[b]?=some (.cells cs T (0,0))) (hv:cs[i]?=some v):w.cell? ⟨b,i,none⟩=some v:=by
 simp[World.cell?,h,hv]
theorem qAd (w:World) (o:Obj):(w.alloc o).heap[w.heap.size]?=some o:=by
 show(w.heap.push o)[w.heap.size]?=some o
 simp
theorem qCd {w:World} {b:Nat} {o:Obj} (h:w.heap[b]?=some o) (o':Obj):(w.alloc o').heap[b]?=some o:=
  (Below.heap_alloc w o' b (Array.getElem?_eq_some_iff.1 h).1).trans h
theorem qAn {w w':World} {b:Nat} {o:Obj} (h:w.heap[b]?=some o) (hb:Below w.heap.size w w'):w'.heap[b]?=some o:=
  (hb.block b (Array.getElem?_eq_some_iff.1 h).1).trans h
theorem qD7 (l:List Co):(colV l).length=l.length*7:=by
 induction l with
 |nil=>rfl
 |cons a t ih=>show(coV a++colV t).length=_;rw[List.length_append,ih,List.length_cons];simp[coV];omega
theorem qXa (l m:List Co):colV (l++m)=colV l++colV m:=List.flatMap_append
theorem qI2:∀(l:List Co) (i:Nat) (c:Co),l[i]?=some c→∀(j:Nat) (u:Value),(coV c)[j]?=some u→(colV l)[i*7+j]?=some u
  |[],i,c,h,j,u,hu=>by simp at h
  |a::t,0,c,h,j,u,hu=>by
   have h:a=c:=by simpa using h
   subst h;have hj:j<(coV a).length:=(List.getElem?_eq_some_iff.1 hu).1;show(coV a++colV t)[0*7+j]?=_
   rw[List.getElem?_append_left (by omega),Nat.zero_mul,Nat.zero_add];exact hu
  |a::t,i+1,c,h,j,u,hu=>by
   have ih:=qI2 t i c (by simpa using h) j u hu;show(coV a++colV t)[(i+1)*7+j]?=_
   rw[List.getElem?_append_right (by simp[coV];omega),←ih];congr 1
   simp[coV];omega
theorem qG5 (l:List Co):∀u∈colV l,u.oneCell'=true:=by
 intro u hu;obtain⟨c,_,hc⟩:=List.mem_flatMap.1 hu;simp[coV] at hc;rcases hc with rfl|rfl|rfl|rfl|rfl|rfl|rfl <;> rfl
theorem Lay.co {w:World} {B:Nat} {A:Option Addr} {l:List Co} {i:Nat} {c:Co} (h:Lay w B A (colV l)) (hi:l[i]?=some c) :
    ∃ g o,A=some ⟨g,o,none⟩∧g<B∧w.cell? ⟨g,o+i*7,none⟩=some (.int .i64 c.1)∧w.cell? ⟨g,o+i*7+1,none⟩=some (.string c.2.1)∧w.cell? ⟨g,o+i*7+2,none⟩=some (.int .i64 c.2.2.1.1)∧w.cell? ⟨g,o+i*7+3,none⟩=some (.bool c.2.2.1.2)∧
      w.cell? ⟨g,o+i*7+4,none⟩=some (.bool c.2.2.2.1)∧w.cell? ⟨g,o+i*7+5,none⟩=some (.int .i64 c.2.2.2.2.1)∧w.cell? ⟨g,o+i*7+6,none⟩=some (.string c.2.2.2.2.2):=by
 have hl:i<l.length:=(List.getElem?_eq_some_iff.1 hi).1;obtain⟨g,o,e,hb,hc⟩:=h.some_ (by rw[qD7];omega);have k:=qI2 l i c hi;exact⟨g,o,e,hb,hc _ _ (k 0 _ rfl),hc _ _ (k 1 _ rfl),hc _ _ (k 2 _ rfl),hc _ _ (k 3 _ rfl),hc _ _ (k 4 _ rfl),hc _ _ (k 5 _ rfl),hc _ _ (k 6 _ rfl)⟩
theorem Lay.cols {w:World} {B:Nat} {A:Option Addr} {l:List Co} (h:Lay w B A (colV l)):Cols w B A (qF6 l) (colV l):=by
 refine⟨by rw[qD7];simp[qF6],h,fun i t ht=>?_⟩;simp only[qF6,List.getElem?_map,Option.map_eq_some_iff] at ht;obtain⟨c,hc,rfl⟩:=ht;exact⟨qI2 l i c hc 2 _ rfl,qI2 l i c hc 3 _ rfl⟩
theorem qDs : ∀ (l:List Int) (lo hi:Int),qEh l lo hi=true↔(∀(i:Nat) x,l[i]?=some x→lo≤x∧x≤hi)∧∀(i:Nat) x y,l[i]?=some x→l[i+1]?=some y→x<y
  |[],lo,hi=>by simp[qEh]
  | n :: r, lo, hi=>by
   have ih:=qDs r (n+1) hi;rw[qEh,Bool.and_eq_true,Bool.and_eq_true,decide_eq_true_eq,decide_eq_true_eq,ih];constructor
   · rintro⟨⟨h1,h2⟩,h3,h4⟩;refine⟨fun i x hx=>?_,fun i x y hx hy=>?_⟩
     · cases i with
      | zero => obtain rfl:n=x:=by simpa using hx
                exact⟨h1,h2⟩
      |succ i=>have:=h3 i x (by simpa using hx);exact⟨by omega,this.2⟩
     · cases i with
      |zero=>
       obtain rfl:n=x:=by simpa using hx
       have:=h3 0 y (by simpa using hy);omega
      |succ i=>exact h4 i x y (by simpa using hx) (by simpa using hy)
   · rintro⟨h1,h2⟩;have h0:=h1 0 n rfl;refine⟨h0,?_,fun i x y hx hy=>h2 (i+1) x y (by simpa using hx) (by simpa using hy)⟩;intro i
     induction i with
     |zero=>intro x hx;have a:=h2 0 n x rfl (by simpa using hx);have b:=h1 1 x (by simpa using hx);exact⟨by omega,b.2⟩
     |succ i ih2=>
      intro x hx;have hl:i+1<r.length:=(List.getElem?_eq_some_iff.1 hx).1;have hp:=ih2 _ (List.getElem?_eq_getElem (by omega:i<r.length));have a:=h2 (i+1) _ x (by simpa using List.getElem?_eq_getElem (by omega:i<r.length)) (by simpa using hx);have b:=h1 (i+2) x (by simpa using hx);exact⟨by omega,b.2⟩
def qFl (cs:List Co):Prop:= ∀(i j:Nat) a b,i<j→cs[i]?=some a→cs[j]?=some b→a.2.1≠b.2.1
theorem qJp (cs:List Co):(qFb cs).Nodup↔qFl cs:=by
 unfold List.Nodup;rw[List.pairwise_iff_getElem];unfold qFl qFb;constructor
 · intro h i j a b hij ha hb;obtain⟨hi,rfl⟩:=List.getElem?_eq_some_iff.1 ha;obtain⟨hj,rfl⟩:=List.getElem?_eq_some_iff.1 hb;have:=h i j (by simpa using hi) (by simpa using hj) hij;rw[List.getElem_map,List.getElem_map] at this;exact this
 · intro h i j hi hj hij;simp only[List.getElem_map];simp only[List.length_map] at hi hj;exact h i j _ _ hij (List.getElem?_eq_getElem hi) (List.getElem?_eq_getElem hj)
structure ScOk (cs:List Co) (ks:List Int):Prop where
  co:∀(i:Nat) c,cs[i]?=some c→isNm c.2.1.data.toList=true∧qDw c.2.2.1 c.2.2.2=0
  one:1≤cs.length
  most:cs.length≤32
  apart:qFl cs
  id:∀(i:Nat) c,cs[i]?=some c→1≤c.1∧c.1≤1048576
  up:∀(i:Nat) a b,cs[i]?=some a→cs[i+1]?=some b→a.1<b.1
  keys:ks.length≤8
  kin:∀(i:Nat) k,ks[i]?=some k→0≤k∧k<cs.length
  kup:∀(i:Nat) a b,ks[i]?=some a→ks[i+1]?=some b→a<b
  full:∀(i:Nat) k c,ks[i]?=some k→cs[k.toNat]?=some c→c.2.2.1.2=false
theorem qFy (cs:List Co) (ks:List Int):scOk cs ks=true↔ScOk cs ks:=by
 unfold scOk;simp only[Bool.and_eq_true,decide_eq_true_eq,qJp,qDs]
 have hid:∀(i:Nat) x,(qDz cs)[i]?=some x↔∃c,cs[i]?=some c∧c.1=x:=fun i x=>by
  unfold qDz;rw[List.getElem?_map,Option.map_eq_some_iff]
 constructor
 · rintro⟨⟨⟨⟨⟨⟨⟨h1,h2⟩,h3⟩,h4⟩,h5,h6⟩,h7⟩,h8,h9⟩,h10⟩;have kin:∀(i:Nat) k,ks[i]?=some k→0≤k∧k<cs.length:=fun i k hk=>by have:=h8 i k hk;omega
   refine⟨fun i c hc=>?_,h2,h3,h4,fun i c hc=>h5 i c.1 ((hid i c.1).2 ⟨c,hc,rfl⟩),fun i a b ha hb=>h6 i a.1 b.1 ((hid _ _).2 ⟨a,ha,rfl⟩) ((hid _ _).2 ⟨b,hb,rfl⟩),h7,kin,h9,fun i k c hk hc=>?_⟩
   · have:=List.all_eq_true.1 h1 c (List.mem_of_getElem? hc);unfold coOk at this
     simpa using this
   · have:=List.all_eq_true.1 h10 k (List.mem_of_getElem? hk);unfold qO5 at this;rw[List.getD_eq_getElem?_getD,hc] at this
     simpa using this
 · intro h;refine⟨⟨⟨⟨⟨⟨⟨List.all_eq_true.2 fun c hc=>?_,h.one⟩,h.most⟩,h.apart⟩,fun i x hx=>?_,fun i x y hx hy=>?_⟩,h.keys⟩,fun i k hk=>?_,h.kup⟩,List.all_eq_true.2 fun k hk=>?_⟩
   · obtain⟨i,hi⟩:=List.getElem?_of_mem hc;have:=h.co i c hi;unfold coOk;simp[this.1,this.2]
   · obtain⟨c,hc,rfl⟩:=(hid i x).1 hx;exact h.id i c hc
   · obtain⟨a,ha,rfl⟩:=(hid i x).1 hx;obtain⟨b,hb,rfl⟩:=(hid _ y).1 hy;exact h.up i a b ha hb
   · have:=h.kin i k hk;omega
   · obtain⟨i,hi⟩:=List.getElem?_of_mem hk;obtain⟨h0,h1⟩:=h.kin i k hi;have hl:k.toNat<cs.length:=by omega
     have:=h.full i k _ hi (List.getElem?_eq_getElem hl);unfold qO5;rw[List.getD_eq_getElem?_getD,List.getElem?_eq_getElem hl]
     simpa using this
theorem qLi {cs:List Co} {ks:List Int} (h:ScOk cs ks):qAm cs ks=0:=by unfold qAm;rw[if_pos ((qFy cs ks).2 h)]
theorem qAo {cs:List Co} {ks:List Int} (h:¬ScOk cs ks):qAm cs ks=2:=by unfold qAm;rw[if_neg (fun e=>h ((qFy cs ks).1 e))]
theorem qTa {p:Co→Bool} {l:List Co} {k:Nat} {c:Co} (hc:l[k]?=some c) (hn:∀(j:Nat) d,j<k→l[j]?=some d→p d=false) (hp:p c=true):qDf p l=(k,true):=by
 unfold qDf
 have:l.findIdx? p=some k:=by
  rw[List.findIdx?_eq_some_iff_getElem];obtain⟨hk,rfl⟩:=List.getElem?_eq_some_iff.1 hc;exact⟨hk,hp,fun j hj=>by have:=hn j _ hj (List.getElem?_eq_getElem (by omega));simpa using this⟩
 rw[this]
theorem qOn {p:Co→Bool} {l:List Co} (hn:∀(j:Nat) d,l[j]?=some d→p d=false):qDf p l=(0,false):=by
 unfold qDf
 have:l.findIdx? p=none:=by
  rw[List.findIdx?_eq_none_iff];intro x hx;obtain⟨i,hi⟩:=List.getElem?_of_mem hx;exact hn i x hi
 rw[this]
abbrev Sc:=List Co×List Int
def qFa (a b:Co):Bool:=decide (a.2.1=b.2.1)&&decide (a.2.2.2=b.2.2.2)&&(a.2.2.1.2==b.2.2.1.2)&&(decide (a.2.2.1.1=b.2.2.1.1)||(decide (a.2.2.1.1=2)&&decide (b.2.2.1.1=3)))
def qB6 (cs:List Co):Int:=(cs.getLast?.map fun c=>c.1).getD 0
def qA6 (s:Sc):List Int:=s.2.map fun k=>(s.1.getD k.toNat zCo).1
def evAt (cs:List Co) (id:Int):Option Nat:=cs.findIdx? fun c=>decide (c.1=id)
def qD0 (cs:List Co) (above:Int) (d:Co):Bool:=match evAt cs d.1 with
 |some k=>qFa (cs.getD k zCo) d
 |none=>decide (above<d.1)
def qBa (a b:Sc) (above:Int):Bool:=b.1.all (qD0 a.1 above)&&decide (qA6 a=qA6 b)
def qC4:Sc→Int→List Sc→Bool
  |_,_,[]=>true
  |p,ab,s::r=>qBa p s ab&&qC4 s (max ab (qB6 s.1)) r
def qAs (l:List Sc):Int:=if 64<l.length then 5 else if (l.all fun s=>scOk s.1 s.2)=true then (match l with
 |[]=>0
 |s::r=>if qC4 s (max 0 (qB6 s.1)) r=true then 0 else 120) else 2
def qA2 (a b:List Co) (r:List Cl):List Cl:=b.map fun d=>match evAt a d.1 with
 |some k=>r.getD k zCl
 |none=>d.2.2.2
def qE5:Sc→List Sc→List Cl→List Cl
  |_,[],r=>r
  |a,b::l,r=>qE5 b l (qA2 a.1 b.1 r)
def zSc:Sc:=([],[])
def qBz (l:List Sc) (f t:Int) (r:List Cl):List Cl×Int:=
  if qAs l=0 then (if f<1∨t<f∨(l.length:Int)<t then ([],131) else if qCj (qF6 (l.getD (f.toNat-1) zSc).1) r=0 then (qE5 (l.getD (f.toNat-1) zSc) ((l.drop f.toNat).take (t-f).toNat) r,0) else ([],qCj (qF6 (l.getD (f.toNat-1) zSc).1) r)) else ([],qAs l)
theorem qHm {cs:List Co} {id:Int} {k:Nat} (h:evAt cs id=some k):∃c,cs[k]?=some c∧c.1=id:=by
 unfold evAt at h;rw[List.findIdx?_eq_some_iff_getElem] at h;obtain⟨h1,h2,_⟩:=h;exact⟨_,List.getElem?_eq_getElem h1,by simpa using h2⟩
theorem qT3 {cs:List Co} {id:Int} (h:evAt cs id=none):∀c∈cs,c.1≠id:=by
 unfold evAt at h;rw[List.findIdx?_eq_none_iff] at h;intro c hc
 simpa using h c hc
def qOs (cs:List Co):Prop:= ∀(j i:Nat) a b,i<j→cs[i]?=some a→cs[j]?=some b→a.1<b.1
theorem zBo {cs:List Co} {ks:List Int} (h:ScOk cs ks):qOs cs:=by
 intro j
 induction j with
 |zero=>intro i a b hij;omega
 |succ j ih=>
  intro i a b hij ha hb;by_cases e:i=j
  · subst e;exact h.up i a b ha hb
  · have hl:=(List.getElem?_eq_some_iff.1 hb).1;have h1:=ih i a _ (by omega) ha (List.getElem?_eq_getElem (by omega));have h2:=h.up j _ b (List.getElem?_eq_getElem (by omega)) hb;omega
theorem qY0 {cs:List Co} (hu:qOs cs) {k:Nat} {c:Co} (h:cs[k]?=some c):evAt cs c.1=some k:=by
 cases he:evAt cs c.1 with
 |none=>exact absurd rfl (qT3 he c (List.mem_of_getElem? h))
 |some j=>
  obtain⟨d,hd,e⟩:=qHm he;rcases Nat.lt_trichotomy j k with h1|h1|h1
  · have:=hu k j d c h1 hd h;omega
  · rw[h1]
  · have:=hu j k c d h1 h hd;omega
theorem qI3 (a b:List Co) (r:List Cl):(qA2 a b r).length=b.length:=by unfold qA2;rw[List.length_map]
theorem qNq:∀(l m:List Sc) (a:Sc) (r:List Cl),qE5 a (l++m) r=qE5 ((a::l).getLast (by simp)) m (qE5 a l r)
  |[],m,a,r=>rfl
  |b::l,m,a,r=>by
   have e:(a::b::l).getLast (by simp)=(b::l).getLast (by simp):=List.getLast_cons (by simp);rw[List.cons_append,qE5,qE5,qNq l m b,e]
theorem qK6:∀(n:Nat) (l:List Sc) (s:Sc) (ab:Int),qC4 s ab l=true→qC4 s ab (l.take n)=true
  |0,l,s,ab,h=>rfl
  |n+1,[],s,ab,h=>rfl
  |n+1,b::l,s,ab,h=>by
   rw[qC4,Bool.and_eq_true] at h;rw[List.take_succ_cons,qC4,Bool.and_eq_true];exact⟨h.1,qK6 n l b _ h.2⟩
theorem qGj {s:Sc} {l:List Sc} (h:qAs (s::l)=0):(s::l).length≤64∧(∀t∈s::l,scOk t.1 t.2=true)∧qC4 s (max 0 (qB6 s.1)) l=true:=by
 unfold qAs at h;split at h
 · omega
 · rename_i h1
   split at h
   · rename_i h2
     simp only at h;split at h
     · rename_i h3
       exact⟨by omega,by simpa[List.all_eq_true] using h2,h3⟩
     · omega
   · omega
abbrev Rg:=List (Bs×List Sc)
def qAp:Rg→Bs→Option (List Sc)
  |[],_=>none
  |(y,l)::r,x=>if y=x then some l else qAp r x
def qBl:Rg→Bs→List Sc→Rg
  |[],x,l=>[(x,l)]
  |(y,k)::r,x,l=>if y=x then (x,l)::r else if x<y then (x,l)::(y,k)::r else (y,k)::qBl r x l
def rgAt (G:Rg) (x:Bs):List Sc:=(qAp G x).getD []
open Classical in
noncomputable def qBf (G:Rg) (x:Bs) (s:Sc):Rg×Int×Int:=
  if isNm x=false then (G,0,130)
  else if scOk s.1 s.2=false∨s.2=[] then (G,0,2)
  else if (rgAt G x).getLast?=some s then (G,(rgAt G x).length,0)
  else if (rgAt G x).length=64∨(qAp G x=none∧G.length=16) then (G,0,5)
  else if qAs (rgAt G x++[s])=0 then (qBl G x (rgAt G x++[s]),((rgAt G x).length:Int)+1,0)
  else (G,0,120)
structure RgOk (G:Rg):Prop where
  up:G.Pairwise (fun p q=>p.1<q.1)
  nm:∀p∈G,isNm p.1=true
  ne:∀p∈G,p.2≠[]
  few:∀p∈G,p.2.length≤64
  ch:∀p∈G,qAs p.2=0
  ky:∀p∈G,∀s∈p.2,s.2≠[]
  len:G.length≤16
theorem qPk:RgOk []:=⟨List.Pairwise.nil,by simp,by simp,by simp,by simp,by simp,by simp⟩
theorem qYd {x y:Bs} (h1:¬x<y) (h2:y≠x):y<x:=by
 rcases List.le_iff_lt_or_eq.1 (List.not_lt.1 h1) with h|h
 · exact h
 · exact absurd h h2
theorem qEi:∀{G:Rg} {x:Bs} {l:List Sc},qAp G x=some l→(x,l)∈G
  | (y,k)::r,x,l,h=>by
   unfold qAp at h;split at h
   · rename_i e
     cases h;subst e;exact List.mem_cons_self
   · exact List.mem_cons_of_mem _ (qEi h)
theorem qEo:∀(G:Rg) (x z:Bs) (l:List Sc),qAp (qBl G x l) z=if z=x then some l else qAp G z
  |[],x,z,l=>by
   unfold qBl qAp;by_cases e:z=x
   · rw[if_pos e,if_pos e.symm]
   · rw[if_neg e,if_neg (fun h=>e h.symm)];rfl
  | (y,k)::r,x,z,l=>by
   unfold qBl;by_cases e1:y=x
   · rw[if_pos e1];subst e1;unfold qAp;by_cases e:z=y
     · rw[if_pos e,if_pos e.symm]
     · rw[if_neg e,if_neg (fun h=>e h.symm),if_neg (fun h=>e h.symm)]
   · rw[if_neg e1];by_cases e2:x<y
     · rw[if_pos e2];show(if x=z then some l else qAp ((y,k)::r) z)=_
       by_cases e:z=x
       · rw[if_pos e,if_pos e.symm]
       · rw[if_neg e,if_neg (fun h=>e h.symm)]
     · rw[if_neg e2];show(if y=z then some k else qAp (qBl r x l) z)=if z=x then some l else (if y=z then some k else qAp r z)
       rw[qEo r x z l];by_cases e:z=x
       · rw[if_pos e,if_pos e,if_neg (fun h=>e1 (h.trans e))]
       · rw[if_neg e,if_neg e]
theorem qDh:∀{G:Rg} {x:Bs} {l:List Sc} {p:Bs×List Sc},p∈qBl G x l→p=(x,l)∨p∈G
  |[],x,l,p,h=>by simpa[qBl] using h
  | (y,k)::r,x,l,p,h=>by
   unfold qBl at h;split at h
   · rcases List.mem_cons.1 h with h|h
     · exact .inl h
     · exact .inr (List.mem_cons_of_mem _ h)
   · split at h
     · rcases List.mem_cons.1 h with h|h
       · exact .inl h
       · exact .inr h
     · rcases List.mem_cons.1 h with h|h
       · exact .inr (h▸List.mem_cons_self)
       · rcases qDh h with h|h
         · exact .inl h
         · exact .inr (List.mem_cons_of_mem _ h)
theorem qPt:∀{G:Rg} (x:Bs) (l:List Sc),G.Pairwise (fun p q=>p.1<q.1)→(qBl G x l).Pairwise (fun p q=>p.1<q.1)
  |[],x,l,_=>by unfold qBl;exact List.pairwise_singleton _ _
  | (y,k)::r,x,l,h=>by
   obtain⟨h1,h2⟩:=List.pairwise_cons.1 h;unfold qBl;split
   · rename_i e
     subst e;exact List.pairwise_cons.2 ⟨h1,h2⟩
   · rename_i e
     split
     · rename_i hl
       refine List.pairwise_cons.2 ⟨fun q hq=>?_,h⟩;rcases List.mem_cons.1 hq with rfl|hq
       · exact hl
       · exact List.lt_trans hl (h1 q hq)
     · rename_i hl
       refine List.pairwise_cons.2 ⟨fun q hq=>?_,qPt x l h2⟩;rcases qDh hq with rfl|hq
       · exact qYd hl e
       · exact h1 q hq
theorem qEx {G:Rg} {x:Bs}:qAp G x=none↔∀p∈G,p.1≠x:=by
 induction G with
 |nil=>simp[qAp]
 |cons p r ih=>
  obtain⟨y,k⟩:=p;show(if y=x then some k else qAp r x)=none↔_
  by_cases e:y=x
  · simp[e]
  · rw[if_neg e,ih];simp[e]
theorem qHf:∀{G:Rg} (x:Bs) (l:List Sc),G.Pairwise (fun p q=>p.1<q.1)→(qBl G x l).length=if (qAp G x).isNone=true then G.length+1 else G.length
  |[],x,l,_=>by simp[qBl,qAp]
  | (y,k)::r,x,l,h=>by
   obtain⟨h1,h2⟩:=List.pairwise_cons.1 h;unfold qBl;show _=if (if y=x then some k else qAp r x).isNone=true then _ else _
   by_cases e:y=x
   · rw[if_pos e,if_pos e,if_neg (by simp)];rfl
   · rw[if_neg e,if_neg e];by_cases hl:x<y
     · rw[if_pos hl,if_pos (Option.isNone_iff_eq_none.2 (qEx.2 fun q hq e2=>by
         have h3:=h1 q hq;simp only at h3;rw[e2] at h3
         exact List.lt_irrefl x (List.lt_trans hl h3)))]
       rfl
     · rw[if_neg hl,List.length_cons,qHf x l h2];split <;> rfl
theorem qEq {G:Rg} {x:Bs} (h:rgAt G x≠[]):(x,rgAt G x)∈G:=by
 unfold rgAt at h ⊢
 cases hl:qAp G x with
 |none=>rw[hl] at h;exact absurd rfl h
 |some l=>exact qEi hl
theorem RgOk.put {G:Rg} (h:RgOk G) {x:Bs} {s:Sc} (hx:isNm x=true) (hk:s.2≠[]) (hn:(rgAt G x).length≠64) (hf:¬(qAp G x=none∧G.length=16)) (hc:qAs (rgAt G x++[s])=0):RgOk (qBl G x (rgAt G x++[s])):=by
 have hm:∀t∈rgAt G x,(x,rgAt G x)∈G:=fun t ht=>qEq (List.ne_nil_of_mem ht)
 refine⟨qPt _ _ h.up,?_,?_,?_,?_,?_,?_⟩
 · intro p hp;rcases qDh hp with rfl|hp
   · exact hx
   · exact h.nm p hp
 · intro p hp;rcases qDh hp with rfl|hp
   · simp
   · exact h.ne p hp
 · intro p hp;rcases qDh hp with rfl|hp
   · rw[List.length_append];by_cases e:rgAt G x=[]
     · rw[e];show 0+1≤64;omega
     · have:=h.few _ (qEq e);simp only at this;show(rgAt G x).length+1≤64
       omega
   · exact h.few p hp
 · intro p hp;rcases qDh hp with rfl|hp
   · exact hc
   · exact h.ch p hp
 · intro p hp;rcases qDh hp with rfl|hp
   · intro t ht;rcases List.mem_append.1 ht with ht|ht
     · exact h.ky _ (hm t ht) t ht
     · rw[List.mem_singleton.1 ht];exact hk
   · exact h.ky p hp
 · rw[qHf _ _ h.up];have:=h.len;by_cases e:qAp G x=none
   · rw[if_pos (by rw[e];rfl)];have:G.length≠16:=fun e2=>hf ⟨e,e2⟩
     omega
   · rw[if_neg (fun h2=>e (Option.isNone_iff_eq_none.1 h2))];exact this
theorem RgOk.add {G:Rg} (h:RgOk G) (x:Bs) (s:Sc):RgOk (qBf G x s).1:=by
 unfold qBf;split
 · exact h
 · rename_i hx
   split
   · exact h
   · rename_i hs
     split
     · exact h
     · split
       · exact h
       · rename_i hl
         split
         · rename_i hc
           exact h.put (by simpa using hx) (fun e=>hs (.inr e)) (fun e=>hl (.inl e)) (fun e=>hl (.inr e)) hc
         · exact h
def qCq:Rg→Bs→Nat
  |[],_=>0
  |(y,_)::r,x=>if y<x then qCq r x+1 else 0
theorem qPu:∀(G:Rg) (x:Bs),qCq G x≤G.length
  |[],_=>Nat.le_refl _
  |(y,k)::r,x=>by
   have:=qPu r x;unfold qCq;split
   · rw[List.length_cons];omega
   · exact Nat.zero_le _
theorem qMh:∀(G:Rg) (x:Bs) (i:Nat),(∀(j:Nat) p,j<i→G[j]?=some p→p.1<x)→i≤G.length→(∀p,G[i]?=some p→¬p.1<x)→i=qCq G x
  |[],x,i,_,h2,_=>Nat.le_zero.1 h2
  |(y,k)::r,x,0,_,_,h3=>by
   unfold qCq;rw[if_neg (h3 (y,k) rfl)]
  |(y,k)::r,x,i+1,h1,h2,h3=>by
   unfold qCq;rw[if_pos (h1 0 (y,k) (by omega) rfl),←qMh r x i (fun j p hj hp=>h1 (j+1) p (by omega) hp) (by simpa using h2) (fun p hp=>h3 p hp)]
def qDd (G:Rg) (x:Bs):Bool:=(qAp G x).isSome
theorem qF1:∀{G:Rg} (x:Bs),G.Pairwise (fun p q=>p.1<q.1)→∀l,(qAp G x=some l↔G[qCq G x]?=some (x,l))
  |[],x,_,l=>by simp[qAp,qCq]
  | (y, k)::r,x,h,l=>by
   obtain⟨h1,h2⟩:=List.pairwise_cons.1 h;unfold qCq qAp;by_cases e:y=x
   · subst e;rw[if_pos rfl,if_neg (List.lt_irrefl _)];simp
   · rw [if_neg e];by_cases hl:y<x
     · rw[if_pos hl,qF1 x h2 l];simp
     · rw[if_neg hl]
       have hn:qAp r x=none:=qEx.2 fun p hp e2=>by
        have h3:=h1 p hp;simp only at h3;rw[e2] at h3;exact hl h3
       rw[hn];simp;exact fun e2=>absurd e2 e
theorem qGx {G:Rg} (x:Bs) (h:G.Pairwise (fun p q=>p.1<q.1)) (hb:qDd G x=true):∃l,qAp G x=some l∧G[qCq G x]?=some (x,l)∧rgAt G x=l:=by
 unfold qDd at hb
 cases hl:qAp G x with
 |none=>rw[hl] at hb;cases hb
 |some l=>exact⟨l,rfl,(qF1 x h l).1 hl,by unfold rgAt;rw[hl];rfl⟩
theorem qIv {G:Rg} (x:Bs) (h:G.Pairwise (fun p q=>p.1<q.1)) (hb:qDd G x=false):qAp G x=none∧rgAt G x=[]∧∀p,G[qCq G x]?=some p→p.1≠x:=by
 unfold qDd at hb
 cases hl:qAp G x with
 |none=>
  refine⟨rfl,by unfold rgAt;rw[hl];rfl,fun p hp e=>?_⟩;have:=(qF1 x h p.2).2 (by rw[hp,←e]);rw[hl] at this;cases this
 |some l=>rw[hl] at hb;cases hb
theorem qT8 {G:Rg} (x:Bs) (h:G.Pairwise (fun p q=>p.1<q.1)) {p:Bs×List Sc} (hp:G[qCq G x]?=some p):qDd G x=decide (p.1=x):=by
 by_cases e:p.1=x
 · have:=(qF1 x h p.2).2 (by rw[hp,←e]);unfold qDd;rw[this,decide_eq_true e];rfl
 · rw[decide_eq_false e]
   cases hb:qDd G x with
   |false=>rfl
   |true=>
    obtain⟨l,_,h2,_⟩:=qGx x h hb;rw[h2] at hp;cases hp;exact absurd rfl e
theorem qSg {G:Rg} (x:Bs) (h:G.Pairwise (fun p q=>p.1<q.1)) (hp:qCq G x=G.length):qDd G x=false:=by
 cases hb:qDd G x with
 |false=>rfl
 |true=>
  obtain⟨l,_,h2,_⟩:=qGx x h hb;rw[hp,List.getElem?_eq_none (Nat.le_refl _)] at h2;cases h2
theorem qJ9:∀{G:Rg} (x:Bs) (l:List Sc),G.Pairwise (fun p q=>p.1<q.1)→qBl G x l=if qDd G x=true then G.set (qCq G x) (x,l) else G.take (qCq G x)++[(x,l)]++G.drop (qCq G x)
  |[],x,l,_=>by simp[qBl,qDd,qAp,qCq]
  | (y,k)::r,x,l,h=>by
   obtain⟨h1,h2⟩:=List.pairwise_cons.1 h;have ih:=qJ9 (G:=r) x l h2;unfold qDd at ih ⊢;unfold qBl qCq;show _=if (if y=x then some k else qAp r x).isSome=true then _ else _
   by_cases e:y=x
   · subst e;rw[if_pos rfl,if_pos rfl,if_neg (List.lt_irrefl _)];simp
   · rw[if_neg e,if_neg e];by_cases hl:x<y
     · have hn:qAp r x=none:=qEx.2 fun p hp e2=>by
         have h3:=h1 p hp;simp only at h3;rw[e2] at h3;exact List.lt_irrefl x (List.lt_trans hl h3)
       rw[if_pos hl,if_neg (fun h=>List.lt_irrefl x (List.lt_trans hl h)),hn];simp
     · rw[if_neg hl,if_pos (qYd hl e),ih];by_cases hh:(qAp r x).isSome=true
       · rw[if_pos hh,if_pos hh];simp
       · rw[if_neg hh,if_neg hh];simp
end Go.Ms
