/- Texts cut at a byte: what the library's SplitN and the loops answer. Cells: what is taken off: words. Cells: what is taken off. Cells: what is taken off. Cells: what is taken off. Cells: what is taken off. Cells: what is taken off. Cells: what is taken off, whole. Cells: the laws' helpers; the chapter's examples. Cells: the chapter's examples. Cells: cut; three boxed cells. Cells: two and three boxed cells. Cells: a boxed type and a boxed cell; how long texts and bits are. Cells: a boxed type and two boxed cells. The reference's Valid. The reference of the cells: which types and cells may be; how two stand. The reference of the cells: Check. The reference's begins. What the reader takes for a literal is one: a row of parts between quotes. A literal that is cut off anywhere is ErrTrunc. The short escapes. What the reference answers of an escape, way by way. The reference's escape. The steps of Unquote's loop, as the reference takes them. The reference's Unquote. The reference's Quote. The reference of the cells: whole numbers' texts; hex. The reference of the cells: Text. The reference of the cells: Bits. Bounds of whole numbers. The reference of the cells: Bits, whole. CellWrites: the walk. The reference of the cells: Whole. The reference of the cells: Unhex. The reference of the cells: Unhex, the walk. The reference of the cells: run, the walk. The reference of the cells: what Read answers, in plain terms. The reference of the cells: guess, the walk. The reference of the cells: bare, the walk. The reference of the cells: Unbits. Rows: what is known of cells. Rows: cells stand while only new blocks are written. Schemas: the first place at which something holds; Place and Named. -/
import Derived.Test.YtainiaighnjpfaaGreatDoorZQb
import Derived.Lib.Split
import Derived.Test.YtainiaighnjpfaaGreatDoorZQl
import Derived.Deep.RegionHeld3
import Derived.Test.YtainiaighnjpfaaGreatDoorZQm
import Derived.Deep.DeepCutAuto
import Derived.Deep.RegionWith
import Derived.Lib.ItoaLen
import Derived.Test.YtainiaighnjpfaaGreatDoorZQd
import Derived.Test.YtainiaighnjpfaaGreatDoorZQa
import Derived.Test.YtainiaighnjpfaaGreatDoorZQi
import Derived.Test.YtainiaighnjpfaaGreatDoorZQc
import Derived.Test.YtainiaighnjpfaaGreatDoorZQe
import Derived.Deep.RegionLaw
set_option linter.unusedVariables false
set_option linter.unusedSimpArgs false
namespace Go.Ms
open Go.Lib
theorem qCa {c:UInt8}:∀{s x y:Bs},cutAt c s=some (x,y)→s=x++c::y∧c∉x
  |[],x,y,h=>by simp[cutAt] at h
  |b::r,x,y,h=>by
   unfold cutAt at h
   split at h
   · rename_i hb
     simp only[Option.some.injEq,Prod.mk.injEq] at h;obtain⟨rfl,rfl⟩:=h;exact⟨by rw[hb];rfl,by simp⟩
   · rename_i hb
     split at h
     · rename_i z hz
       simp only[Option.some.injEq,Prod.mk.injEq] at h;obtain⟨rfl,rfl⟩:=h;obtain⟨h1,h2⟩:=qCa (x:=z.1) (y:=z.2) hz;refine⟨by rw[List.cons_append,←h1],?_⟩;simp only[List.mem_cons,not_or];exact⟨fun e=>hb e.symm,h2⟩
     · cases h
theorem qF9 {c:UInt8}:∀{s:Bs},cutAt c s=none↔c∉s
  |[]=>by simp[cutAt]
  |b::r=>by
   have ih:=qF9 (c:=c) (s:=r);unfold cutAt
   split
   · rename_i hb;subst hb;simp
   · rename_i hb
     split
     · rename_i z hz
       have:¬cutAt c r=none:=by rw[hz];simp
       rw[ih] at this;simp only[reduceCtorEq,List.mem_cons,not_or,false_iff,not_and]
       exact fun _=>this
     · rename_i hz
       simp only[List.mem_cons,not_or,true_iff];exact⟨fun e=>hb e.symm,ih.1 hz⟩
theorem qHe:∀{x y:Bs},(10:UInt8)∉x→qA4 (x++10::y)=(x::(qA4 y).1,(qA4 y).2)
  |[],y,h=>by simp[qA4]
  |b::r,y,h=>by
   simp only[List.mem_cons,not_or] at h;rw[List.cons_append,qA4,if_neg (fun e=>h.1 e.symm),qHe h.2]
theorem qGj:∀{x:Bs},(10:UInt8)∉x→qA4 x=([],x)
  |[],h=>rfl
  |b::r,h=>by
   simp only[List.mem_cons,not_or] at h;rw[qA4,if_neg (fun e=>h.1 e.symm),qGj h.2]
theorem qGk:∀(s:Bs),s=(qA4 s).1.flatMap (fun l=>l++[10])++(qA4 s).2
  |[]=>rfl
  |c::r=>by
   have ih:=qGk r;unfold qA4
   split
   · rename_i hc;subst hc
     simp only[List.flatMap_cons,List.nil_append,List.cons_append];rw[←ih]
   · split
     · rename_i hl
       rw[hl] at ih;simp only[List.flatMap_nil,List.nil_append] at ih ⊢;rw[←ih]
     · rename_i l ls hl
       rw[hl] at ih;simp only[List.flatMap_cons,List.cons_append] at ih ⊢;rw[←ih]
theorem qGe:∀(s:Bs),(∀l∈(qA4 s).1,(10:UInt8)∉l)∧(10:UInt8)∉(qA4 s).2
  |[]=>by simp[qA4]
  |c::r=>by
   obtain⟨h1,h2⟩:=qGe r;unfold qA4
   split
   · rename_i hc
     refine⟨fun l hl=>?_,h2⟩;simp only[List.mem_cons] at hl
     rcases hl with rfl|hl
     · simp
     · exact h1 l hl
   · rename_i hc
     split
     · exact⟨by simp,by simp only[List.mem_cons,not_or];exact⟨fun e=>hc e.symm,h2⟩⟩
     · rename_i l ls hl
       rw[hl] at h1;refine⟨fun x hx=>?_,h2⟩;simp only[List.mem_cons] at hx
       rcases hx with rfl|hx
       · simp only[List.mem_cons,not_or];exact⟨fun e=>hc e.symm,h1 l (by simp)⟩
       · exact h1 x (by simp[hx])
end Go.Ms
namespace Go.Proofs.YtainiaighnjpfaaGreatDoor
open Go.RowKit Go.Ms Go.Lib
end Go.Proofs.YtainiaighnjpfaaGreatDoor
namespace Go.Proofs.YtainiaighnjpfaaGreatDoor
open Go.RowKit Go.Ms Go.Lib
end Go.Proofs.YtainiaighnjpfaaGreatDoor
namespace Go.Proofs.YtainiaighnjpfaaGreatDoor
open Go.RowKit Go.Ms Go.Lib
end Go.Proofs.YtainiaighnjpfaaGreatDoor
namespace Go.Proofs.YtainiaighnjpfaaGreatDoor
open Go.RowKit Go.Ms Go.Lib
end Go.Proofs.YtainiaighnjpfaaGreatDoor
namespace Go.Proofs.YtainiaighnjpfaaGreatDoor
open Go.RowKit Go.Ms Go.Lib
end Go.Proofs.YtainiaighnjpfaaGreatDoor
namespace Go.Proofs.YtainiaighnjpfaaGreatDoor
open Go.RowKit Go.Ms Go.Lib
end Go.Proofs.YtainiaighnjpfaaGreatDoor
namespace Go.Proofs.YtainiaighnjpfaaGreatDoor
open Go.RowKit Go.Ms Go.Lib
end Go.Proofs.YtainiaighnjpfaaGreatDoor
namespace Go.Proofs.YtainiaighnjpfaaGreatDoor
open Go.RowKit Go.Ms Go.Lib
end Go.Proofs.YtainiaighnjpfaaGreatDoor
namespace Go.Proofs.YtainiaighnjpfaaGreatDoor
open Go.RowKit Go.Ms Go.Lib
end Go.Proofs.YtainiaighnjpfaaGreatDoor
namespace Go.Proofs.YtainiaighnjpfaaGreatDoor
open Go.RowKit Go.Ms Go.Lib
end Go.Proofs.YtainiaighnjpfaaGreatDoor
namespace Go.Proofs.YtainiaighnjpfaaGreatDoor
open Go.RowKit Go.Ms Go.Lib
section
end
end Go.Proofs.YtainiaighnjpfaaGreatDoor
namespace Go.Ms
open Go.Lib
end Go.Ms
namespace Go.Proofs.YtainiaighnjpfaaGreatDoor
open Go.RowKit Go.Ms Go.Lib
section
end
end Go.Proofs.YtainiaighnjpfaaGreatDoor
namespace Go.Proofs.YtainiaighnjpfaaGreatDoor
open Go.RowKit Go.Ms Go.Lib
section
end
end Go.Proofs.YtainiaighnjpfaaGreatDoor
namespace Go.Proofs.YtainiaighnjpfaaGreatDoor
open Go.RowKit Go.Ms Go.Lib
end Go.Proofs.YtainiaighnjpfaaGreatDoor
namespace Go.Proofs.YtainiaighnjpfaaGreatDoor
open Go.RowKit Go.Ms Go.Lib
end Go.Proofs.YtainiaighnjpfaaGreatDoor
namespace Go.Proofs.YtainiaighnjpfaaGreatDoor
open Go.RowKit Go.Ms Go.Lib
end Go.Proofs.YtainiaighnjpfaaGreatDoor
namespace Go.Proofs.YtainiaighnjpfaaGreatDoor
open Go.RowKit Go.Ms Go.Lib
end Go.Proofs.YtainiaighnjpfaaGreatDoor
namespace Go.Proofs.YtainiaighnjpfaaGreatDoor
open Go.RowKit Go.Ms Go.Lib
end Go.Proofs.YtainiaighnjpfaaGreatDoor
namespace Go.Proofs.YtainiaighnjpfaaGreatDoor
open Go.RowKit Go.Ms Go.Lib
end Go.Proofs.YtainiaighnjpfaaGreatDoor
namespace Go.Ms
open Go.Lib
end Go.Ms
namespace Go.Ms
open Go.Lib
theorem qDj {l:Bs} {p n:Nat} {acc r:Bs} (h:l.drop p=92::r) (he:(qAp l (p+1) 0).2.2=3):uqGo l (n+2) acc p 0=([],0,3):=by
 obtain⟨g1,g2,_⟩:=qAj h;rw[qBd,if_pos rfl,if_neg (by omega),if_neg (by rw[g2];decide),if_pos (by rw[g2];rfl),he,qS5 _ _ _ _ (by decide)]
theorem qJ8 {l:Bs} {p n:Nat} {acc:Bs} (hp:p≤l.length) (h:l.drop p=[]):uqGo l (n+1) acc p 0=([],0,3):=by
 have:p=l.length:=by
  have:=congrArg List.length h;simp at this;omega
 rw[qBd,if_pos rfl,if_pos this]
theorem qRe {l:Bs} {p:Nat} {n:Int} (h:(qA2 l 92 p 0).2=3):(rdPair l p 0 n).2.2=3:=by
 unfold rdPair;simp only[h,qMm _ _ _ (show(3:Int)≠0 by decide)];rw[(qGv l true _ (by decide)).1,if_neg (by decide)]
theorem qRa {l:Bs} {p p':Nat} {n:Int} (h:qA2 l 92 p 0=(p',0)) (h2:(qA2 l 117 p' 0).2=3):(rdPair l p 0 n).2.2=3:=by
 unfold rdPair;simp only[h,h2];rw[(qGv l true _ (by decide)).1,if_neg (by decide)]
theorem qQ5 {l:Bs} {p p' p'':Nat} {n:Int} (h:qA2 l 92 p 0=(p',0)) (h2:qA2 l 117 p' 0=(p'',0)) (h3:(qA9 l true p'' 0).2.2=3):(rdPair l p 0 n).2.2=3:=by
 unfold rdPair;simp only[h,h2,h3];rw[if_neg (by decide)]
theorem qPa {l:Bs} {p p3:Nat} {n:Int} (h:qA9 l false p 0=(n,p3,0)) (hn:55296≤n∧n<56320):qDv l (p,0) (0,0)=rdPair l p3 0 n:=by
 unfold qDv;simp only[h];rw[if_pos hn]
theorem qRy {q t:Bs} (hq:Part q t) {l:Bs} {p j n:Nat} {acc:Bs} (hj:j<q.length) (hp:p≤l.length) (h:l.drop p=q.take j):uqGo l (n+2) acc p 0=([],0,3):=by
 have hlen:=congrArg List.length h;rw[List.length_drop,List.length_take] at hlen
 cases j with
 |zero=>exact qJ8 hp h
 |succ j=>
 cases hq with
 | rune r hr h1 h2 h3=>
  obtain⟨c,tl,e,ea,eh⟩:=qMw hr;have hb:=(qAw r).1 hr
  have hr2:128≤r:=by
   rcases Int.lt_or_le r 128 with g|g
   · rw[qDk (by omega) (by omega)] at hj;simp at hj
   · exact g
  have hc:l.drop p=c::tl.take j:=by rw[h,e];rfl
  obtain⟨g1,g2,_⟩:=qAj hc;have hx:=eh hr2;have n1:=qRb hr (j:=j+1) (by omega) hj;have n2:=qQr hr (j:=j+1) (by omega) hj
  have hpl:qA6 l p 0=([],p,(3:Int)):=by
   unfold qA6;rw[if_neg (by omega),h,n1,n2];rfl
  rw[qBd,if_pos rfl,if_neg (by omega),if_neg (by omega),if_neg (by omega),hpl,qS5 _ _ _ _ (show(3:Int)≠0 by decide)]
 |slash=>
  obtain rfl:j=0:=by simp at hj;omega
  have h':l.drop p=92::[]:=h;exact qDj h' (qJk (by simp at hlen;omega) (qAj h').2.2)
 |short c k hk=>
  obtain rfl:j=0:=by simp at hj;omega
  have h':l.drop p=92::[]:=h;exact qDj h' (qJk (by simp at hlen;omega) (qAj h').2.2)
 | four c1 c2 c3 c4 k1 k2 k3 k4 ho hn=>
  have h':l.drop p=92::([117,c1,c2,c3,c4]:Bs).take j:=h;obtain⟨g1,g2,g3⟩:=qAj h'
  cases j with
  |zero=>exact qDj h' (qJk (by omega) g3)
  |succ j=>
   have g4:l.drop (p+1)=117::([c1,c2,c3,c4]:Bs).take j:=g3;obtain⟨g5,g6,g7⟩:=qAj g4;refine qDj h' ?_;rw[qUj g4];exact qJu (by decide) (qJq false (by omega) (by simp at hj;omega) g7 k1 k2 k3 ho)
 | pair c1 c2 c3 c4 d1 d2 d3 d4 k1 k2 k3 k4 j1 j2 j3 j4 ho hn hp2=>
  have h':l.drop p=92::([117,c1,c2,c3,c4,92,117,d1,d2,d3,d4]:Bs).take j:=h;obtain⟨g1,g2,g3⟩:=qAj h'
  cases j with
  |zero=>exact qDj h' (qJk (by omega) g3)
  |succ j=>
   have g4:l.drop (p+1)=117::([c1,c2,c3,c4,92,117,d1,d2,d3,d4]:Bs).take j:=g3;obtain⟨g5,g6,g7⟩:=qAj g4;refine qDj h' ?_;rw[qUj g4]
   by_cases hj4:j<4
   · have e:([c1,c2,c3,c4,92,117,d1,d2,d3,d4]:Bs).take j=([c1,c2,c3,c4]:Bs).take j:=by
       rcases(by omega:j=0∨j=1∨j=2∨j=3) with rfl|rfl|rfl|rfl <;> rfl
     rw[e] at g7;exact qJu (by decide) (qJq false (by omega) hj4 g7 k1 k2 k3 ho)
   · obtain⟨i,rfl⟩:∃i,j=i+4:=⟨j-4,by omega⟩;have g8:l.drop (p+1+1)=c1::c2::c3::c4::([92,117,d1,d2,d3,d4]:Bs).take i:=g7;have hh:=qJf false g8 k1 k2 k3 k4 ho;have g9:=(qAj (qAj (qAj (qAj g8).2.2).2.2).2.2);obtain⟨g10,_,g11⟩:=g9;rw[qPa hh hn]
     cases i with
     |zero=>exact qRe (by rw[qMf (by omega) g11 (by decide)])
     | succ i=>
      have g12:l.drop (p+1+1+4)=92::([117,d1,d2,d3,d4]:Bs).take i:=g11;have w1:qA2 l 92 (p+1+1+4) 0=(p+1+1+4+1,(0:Int)):=qJg g12;obtain⟨g13,_,g14⟩:=qAj g12
      cases i with
      |zero=>exact qRa w1 (by rw[qMf (by omega) g14 (by decide)])
      |succ i=>
       have g15:l.drop (p+1+1+4+1)=117::([d1,d2,d3,d4]:Bs).take i:=g14;have w2:qA2 l 117 (p+1+1+4+1) 0=(p+1+1+4+1+1,(0:Int)):=qJg g15;obtain⟨g16,_,g17⟩:=qAj g15;exact qQ5 w1 w2 (qJq true (by omega) (by simp at hj;omega) g17 j1 j2 j3 hp2)
theorem go_cut {k:Nat} {q t:Bs} (h:Lits k q t):∀{l:Bs} {p j N:Nat} {acc:Bs},j≤q.length→p≤l.length→l.drop p=q.take j→j+2≤N→uqGo l N acc p 0=([],0,3):=by
 induction h with
 |nil=>
  intro l p j N acc _ hp hd hN
  obtain⟨N,rfl⟩:∃M,N=M+1:=⟨N-1,by omega⟩;exact qJ8 hp (by rw[hd];simp)
 |@cons k' q t q' t' h _ ih=>
  intro l p j N acc hj hp hd hN
  obtain⟨N,rfl⟩:∃M,N=M+2:=⟨N-2,by omega⟩
  by_cases hc:j<q.length
  · rw[List.take_append_of_le_length (by omega)] at hd;exact qRy h hc hp hd
  · have e:(q++q').take j=q++q'.take (j-q.length):=by
      rw[List.take_append,List.take_of_length_le (by omega)]
    rw[e] at hd;have hlen:=congrArg List.length hd;rw[List.length_drop,List.length_append] at hlen;have:=h.pos;rw[qTr h hd];exact ih (by rw[List.length_append] at hj;omega) (by omega) (qMx hd) (by omega)
end Go.Ms
namespace Go.Ms
open Go.Lib
end Go.Ms
namespace Go.Ms
open Go.Lib
end Go.Ms
namespace Go.Proofs.YtainiaighnjpfaaGreatDoor
open Go.RowKit Go.Ms Go.Lib
end Go.Proofs.YtainiaighnjpfaaGreatDoor
namespace Go.Ms
open Go.Lib
end Go.Ms
namespace Go.Proofs.YtainiaighnjpfaaGreatDoor
open Go.RowKit Go.Ms Go.Lib
end Go.Proofs.YtainiaighnjpfaaGreatDoor
namespace Go.Proofs.YtainiaighnjpfaaGreatDoor
open Go.RowKit Go.Ms Go.Lib
end Go.Proofs.YtainiaighnjpfaaGreatDoor
namespace Go.Ms
open Go.Lib
end Go.Ms
namespace Go.Proofs.YtainiaighnjpfaaGreatDoor
open Go.RowKit Go.Ms Go.Lib
end Go.Proofs.YtainiaighnjpfaaGreatDoor
namespace Go.Proofs.YtainiaighnjpfaaGreatDoor
open Go.RowKit Go.Ms Go.Lib
end Go.Proofs.YtainiaighnjpfaaGreatDoor
set_option linter.unusedSimpArgs false
namespace Go.Ms
open Go.Lib
def nb:Nat→Int→Bs
  |0,_=>[]
  |j+1,u=>UInt8.ofNat (u/72057594037927936).toNat::nb j (u*256%18446744073709551616)
end Go.Ms
namespace Go.Proofs.YtainiaighnjpfaaGreatDoor
open Go.RowKit Go.Ms Go.Lib
end Go.Proofs.YtainiaighnjpfaaGreatDoor
namespace Go.Proofs.YtainiaighnjpfaaGreatDoor
open Go.RowKit Go.Ms Go.Lib
end Go.Proofs.YtainiaighnjpfaaGreatDoor
namespace Go.Proofs.YtainiaighnjpfaaGreatDoor
open Go.RowKit Go.Ms Go.Lib
end Go.Proofs.YtainiaighnjpfaaGreatDoor
set_option linter.unusedSimpArgs false
namespace Go.Ms
open Go.Lib
end Go.Ms
namespace Go.Proofs.YtainiaighnjpfaaGreatDoor
open Go.RowKit Go.Ms Go.Lib
end Go.Proofs.YtainiaighnjpfaaGreatDoor
set_option linter.unusedSimpArgs false
namespace Go.Ms
open Go.Lib
end Go.Ms
namespace Go.Proofs.YtainiaighnjpfaaGreatDoor
open Go.RowKit Go.Ms Go.Lib
end Go.Proofs.YtainiaighnjpfaaGreatDoor
set_option linter.unusedSimpArgs false
namespace Go.Proofs.YtainiaighnjpfaaGreatDoor
open Go.RowKit Go.Ms Go.Lib
end Go.Proofs.YtainiaighnjpfaaGreatDoor
set_option linter.unusedSimpArgs false
namespace Go.Proofs.YtainiaighnjpfaaGreatDoor
open Go.RowKit Go.Ms Go.Lib
end Go.Proofs.YtainiaighnjpfaaGreatDoor
set_option linter.unusedSimpArgs false
namespace Go.Ms
open Go.Lib
end Go.Ms
namespace Go.Proofs.YtainiaighnjpfaaGreatDoor
open Go.RowKit Go.Ms Go.Lib
end Go.Proofs.YtainiaighnjpfaaGreatDoor
set_option linter.unusedSimpArgs false
namespace Go.Proofs.YtainiaighnjpfaaGreatDoor
open Go.RowKit Go.Ms Go.Lib
end Go.Proofs.YtainiaighnjpfaaGreatDoor
set_option linter.unusedSimpArgs false
namespace Go.Ms
open Go.Lib
end Go.Ms
namespace Go.Proofs.YtainiaighnjpfaaGreatDoor
open Go.RowKit Go.Ms Go.Lib
end Go.Proofs.YtainiaighnjpfaaGreatDoor
set_option linter.unusedSimpArgs false
namespace Go.Ms
open Go.Lib
end Go.Ms
namespace Go.Proofs.YtainiaighnjpfaaGreatDoor
open Go.RowKit Go.Ms Go.Lib
end Go.Proofs.YtainiaighnjpfaaGreatDoor
namespace Go.Ms
end Go.Ms
namespace Go.Proofs.YtainiaighnjpfaaGreatDoor
open Go.RowKit Go.Ms Go.Lib
theorem qS2 {W w1 w2:World} {p1 p2 p3 p4 p5 p6:Addr} {v1 v2 v3 v4 v5 v6:Value} (h:(w1.cell? p1=some v1∧w1.cell? p2=some v2∧w1.cell? p3=some v3∧w1.cell? p4=some v4∧w1.cell? p5=some v5∧w1.cell? p6=some v6)∧Below W.heap.size W w1) (hb:Below w1.heap.size w1 w2) :
    (w2.cell? p1=some v1∧w2.cell? p2=some v2∧w2.cell? p3=some v3∧w2.cell? p4=some v4∧w2.cell? p5=some v5∧w2.cell? p6=some v6)∧Below W.heap.size W w2:=by
 obtain⟨⟨c1,c2,c3,c4,c5,c6⟩,f⟩:=h;exact⟨⟨(hb.cell (qAx c1)).trans c1,(hb.cell (qAx c2)).trans c2,(hb.cell (qAx c3)).trans c3,(hb.cell (qAx c4)).trans c4,(hb.cell (qAx c5)).trans c5,(hb.cell (qAx c6)).trans c6⟩,f.trans (hb.mono f.size)⟩
theorem endK {A:Prop} {W w1:World} (h:A∧Below W.heap.size W w1):Below W.heap.size W w1:=h.2
end Go.Proofs.YtainiaighnjpfaaGreatDoor
set_option linter.unusedSimpArgs false
namespace Go.Ms
open Go.RowKit Go.Lib
def idxL {α:Type} (p:α→Bool) (l:List α):Int:=match l.findIdx? p with
 |some i=>i
 |none=> -1
theorem qJx {α:Type} {p:α→Bool} {l:List α} {k:Nat} {c:α} (hc:l[k]?=some c) (hn:∀(j:Nat) d,j<k→l[j]?=some d→p d=false) (hp:p c=true):idxL p l=k:=by
 unfold idxL
 have:l.findIdx? p=some k:=by
  rw[List.findIdx?_eq_some_iff_getElem];obtain⟨hk,rfl⟩:=List.getElem?_eq_some_iff.1 hc;exact⟨hk,hp,fun j hj=>by have:=hn j _ hj (List.getElem?_eq_getElem (by omega));simpa using this⟩
 rw[this]
theorem qFl {α:Type} {p:α→Bool} {l:List α} (hn:∀(j:Nat) d,l[j]?=some d→p d=false):idxL p l= -1:=by
 unfold idxL
 have:l.findIdx? p=none:=by
  rw[List.findIdx?_eq_none_iff]
  intro x hx
  obtain⟨i,hi⟩:=List.getElem?_of_mem hx;exact hn i x hi
 rw[this]
theorem qO1 (p:Co→Bool) (l:List Co):max (idxL p l) 0=(qFn p l).1∧decide (0≤idxL p l)=(qFn p l).2:=by
 unfold idxL qFn
 cases h:l.findIdx? p with
 |some i=>exact⟨by simp only;omega,by simp⟩
 |none=>exact⟨rfl,rfl⟩
theorem qMe {α:Type} (p:α→Bool) (l:List α):decide (0≤idxL p l)=l.any p:=by
 unfold idxL
 split
 · rename_i i h
   rw[List.findIdx?_eq_some_iff_getElem] at h;obtain⟨hi,hp,_⟩:=h;have:l.any p=true:=List.any_eq_true.2 ⟨l[i],List.getElem_mem hi,hp⟩
   rw[this];simp
 · rename_i h
   rw[List.findIdx?_eq_none_iff] at h
   have:l.any p=false:=by rw[List.any_eq_false];intro x hx;have:=h x hx;simpa using this
   rw[this];rfl
end Go.Ms
namespace Go.Proofs.YtainiaighnjpfaaGreatDoor
open Go.RowKit Go.Ms Go.Lib
theorem qLx (w:World) (b q:Nat) (g o n cap:Nat) (u:Bool) (hq:q<n) (hn:n≤maxLen) (h0:w.cell? ⟨b,0,none⟩=some (.slice (some ⟨g,o,none⟩) n cap)) (h1:w.cell? ⟨g,o+q*7+2+1,none⟩=some (.bool u)) :
    Calls Tryz.prog 75 #[.int .i64 q,.pointer (some ⟨b,0,none⟩)] w fun e w'=>e=.returned (.bool u)∧Below w.heap.size w w':=by
 unfold maxLen at hn
 have hq':(q:Int)<n:=by omega
 go_enter Tryz.func75,Tryz.ntmps75
 go_wp2_with fail
 all_goals (try go_quiet (fail))
 all_goals (go_wp2_with fail)
 all_goals go_ret
 all_goals exact⟨rfl,Below.refl _ _⟩
theorem qLg (w:World) (b:Nat) (c:Co) (id:Int) (h0:w.cell? ⟨b,0,none⟩=some (.int .i64 id)) :
    Calls Tryz.prog 143 #[coA c,.pointer (some ⟨b,0,none⟩)] w fun e w'=>e=.returned (.bool (decide (c.1=id)))∧Below w.heap.size w w':=by
 obtain⟨i0,s0,⟨k0,u0⟩,n0,m0,t0⟩:=c
 show Calls Tryz.prog 143 #[.agg #[.int .i64 i0,.string s0,.int .i64 k0,.bool u0,.bool n0,.int .i64 m0,.string t0],.pointer (some ⟨b,0,none⟩)] w _
 have h1:=fun o=>(((Below.refl _ w).alloc (Nat.le_refl _) o).cell (qAx h0)).trans h0
 go_enter Tryz.func143,Tryz.ntmps143
 go_wp2_with fail
 go_ret
 exact⟨by congr 2,(Below.refl _ _).alloc (Nat.le_refl _) _⟩
set_option maxRecDepth 100000 in
set_option maxHeartbeats 1000000 in
theorem qL6 (w:World) (A:Option Addr) (n cap:Nat) (l:List Int) (b:Nat) (p:Int→Bool) (hn':n≤maxLen) (hn:n=l.length) (hA:Lay w w.heap.size A (intV l)) (hcl:∀(k:Nat) (x:Int) (W:World),l[k]?=some x→Below w.heap.size w W→Calls Tryz.prog 75 #[.int .i64 x,.pointer (some ⟨b,0,none⟩)] W fun e w2=>e=.returned (.bool (p x))∧Below W.heap.size W w2) :
    Calls Tryz.prog 107 #[.slice A n cap,.func (.func 75) #[] #[.pointer (some ⟨b,0,none⟩)]] w fun e w'=>e=.returned (.int .i64 (idxL p l))∧Below w.heap.size w w':=by
 unfold maxLen at hn';have hcl:=hcl
 have HC:=Lib.hid hcl;have HA:=Lib.hid hA;have HN:=Lib.hid hn
 clear hcl hA hn
 go_enter Tryz.func107,Tryz.ntmps107
 go_wp2_with fail
 go_loopw [8] (fun id wr=> ∃k:Nat,k≤n∧id=.int .i64 k∧Below w.heap.size w wr∧∀(j:Nat) x,j<k→l[j]?=some x→p x=false) (fun id _=>n-(RowKit.intOf id).toNat)
 case atStart=>exact⟨0,by omega,rfl,Below.refl _ _,fun j c h=>absurd h (by omega)⟩
 case round=>
  obtain⟨k,hk,rfl,hb,hp⟩:=hrel;have HP:=Lib.hid hp;clear hp
  by_cases hlk:k<n
  · have hki:(k:Int)<n:=by omega
    obtain⟨x,hx⟩:∃x,l[k]?=some x:=⟨_,List.getElem?_eq_getElem (by rw[←HN.out];omega)⟩;obtain⟨g,o,rfl,hg,h1⟩:=HA.out.num hx;have g1:=(hb.cell hg).trans h1;clear h1;have hcall:=HC.out _ _ wr hx hb
    have HX:=Lib.hid hx;have HB:=Lib.hid hb;have HCA:=Lib.hid hcall
    clear hx hb hcall
    cases hpx:p x with
    |true=>
     have HR:=Lib.hid (qJx HX.out HP.out hpx)
     go_wp2_with fail
     refine HCA.out.mono ?_;rw[hpx];clear hpx;rintro en w1 ⟨rfl,b1⟩;have B1:=Lib.hid (HB.out.trans (b1.mono HB.out.size));clear b1
     go_wp2_with fail
     go_ret
     exact⟨congrArg (fun i=>Ending.returned (.int .i64 i)) HR.out.symm,B1.out⟩
    | false=>
     have HPX:=Lib.hid hpx
     go_wp2_with fail
     refine HCA.out.mono ?_;rw[hpx];clear hpx;rintro en w1 ⟨rfl,b1⟩;have B1:=Lib.hid (HB.out.trans (b1.mono HB.out.size));clear b1
     go_wp2_with fail
     go_roundw
     case rel=>
      refine⟨k+1,by omega,by go_num,B1.out,fun j y hj hy=>?_⟩
      by_cases e:j=k
      · subst e;rw[HX.out] at hy
        cases hy
        exact HPX.out
      · exact HP.out j y (by omega) hy
     case measure=>simp[RowKit.intOf];omega
  · have hki:¬(k:Int)<n:=by omega
    have HR:=Lib.hid (qFl (p:=p) (l:=l) (fun j x hx=>HP.out j x (by have:=(List.getElem?_eq_some_iff.1 hx).1;have:=HN.out;omega) hx));have HB:=Lib.hid hb;clear hb
    go_wp2_with fail
    go_ret
    exact⟨congrArg (fun i=>Ending.returned (.int .i64 i)) HR.out.symm,HB.out⟩
set_option maxRecDepth 100000 in
set_option maxHeartbeats 1000000 in
theorem qKq (w:World) (A:Option Addr) (n cap:Nat) (l:List Co) (b:Nat) (p:Co→Bool) (hn':n≤maxLen) (hn:n=l.length) (hA:Lay w w.heap.size A (colV l)) (hcl:∀(k:Nat) (x:Co) (W:World),l[k]?=some x→Below w.heap.size w W→Calls Tryz.prog 143 #[coA x,.pointer (some ⟨b,0,none⟩)] W fun e w2=>e=.returned (.bool (p x))∧Below W.heap.size W w2) :
    Calls Tryz.prog 193 #[.slice A n cap,.func (.func 143) #[] #[.pointer (some ⟨b,0,none⟩)]] w fun e w'=>e=.returned (.int .i64 (idxL p l))∧Below w.heap.size w w':=by
 unfold maxLen at hn';have hcl:=hcl
 have HC:=Lib.hid hcl;have HA:=Lib.hid hA;have HN:=Lib.hid hn
 clear hcl hA hn
 go_enter Tryz.func193,Tryz.ntmps193
 go_wp2_with fail
 go_loopw [8] (fun id wr=> ∃k:Nat,k≤n∧id=.int .i64 k∧Below w.heap.size w wr∧∀(j:Nat) x,j<k→l[j]?=some x→p x=false) (fun id _=>n-(RowKit.intOf id).toNat)
 case atStart=>exact⟨0,by omega,rfl,Below.refl _ _,fun j c h=>absurd h (by omega)⟩
 case round=>
  obtain⟨k,hk,rfl,hb,hp⟩:=hrel;have HP:=Lib.hid hp;clear hp
  by_cases hlk:k<n
  · have hki:(k:Int)<n:=by omega
    obtain⟨x,hx⟩:∃x,l[k]?=some x:=⟨_,List.getElem?_eq_getElem (by rw[←HN.out];omega)⟩;obtain⟨i0,s0,⟨k0,u0⟩,n0,m0,t0⟩:=x;obtain⟨g,o,rfl,hg,h1,h2,h3,h4,h5,h6,h7⟩:=HA.out.co hx;have g1:=(hb.cell hg).trans h1;have g2:=(hb.cell hg).trans h2;have g3:=(hb.cell hg).trans h3;have g4:=(hb.cell hg).trans h4;have g5:=(hb.cell hg).trans h5;have g6:=(hb.cell hg).trans h6;have g7:=(hb.cell hg).trans h7;clear h1 h2 h3 h4 h5 h6 h7;simp only at g1 g2 g3 g4 g5 g6 g7;have hcall:=HC.out _ _ wr hx hb
    have HX:=Lib.hid hx;have HB:=Lib.hid hb;have HCA:=Lib.hid hcall
    clear hx hb hcall
    cases hpx:p ((i0,s0,(k0,u0),n0,m0,t0):Co) with
    |true=>
     have HR:=Lib.hid (qJx HX.out HP.out hpx)
     go_wp2_with fail
     refine HCA.out.mono ?_;rw[hpx];clear hpx;rintro en w1 ⟨rfl,b1⟩;have B1:=Lib.hid (HB.out.trans (b1.mono HB.out.size));clear b1
     go_wp2_with fail
     go_ret
     exact⟨congrArg (fun i=>Ending.returned (.int .i64 i)) HR.out.symm,B1.out⟩
    | false=>
     have HPX:=Lib.hid hpx
     go_wp2_with fail
     refine HCA.out.mono ?_;rw[hpx];clear hpx;rintro en w1 ⟨rfl,b1⟩;have B1:=Lib.hid (HB.out.trans (b1.mono HB.out.size));clear b1
     go_wp2_with fail
     go_roundw
     case rel=>
      refine⟨k+1,by omega,by go_num,B1.out,fun j y hj hy=>?_⟩
      by_cases e:j=k
      · subst e;rw[HX.out] at hy
        cases hy
        exact HPX.out
      · exact HP.out j y (by omega) hy
     case measure=>simp[RowKit.intOf];omega
  · have hki:¬(k:Int)<n:=by omega
    have HR:=Lib.hid (qFl (p:=p) (l:=l) (fun j x hx=>HP.out j x (by have:=(List.getElem?_eq_some_iff.1 hx).1;have:=HN.out;omega) hx));have HB:=Lib.hid hb;clear hb
    go_wp2_with fail
    go_ret
    exact⟨congrArg (fun i=>Ending.returned (.int .i64 i)) HR.out.symm,HB.out⟩
theorem qN1 (w:World) (A B:Option Addr) (n cap m capm:Nat) (cs:List Co) (b:Nat) (v:Int) (hn':n≤maxLen) (hn:n=cs.length) (hA:Lay w w.heap.size A (colV cs)) (h0:w.cell? ⟨b,0,none⟩=some (.int .i64 v)) :
    Calls Tryz.prog 142 #[.agg #[.slice A n cap,.slice B m capm],.func (.func 143) #[] #[.pointer (some ⟨b,0,none⟩)]] w fun e w'=>e=.returned (.tuple #[.int .i64 (qFn (fun c=>decide (c.1=v)) cs).1,.bool (qFn (fun c=>decide (c.1=v)) cs).2])∧Below w.heap.size w w':=by
 have hb0:Below w.heap.size w (w.alloc (.cells #[.slice A n cap,.slice B m capm] 33)):=(Below.refl _ w).alloc (Nat.le_refl _) _;have hc:=qKq (w.alloc (.cells #[.slice A n cap,.slice B m capm] 33)) A n cap cs b (fun c=>decide (c.1=v)) hn' hn ((hA.below hb0).more hb0.size) (fun k x W hx hW=>qLg W b x v ((hW.cell (qAx (hb0.cell (qAx h0) |>.trans h0))).trans ((hb0.cell (qAx h0)).trans h0)));obtain⟨f1,f2⟩:=qO1 (fun c=>decide (c.1=v)) cs;rw[←f1,←f2];have HB:=Lib.hid hb0;clear hA hn hn' hb0 f1 f2
 generalize idxL (fun c=>decide (c.1=v)) cs=I at hc ⊢
 have HC:=Lib.hid hc;clear hc
 by_cases hI:0≤I
 · have hmx:max I 0=I:=by omega
   rw[hmx,decide_eq_true hI]
   have hI2:¬I<0:=by omega
   go_enter Tryz.func142,Tryz.ntmps142
   go_wp2_with fail
   refine HC.out.mono ?_;rintro en w1 ⟨rfl,b1⟩;have B1:=Lib.hid (HB.out.trans (b1.mono HB.out.size));clear b1
   go_wp2_with fail
   all_goals (first|(exfalso;omega)|(go_ret2;exact⟨rfl,B1.out⟩))
 · have hmx:max I 0=0:=by omega
   rw[hmx]
   have hI2:I<0:=by omega
   go_enter Tryz.func142,Tryz.ntmps142
   go_wp2_with fail
   refine HC.out.mono ?_;rintro en w1 ⟨rfl,b1⟩;have B1:=Lib.hid (HB.out.trans (b1.mono HB.out.size));clear b1
   go_wp2_with fail
   all_goals (first|(exfalso;omega)|(go_ret2;exact⟨rfl,B1.out⟩))
theorem qOq (w:World) (A B:Option Addr) (n cap m capm:Nat) (cs:List Co) (v:Int) (hn':n≤maxLen) (hn:n=cs.length) (hA:Lay w w.heap.size A (colV cs)) :
    Calls Tryz.prog 103 #[.agg #[.slice A n cap,.slice B m capm],.int .i64 v] w fun e w'=>e=.returned (.tuple #[.int .i64 (qFn (fun c=>decide (c.1=v)) cs).1,.bool (qFn (fun c=>decide (c.1=v)) cs).2])∧Below w.heap.size w w':=by
 have hb0:Below w.heap.size w ((w.alloc (.cells #[.slice A n cap,.slice B m capm] 33)).alloc (.cells #[.int .i64 v] 3)):=((Below.refl _ w).alloc (Nat.le_refl _) _).alloc (by rw[World.size_alloc];omega) _;have q1:=qAf (w.alloc (.cells #[.slice A n cap,.slice B m capm] 33)) (.cells #[.int .i64 v] 3);rw[World.size_alloc] at q1;have hc:=qN1 _ A B n cap m capm cs (w.heap.size+1) v hn' hn ((hA.below hb0).more hb0.size) (cell_of_block (i:=0) q1 rfl)
 have HC:=Lib.hid hc;have HB:=Lib.hid hb0
 clear hc hA hn hn' hb0 q1
 go_enter Tryz.func103,Tryz.ntmps103
 go_wp2_with fail
 refine HC.out.mono ?_;rintro en w1 ⟨rfl,b1⟩;have B1:=Lib.hid (HB.out.trans (b1.mono HB.out.size));clear b1
 go_wp2_with fail
 go_ret2
 exact⟨rfl,B1.out⟩
end Go.Proofs.YtainiaighnjpfaaGreatDoor
