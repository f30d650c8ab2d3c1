/- Evolve's laws: EvolveOnce, walked. Schemas that follow each other, plainly: what EvolveSpoilt says. Evolve's laws: EvolveSpoilt: what lies while a version is spoilt; what is said of it, plainly. Evolve's laws: EvolveSpoilt: a column put ahead, the others' ids raised; what lies meanwhile. -/
import Derived.Test.YtikpmmipopmjaaaGreatDoorZQau
import Derived.Test.YtikpmmipopmjaaaGreatDoorZQaw
import Derived.Test.YtikpmmipopmjaaaGreatDoorZQaj
import Derived.Test.YtikpmmipopmjaaaGreatDoorZQah
import Derived.Test.YtikpmmipopmjaaaGreatDoorZQw
import Derived.Test.YtikpmmipopmjaaaGreatDoorZQx
set_option linter.unusedVariables false
set_option linter.unusedSimpArgs false
namespace Go.Ms
open Go.RowKit Go.Lib
structure zC8 (L:List Sc) (N:List Int):Prop where
  chain:qA6 L=0
  some_:1≤L.length
  few:L.length≤8
  sz:∀s∈L,ScSz s.1
  ok:∀s∈L,scOk s.1 s.2=true
  rlen:∀s∈L,(qLg s.1 N).length≤32
  rsz:∀s∈L,∀c∈qLg s.1 N,c.2.2.size≤100000
  rok:∀s∈L,qBx (qC0 s.1) (qLg s.1 N)=0
  cols:∀s∈L,s.1.length≤32
theorem zDa (C:List Int) (V:List (Int×Int×Int)) {N:List Int} (hN:∀x∈N, -9223372036854775808≤x∧x≤9223372036854775807):zC8 (qEj C V) N:=by
 have hch:=qJe C V;refine⟨hch,(qNs C V).1,(qNs C V).2,zAg C V,qFq hch,fun s hs=>?_,fun s hs=>qSc _ _ _,fun s hs=>?_,fun s hs=>(qK1 (qFq hch s hs)).2.1⟩
 · unfold qLg;rw[qFo];exact(qK1 (qFq hch s hs)).2.1
 · obtain⟨b1,b2,b3⟩:=qK1 (qFq hch s hs);exact qYg b1 (by omega) hN
end Go.Ms
namespace Go.Proofs.YtikpmmipopmjaaaGreatDoor
open Go.RowKit Go.Ms Go.Lib Go.Shelf Go.Rel
end Go.Proofs.YtikpmmipopmjaaaGreatDoor
set_option linter.unusedSimpArgs false
namespace Go.Ms
def qHa (c:Co):Co:=(c.1,⟨#[111,116,104,101,114]⟩,c.2.2)
def qK5 (c:Co):Co:=(c.1,c.2.1,(1,c.2.2.1.2),(c.2.2.1.2&& !c.2.2.2.1,if (c.2.2.1.2&& !c.2.2.2.1)=true then 0 else 1-c.2.2.2.2.1.tmod 2,⟨#[]⟩))
def qDh (k:Nat) (c:Co):Co:=(c.1,if k=0 then ⟨#[107,50]⟩ else c.2.1,(c.2.2.1.1,!c.2.2.1.2&&decide (0<k)),if c.2.2.2.1=true then (false,0,⟨#[]⟩) else c.2.2.2)
def spZ:Co:=(1,⟨#[122]⟩,(1,false),(false,0,⟨#[]⟩))
def qD8 (s:List Co):List Co:=spZ::s.map fun c=>(c.1+1,c.2)
theorem qJk {c d:Co} (h:qBj c d=true→False):qBj c d=false:=by
 cases e:qBj c d with
 |false=>rfl
 |true=>exact(h e).elim
theorem qK9 {c d:Co} (h:qBj c d=true):c.2.1=d.2.1:=by
 unfold qBj at h;simp only[Bool.and_eq_true,decide_eq_true_eq] at h;exact h.1.1.1
theorem qVz {c d:Co} (h:qBj c d=true):c.2.2.1.2=d.2.2.1.2:=by
 unfold qBj at h;simp only[Bool.and_eq_true,decide_eq_true_eq,beq_iff_eq] at h;exact h.1.2
theorem qOb {c d:Co} (h:qBj c d=true):c.2.2.1.1=d.2.2.1.1∨(c.2.2.1.1=2∧d.2.2.1.1=3):=by
 rcases qUs h with e|⟨e1,e2,_⟩
 · exact .inl (congrArg (fun x:Ty=>x.1) e)
 · exact .inr ⟨e1,e2⟩
theorem qCb {c:Co}:coOk c=true↔isNm c.2.1.data.toList=true∧qCc c.2.2.1 c.2.2.2=0:=by
 unfold coOk
 simp
theorem qV8 {i:Nat} {s:List Co} {id:Int} (h:EvOk i s id) (hi:i≤7) {c:Co} (hc:c∈s):coOk (qHa c)=true∧qBj c (qHa c)=false∧(qHa c).2.1.data.toList∉qGa 7:=by
 have hn:=qGo hi (h.nm c hc)
 have hz:(qHa c).2.1.data.toList∉qGa 7:=by show([111,116,104,101,114]:Bs)∉qGa 7;decide +kernel
 refine⟨qCb.2 ⟨by show isNm [111,116,104,101,114]=true;decide +kernel,(qCb.1 (h.co c hc)).2⟩,qJk fun e=>?_,hz⟩;rw[←qK9 e] at hz;exact hz hn
theorem zAk {c:Co} (hc:coOk c=true) (hd:EvDf c):coOk (qK5 c)=true∧qBj c (qK5 c)=false:=by
 obtain⟨i0,nm,⟨k,u⟩,⟨dn,n,t⟩⟩:=c;obtain⟨h1,h2,h3⟩:=hd;simp only at h1 h2 h3;subst h2
 constructor
 · refine qCb.2 ⟨(qCb.1 hc).1,?_⟩;unfold qK5
   rcases h1 with rfl|rfl <;> cases dn <;> first|(show qCc (1,false) (false,0,⟨#[]⟩)=0;decide +kernel)|(show qCc (1,false) (false,1,⟨#[]⟩)=0;decide +kernel)|(show qCc (1,true) (false,0,⟨#[]⟩)=0;decide +kernel)|(show qCc (1,true) (false,1,⟨#[]⟩)=0;decide +kernel)
 · refine qJk fun e=>?_
   have e1:=qOb e;have e2:=qYc e;unfold qK5 at e1 e2;simp only[Prod.mk.injEq] at e1 e2
   rcases h1 with rfl|rfl
   · cases dn <;> simp at e2
   · cases dn <;> simp at e2 h3
theorem zAw {k:Nat} {c:Co} (hc:coOk c=true) (hd:EvDf c) (hn:isNm c.2.1.data.toList=true) (h0:k=0→c.2.1.data.toList≠[107,50]∧c.2.2.1.2=false):coOk (qDh k c)=true∧qBj c (qDh k c)=false:=by
 obtain⟨i0,nm,⟨kd,u⟩,⟨dn,n,t⟩⟩:=c;obtain⟨h1,h2,h3⟩:=hd;simp only at h1 h2 h3 h0 hn;subst h2;have hc2:=(qCb.1 hc).2;have hm:=qYx hc;simp only at hm
 constructor
 · refine qCb.2 ⟨?_,?_⟩
   · unfold qDh
     by_cases hk:k=0
     · simp only[hk,if_pos];decide +kernel
     · simp only[hk,if_false];exact hn
   · unfold qCc qAt at hc2 ⊢;unfold qDh;simp only at hc2 ⊢;rw[if_pos hm] at hc2 ⊢;rw[if_pos]
     cases dn with
     |true=>
      have hk:k≠0:=fun e=>by have:=(h0 e).2;simp at this
      have hk5:1≤kd∧kd≤5:=by unfold kMay at hm;simpa using hm
      have:kd=1∨kd=2∨kd=3∨kd=4∨kd=5:=by omega
      rcases this with rfl|rfl|rfl|rfl|rfl <;> simp <;> decide +kernel
     |false=>
      simp only[Bool.false_eq_true,if_false] at hc2 ⊢;unfold kOk at hc2 ⊢;simp only[Bool.false_eq_true,if_false] at hc2 ⊢
      split at hc2
      · assumption
      · omega
 · refine qJk fun e=>?_
   by_cases hk:k=0
   · have:=qK9 e;unfold qDh at this;simp only[hk,if_pos] at this;exact(h0 hk).1 (by rw[this])
   · have:=qVz e;unfold qDh at this;simp only at this;rw[decide_eq_true (by omega)] at this
     cases dn <;> simp at this
theorem qVt {c:Co} (hk:c.2.2.1.1=2):qBj c (qDi c)=true∧qBj (qDi c) c=false:=by
 constructor
 · unfold qBj qDi
   simp[hk]
 · refine qJk fun e=>?_
   have:=qOb e;unfold qDi at this;simp only[hk] at this;omega
theorem qVs {c:Co} (hc:coOk c=true) (hk:c.2.2.1.1=2):coOk (qDi c)=true:=by
 refine qCb.2 ⟨(qCb.1 hc).1,?_⟩;have h2:=(qCb.1 hc).2;unfold qCc at *; rw[hk] at h2;exact qKu h2
theorem zAl {s:List Co} {ks:List Int} (hu:qKy s) {k:Nat} {c d:Co} (hk:s[k]?=some c) (h1:d.1=c.1) (hs:qBj c d=true) (ab:Int):qAl (s,ks) (s.set k d,ks) ab=true:=by
 unfold qAl;simp only[Bool.and_eq_true,decide_eq_true_eq,List.all_eq_true]
 have at1:∀(j:Nat) x,(s.set k d)[j]?=some x→(j=k∧x=d)∨(j≠k∧s[j]?=some x):=fun j x hx=>by
  rw[List.getElem?_set] at hx;have hkl:=(List.getElem?_eq_some_iff.1 hk).1
  by_cases e:k=j
  · rw[if_pos e,if_pos hkl] at hx;exact .inl ⟨e.symm,(Option.some.inj hx).symm⟩
  · rw[if_neg e] at hx;exact .inr ⟨fun e'=>e e'.symm,hx⟩
 refine⟨fun x hx=>?_,?_⟩
 · obtain⟨j,hj⟩:=List.getElem?_of_mem hx;unfold qDs
   rcases at1 j x hj with⟨e,e1⟩|⟨e,hj1⟩
   · rw[e1,h1,qIj hu hk];simp only[List.getD_eq_getElem?_getD,hk,Option.getD_some];exact hs
   · rw[qIj hu hj1];simp only[List.getD_eq_getElem?_getD,hj1,Option.getD_some];exact qO1 x
 · unfold qA4
   refine List.map_congr_left fun q _=>?_
   simp only[List.getD_eq_getElem?_getD];rw[List.getElem?_set]
   by_cases e:k=q.toNat
   · have hkl:=(List.getElem?_eq_some_iff.1 hk).1;rw[if_pos e,if_pos hkl,←e,hk];exact h1.symm
   · rw[if_neg e]
theorem qYd {i:Nat} {s:List Co} {id:Int} (h:EvOk i s id) (hi:i≤7):scOk (qD8 s) [0]=true∧∀ab,qAl (s,[0]) (qD8 s,[0]) ab=false:=by
 have hl:=h.ln;have hib:=h.ib
 have hz:([122]:Bs)∉qGa 7:=by decide +kernel
 obtain⟨c0,r0,hs0,hc1,hc2⟩:=h.hd
 have at1:∀(j:Nat) x,(qD8 s)[j]?=some x→(j=0∧x=spZ)∨∃q c,j=q+1∧s[q]?=some c∧x=(c.1+1,c.2):=fun j x hx=>by
  unfold qD8 at hx
  cases j with
  |zero=>exact .inl ⟨rfl,by simpa using hx.symm⟩
  |succ q=>
   rw[List.getElem?_cons_succ,List.getElem?_map,Option.map_eq_some_iff] at hx;obtain⟨c,h1,h2⟩:=hx;exact .inr ⟨q,c,rfl,h1,h2.symm⟩
 have hlen:(qD8 s).length=s.length+1:=by unfold qD8;simp
 constructor
 · refine(qB6 _ _).2 ⟨fun j x hx=>?_,by omega,by omega,fun a b x y hab hx hy=>?_,fun j x hx=>?_,fun j x y hx hy=>?_,by simp,fun j x hx=>?_,fun j a b ha hb=>?_,fun j x c' hx hc=>?_⟩
   · rcases at1 j x hx with⟨_,rfl⟩|⟨q,c,_,h1,rfl⟩
     · exact⟨by decide +kernel,by decide +kernel⟩
     · exact qCb.1 (h.co c (List.mem_of_getElem? h1))
   · rcases at1 a x hx with⟨a1,rfl⟩|⟨q,c,a1,a2,rfl⟩
     · rcases at1 b y hy with⟨b1,rfl⟩|⟨p,d,b1,b2,rfl⟩
       · omega
       · intro e
         have:=qGo hi (h.nm d (List.mem_of_getElem? b2));rw[←(show spZ.2.1=d.2.1 from e)] at this;exact hz this
     · rcases at1 b y hy with⟨b1,rfl⟩|⟨p,d,b1,b2,rfl⟩
       · omega
       · exact h.ap q p c d (by omega) a2 b2
   · rcases at1 j x hx with⟨_,rfl⟩|⟨q,c,_,h1,rfl⟩
     · exact⟨by decide +kernel,by decide +kernel⟩
     · have:=h.le c (List.mem_of_getElem? h1)
       simp only
       omega
   · rcases at1 j x hx with⟨a1,rfl⟩|⟨q,c,a1,a2,rfl⟩
     · rcases at1 (j+1) y hy with⟨b1,rfl⟩|⟨p,d,b1,b2,rfl⟩
       · omega
       · have:=h.le d (List.mem_of_getElem? b2)
         show(1:Int)<d.1+1
         omega
     · rcases at1 (j+1) y hy with⟨b1,rfl⟩|⟨p,d,b1,b2,rfl⟩
       · omega
       · have:=h.up p q c d (by omega) a2 b2
         show c.1+1<d.1+1
         omega
   · obtain⟨hj,rfl⟩:j=0∧(0:Int)=x:=by
       cases j with
       |zero=>simpa using hx
       |succ j=>simp at hx
     omega
   · simp at hb
   · obtain⟨hj,rfl⟩:j=0∧(0:Int)=x:=by
       cases j with
       |zero=>simpa using hx
       |succ j=>simp at hx
     rcases at1 0 c' hc with⟨_,rfl⟩|⟨q,c,e,_,_⟩
     · rfl
     · omega
 · intro ab
   cases e:qAl (s,[0]) (qD8 s,[0]) ab with
   |false=>rfl
   |true=>
    exfalso
    unfold qAl at e;simp only[Bool.and_eq_true,decide_eq_true_eq,List.all_eq_true] at e;have h1:=e.1 spZ (by unfold qD8;simp)
    have h2:s[0]?=some c0:=by rw[hs0];rfl
    have h3:=qQ7 h1 (by rw[show spZ.1=c0.1 from hc1.symm];exact qIj h.up h2) h2;have h4:=qGo hi (h.nm c0 (by rw[hs0];simp));rw[qK9 h3] at h4;exact hz h4
theorem qTg {i:Nat} {s:List Co} {id:Int} (h:EvOk i s id) (hi:i≤7):scOk s []=true∧∀ab,qAl (s,[0]) (s,[]) ab=false:=by
 obtain⟨c0,r0,hs0,hc1,hc2⟩:=h.hd
 have h2:s[0]?=some c0:=by rw[hs0];rfl
 constructor
 · have:=qUa h hi h2 (d:=c0) rfl (h.co c0 (by rw[hs0];simp)) (.inl rfl) (fun _=>hc2) (ks:=[]) (.inr rfl)
   rwa [show s.set 0 c0=s by rw[hs0];rfl] at this
 · intro ab
   unfold qAl qA4
   simp
end Go.Ms
set_option linter.unusedSimpArgs false
namespace Go.Ms
open Go.RowKit Go.Lib
structure qSo (sa:Sc) (k:Nat) (d:Co) (ks:List Int):Prop where
  ok:scOk (sa.1.set k d) ks=true
  step:qBh sa (sa.1.set k d,ks)=120
  chain:qA6 [sa,(sa.1.set k d,ks)]=120
theorem qMw {i:Nat} {s:List Co} {id:Int} (h:EvOk i s id) (hi:i≤7) {k:Nat} {c d:Co} (hk:s[k]?=some c) (h1:d.1=c.1) (h2:coOk d=true) (h3:d.2.1=c.2.1∨d.2.1.data.toList∉qGa 7) (h4:k=0→d.2.2.1.2=false) (hs:qBj c d=false):qSo (s,[0]) k d [0]:=by
 have ho:=qUa h hi hk h1 h2 h3 h4 (ks:=[0]) (.inl rfl);obtain⟨a,b⟩:=qNc (a:=(s,[0])) (b:=(s.set k d,[0])) ((qB6 _ _).2 (h.sc hi)) ho (fun ab=>qYu h.up hk h1 hs ab);exact⟨ho,a,b⟩
theorem qPo {i:Nat} {s:List Co} {id:Int} (h:EvOk i s id) (hi:i≤7) {k:Nat} {c:Co} (hk:s[k]?=some c):qSo (s,[0]) k c []:=by
 have e:s.set k c=s:=by
  apply List.ext_getElem?
  intro j
  by_cases hj:j=k
  · subst hj;have hl:=(List.getElem?_eq_some_iff.1 hk).1;rw[List.getElem?_set_self hl,hk]
  · rw[List.getElem?_set_ne (fun e=>hj e.symm)]
 obtain⟨ho,hf⟩:=qTg h hi;obtain⟨a,b⟩:=qNc (a:=(s,[0])) (b:=(s,[])) ((qB6 _ _).2 (h.sc hi)) ho hf;exact⟨by rw[e];exact ho,by rw[e];exact a,by rw[e];exact b⟩
theorem qGn {i:Nat} {s:List Co} {id:Int} (h:EvOk i s id) {c:Co} (hc:s[0]?=some c):c.2.2.1.2=false∧c.1=1:=by
 obtain⟨c0,r,e,e1,e2⟩:=h.hd;rw[e] at hc
 obtain rfl:c0=c:=by simpa using hc
 exact⟨e2,e1⟩
theorem qY5:(⟨#[107,50]⟩:ByteArray).data.toList∉qGa 7:=by decide +kernel
theorem qKo {i:Nat} {s:List Co} {id:Int} (h:EvOk i s id) (hi:i≤7) {k:Nat} {c:Co} (hk:s[k]?=some c):qSo (s,[0]) k (qHa c) [0]:=by
 obtain⟨a,b,e⟩:=qV8 h hi (List.mem_of_getElem? hk);exact qMw h hi hk rfl a (.inr e) (fun h0=>by subst h0;exact(qGn h hk).1) b
theorem qSg {i:Nat} {s:List Co} {id:Int} (h:EvOk i s id) (hi:i≤7) (hd:∀c∈s,EvDf c) {k:Nat} {c:Co} (hk:s[k]?=some c):qSo (s,[0]) k (qK5 c) [0]:=by
 obtain⟨a,b⟩:=zAk (h.co c (List.mem_of_getElem? hk)) (hd c (List.mem_of_getElem? hk));exact qMw h hi hk rfl a (.inl rfl) (fun h0=>by subst h0;exact(qGn h hk).1) b
theorem qIq {i:Nat} {s:List Co} {id:Int} (h:EvOk i s id) (hi:i≤7) (hd:∀c∈s,EvDf c) {k:Nat} {c:Co} (hk:s[k]?=some c):qSo (s,[0]) k (qDh k c) [0]:=by
 have hm:=List.mem_of_getElem? hk;have hn:=qGo hi (h.nm c hm)
 obtain⟨a,b⟩:=zAw (k:=k) (h.co c hm) (hd c hm) (qCb.1 (h.co c hm)).1 (fun h0=>by
  subst h0
  exact⟨fun e=>qY5 (by rw[←e] at *; exact hn),(qGn h hk).1⟩)
 refine qMw h hi hk rfl a ?_ (fun h0=>by subst h0;simp[qDh]) b;unfold qDh
 by_cases h0:k=0
 · right
   simp only[h0,if_true];exact qY5
 · left
   simp only[h0,if_false]
theorem qSe {i:Nat} {s:List Co} {id:Int} (h:EvOk i s id) (hi:i≤7) {k:Nat} {c:Co} (hk:s[k]?=some c) (h2:c.2.2.1.1=2) :
    scOk (s.set k (qDi c)) [0]=true∧qBh (s,[0]) (s.set k (qDi c),[0])=0∧qBh (s.set k (qDi c),[0]) (s,[0])=120:=by
 obtain⟨e1,e2⟩:=qVt h2;have hl:=(List.getElem?_eq_some_iff.1 hk).1;have ho:=qUa h hi hk (d:=qDi c) rfl (qVs (h.co c (List.mem_of_getElem? hk)) h2) (.inl rfl) (fun h0=>by subst h0;exact(qGn h hk).1) (ks:=[0]) (.inl rfl);have hs:=(qB6 _ _).2 (h.sc hi)
 have hback:(s.set k (qDi c)).set k c=s:=by
  rw[List.set_set]
  apply List.ext_getElem?
  intro j
  by_cases hj:j=k
  · subst hj;rw[List.getElem?_set_self hl,hk]
  · rw[List.getElem?_set_ne (fun e=>hj e.symm)]
 refine⟨ho,?_,?_⟩
 · unfold qBh;rw[if_pos ⟨hs,ho⟩,if_pos (zAl (d:=qDi c) h.up hk rfl e1 _)]
 · have hno:=fun ab=>qYu (s:=s.set k (qDi c)) (ks:=[0]) (ls:=[0]) (qYw ((qB6 _ _).1 ho)) (k:=k) (c:=qDi c) (d:=c) (List.getElem?_set_self hl) rfl e2 ab
   rw[hback] at hno;exact(qNc (a:=(s.set k (qDi c),[0])) (b:=(s,[0])) ho hs hno).1
theorem qBf.ref1 {W:World} {B1 B2:Nat} {eC eI:TypeId} {A' B':Option Addr} {N M c d:Nat} {s:Sc} (h1:qBt W B1 eC (.slice A' N c) s.1) (h2:OwnI W B2 eI (.slice B' M d) s.2) (hN:N=s.1.length) (hM:M=s.2.length) (n1:N≤100000) (n2:M≤100000) :
    qBf W W.heap.size ⟨A',N,c,B',M,d⟩ s:=by
 unfold qBt at h1;unfold OwnI at h2;rw[←hN] at h1;rw[←hM] at h2;exact⟨hN,hM,n1,n2,Lay.of_own h1 (Nat.le_refl _),Lay.of_own h2 (Nat.le_refl _)⟩
structure SpSt (tS tC tI:TypeId) (g8 g9 g11:Nat) (ra:SRef) (sa:Sc) (A9:Option Addr) (c9:Nat) (kv:Value) (cs:List Co) (ks:List Int) (d:Co) (w W:World):Prop where
  b8:W.heap[g8]?=some (.cells #[.slice ra.a ra.n ra.c,.slice ra.b ra.m ra.d] tS (0,0))
  b9:W.heap[g9]?=some (.cells #[.slice A9 cs.length c9,kv] tS (0,0))
  b11:W.heap[g11]?=some (.cells (coV d).toArray tC (0,0))
  own:qBt W (g8+1) tC (.slice A9 cs.length c9) cs
  ki:OwnI W (g8+1) tI kv ks
  nb:∀b,(Value.slice A9 cs.length c9).ownBlock=some b→b<g9
  la:qBf W g8 ra sa
  bel:Below w.heap.size w W
  l0:w.heap.size≤g8
  l1:g8<g9
  l2:g9<g11
section
variable {tS tC tI:TypeId} {g8 g9 g11:Nat} {ra:SRef} {sa:Sc} {A9:Option Addr} {c9:Nat} {kv:Value} {cs:List Co} {ks:List Int} {d:Co} {N:Nat} {w W W':World}
theorem SpSt.to (h:SpSt tS tC tI g8 g9 g11 ra sa A9 c9 kv cs ks d w W) (hb:Below W.heap.size W W'):SpSt tS tC tI g8 g9 g11 ra sa A9 c9 kv cs ks d w W':=
  have z8:g8≤W.heap.size:=Nat.le_of_lt (Array.getElem?_eq_some_iff.1 h.b8).1
  ⟨qAb h.b8 hb,qAb h.b9 hb,qAb h.b11 hb,own_below h.own hb,own_below h.ki hb,h.nb,h.la.below (hb.mono z8),h.bel.trans (hb.mono h.bel.size),h.l0,h.l1,h.l2⟩
theorem SpSt.col (h:SpSt tS tC tI g8 g9 g11 ra sa A9 c9 kv cs ks d w W) (hne:tC≠tI) {d':Co} (hg:W.grownBy W' (some g11)) (hq:W'.heap[g11]?=some (.cells (coV d').toArray tC (0,0))):SpSt tS tC tI g8 g9 g11 ra sa A9 c9 kv cs ks d' w W':=by
 have l1:=h.l1;have l2:=h.l2
 have go:∀{k:Nat} {o:Obj},k≠g11→W.heap[k]?=some o→W'.heap[k]?=some o:=fun hk ho=>(hg.block _ (Array.getElem?_eq_some_iff.1 ho).1 (fun e=>hk (by cases e;rfl))).trans ho
 have hb8:Below g8 W W':=⟨hg.os,hg.tape,hg.output,hg.size,fun k hk=>hg.block k (Nat.lt_trans hk (Array.getElem?_eq_some_iff.1 h.b8).1) (fun e=>by cases e;omega)⟩;refine⟨go (by omega) h.b8,go (by omega) h.b9,hq,World.ownsRow.kept h.own hg (.inr fun e=>by have:=h.nb g11 e;omega),World.ownsRow.kept h.ki hg ?_,h.nb,h.la.below hb8,h.bel.grown hg h.bel.size (fun k e=>by cases e;have:=h.l0;omega),h.l0,h.l1,h.l2⟩
 cases hk:kv.ownBlock with
 |none=>exact .inl rfl
 |some b=>
  right
  intro e
  cases e
  obtain⟨-,hr⟩:=h.ki
  rcases hr with⟨hv,_⟩|⟨g,cap,cur,hv,_,hgb,_⟩
  · rw[hv] at hk;simp[Value.ownBlock] at hk
  · rw[hv] at hk
    have hgg:g=g11:=by simpa[Value.ownBlock] using hk
    subst hgg;rw[h.b11] at hgb
    injection hgb with hgb
    injection hgb with _ ht
    exact hne ht
structure SpB (tS tC tI:TypeId) (g8 g9:Nat) (ra:SRef) (sa:Sc) (A9:Option Addr) (N c9:Nat) (kv:Value) (cs:List Co) (ks:List Int) (w W:World):Prop where
  b8:W.heap[g8]?=some (.cells #[.slice ra.a ra.n ra.c,.slice ra.b ra.m ra.d] tS (0,0))
  b9:W.heap[g9]?=some (.cells #[.slice A9 N c9,kv] tS (0,0))
  own:qBt W (g8+1) tC (.slice A9 N c9) cs
  ki:OwnI W (g8+1) tI kv ks
  la:qBf W g8 ra sa
  bel:Below w.heap.size w W
  len:cs.length=N
theorem SpB.to (h:SpB tS tC tI g8 g9 ra sa A9 N c9 kv cs ks w W) (hb:Below W.heap.size W W'):SpB tS tC tI g8 g9 ra sa A9 N c9 kv cs ks w W':=
  have z8:g8≤W.heap.size:=Nat.le_of_lt (Array.getElem?_eq_some_iff.1 h.b8).1
  ⟨qAb h.b8 hb,qAb h.b9 hb,own_below h.own hb,own_below h.ki hb,h.la.below (hb.mono z8),h.bel.trans (hb.mono h.bel.size),h.len⟩
theorem SpB.lb (h:SpB tS tC tI g8 g9 ra sa A9 N c9 kv cs ks w W) (hc:cs.length≤100000) (hk:ks.length≤100000):∃K d,kv=.slice K ks.length d∧qBf W W.heap.size ⟨A9,N,c9,K,ks.length,d⟩ (cs,ks):=by
 obtain⟨K,d,rfl,-,-⟩:=qAg h.ki;exact⟨K,d,rfl,qBf.ref1 h.own h.ki h.len.symm rfl (by rw[←h.len];exact hc) hk⟩
theorem SpB.aa (h:SpB tS tC tI g8 g9 ra sa A9 N c9 kv cs ks w W):qBf W W.heap.size ra sa:=h.la.more (Nat.le_of_lt (Array.getElem?_eq_some_iff.1 h.b8).1)
theorem SpSt.put {g:Nat} (h:SpSt tS tC tI g8 g9 g11 ra sa (some ⟨g,0,none⟩) c9 kv cs ks d w W) (hne:tC≠tI) {k:Nat} (hk:k<cs.length) (c:Co) :
    SpB tS tC tI g8 g9 ra sa (some ⟨g,0,none⟩) cs.length c9 kv (cs.set k c) ks w (((((((W.setCell ⟨g,k*7,none⟩ (.int .i64 c.1)).setCell ⟨g,k*7+1,none⟩ (.string c.2.1)).setCell ⟨g,k*7+2,none⟩ (.int .i64 c.2.2.1.1)).setCell ⟨g,k*7+3,none⟩ (.bool c.2.2.1.2)).setCell ⟨g,k*7+4,none⟩ (.bool c.2.2.2.1)).setCell ⟨g,k*7+5,none⟩ (.int .i64 c.2.2.2.2.1)).setCell ⟨g,k*7+6,none⟩ (.string c.2.2.2.2.2)):=by
 have hg:=qYr W g (k*7) (.int .i64 c.1) (.string c.2.1) (.int .i64 c.2.2.1.1) (.bool c.2.2.1.2) (.bool c.2.2.2.1) (.int .i64 c.2.2.2.2.1) (.string c.2.2.2.2.2);have hb:=(World.ownsRow.lt h.own g rfl).1;have hb9:=h.nb g rfl
 have go:∀{j:Nat} {o:Obj},j≠g→W.heap[j]?=some o→_=some o:=fun {j o} hj ho=>(hg.block j (Array.getElem?_eq_some_iff.1 ho).1 (fun e=>hj (by cases e;rfl))).trans ho
 refine⟨go (by omega) h.b8,go (by omega) h.b9,qVn h.own hk c,World.ownsRow.kept h.ki hg ?_,h.la.below ⟨hg.os,hg.tape,hg.output,hg.size,fun j hj=>hg.block j (Nat.lt_trans hj (Array.getElem?_eq_some_iff.1 h.b8).1) (fun e=>by cases e;omega)⟩,h.bel.grown hg h.bel.size (fun j e=>by cases e;have:=h.l0;omega),List.length_set ..⟩;have:=qF4 h.ki h.own (Ne.symm hne)
 simpa[Value.ownBlock] using this
theorem SpSt.nokey (h:SpSt tS tC tI g8 g9 g11 ra sa A9 c9 kv cs ks d w W) (hne:tS≠tC):SpSt tS tC tI g8 g9 g11 ra sa A9 c9 (.slice none 0 0) cs [] d w (W.setCell ⟨g9,1,none⟩ (.slice none 0 0)):=by
 have l1:=h.l1;have l2:=h.l2;have hg:=qAm W g9 1 (.slice none 0 0);have hb8:Below g8 W (W.setCell ⟨g9,1,none⟩ (.slice none 0 0)):=⟨hg.os,hg.tape,hg.output,hg.size,fun k hk=>hg.block k (Nat.lt_trans hk (Array.getElem?_eq_some_iff.1 h.b8).1) (fun e=>by cases e;omega)⟩;exact⟨qAj h.b8 (by omega) _,qDd h.b9 _,qAj h.b11 (by omega) _,World.ownsRow.kept h.own hg (.inr fun e=>by have:=h.nb g9 e;omega),World.ownsRow_nil _ _ _ _,h.nb,h.la.below hb8,h.bel.grown hg h.bel.size (fun k e=>by cases e;have:=h.l0;omega),h.l0,h.l1,h.l2⟩
end
theorem qGb {W:World} {b:Nat} {cs:Array Value} {T:TypeId} (h:W.heap[b]?=some (.cells cs T (0,0))) (i:Nat) (u:Value):(W.setCell ⟨b,i,none⟩ u).heap[b]?=some (.cells (cs.setIfInBounds i u) T (0,0)):=by
 simp[World.setCell,Array.getElem?_modify,h]
theorem qUx (w:World) (g:Nat) (a b c d e f x:Value):w.grownBy (((((((w.setCell ⟨g,0,none⟩ a).setCell ⟨g,1,none⟩ b).setCell ⟨g,2,none⟩ c).setCell ⟨g,3,none⟩ d).setCell ⟨g,4,none⟩ e).setCell ⟨g,5,none⟩ f).setCell ⟨g,6,none⟩ x) (some g):=
  (((((((qAm w g 0 a).trans (qAm _ g 1 b)).trans (qAm _ g 2 c)).trans (qAm _ g 3 d)).trans (qAm _ g 4 e)).trans (qAm _ g 5 f)).trans (qAm _ g 6 x))
end Go.Ms
set_option linter.unusedSimpArgs false
namespace Go.Ms
open Go.RowKit Go.Lib
def spUp (c:Co):Co:=(c.1+1,c.2)
def qFd (j:Nat) (s:List Co):List Co:=spZ::((s.take j).map spUp++s.drop j)
theorem qQj (s:List Co):qFd 0 s=spZ::s:=by simp[qFd]
theorem qSm (s:List Co):qFd s.length s=qD8 s:=by
 unfold qFd qD8;rw[List.take_length,List.drop_length,List.append_nil];rfl
theorem qTx {j:Nat} {s:List Co} {c:Co} (h:s[j]?=some c):(qFd j s)[j+1]?=some c:=by
 have hl:=(List.getElem?_eq_some_iff.1 h).1;unfold qFd;rw[List.getElem?_cons_succ,List.getElem?_append_right (by rw[List.length_map,List.length_take];omega),List.length_map,List.length_take,List.getElem?_drop]
 have e:j+(j-min j s.length)=j:=by omega
 rw[e,h]
theorem qQh {j:Nat} {s:List Co} {c:Co} (h:s[j]?=some c):(qFd j s).set (j+1) (c.1+1,c.2)=qFd (j+1) s:=by
 have hl:=(List.getElem?_eq_some_iff.1 h).1;unfold qFd;rw[List.set_cons_succ]
 congr 1
 have hd:s.drop j=c::s.drop (j+1):=by
  rw[List.drop_eq_getElem_cons hl]
  congr 1
  exact(List.getElem?_eq_some_iff.1 h).2
 have ht:s.take (j+1)=s.take j++[c]:=by
  rw[List.take_add_one,h];rfl
 rw[hd,ht,List.map_append,List.append_assoc,List.set_append_right _ _ (by rw[List.length_map,List.length_take];omega)];rw[List.length_map,List.length_take]
 have e:j-min j s.length=0:=by omega
 rw[e];rfl
theorem qI2:∀(l:List Co) (k:Nat) (c:Co) (v:Int),l[k]?=some c→(colV l).set (k*7) (.int .i64 v)=colV (l.set k (v,c.2))
  |[],k,c,v,h=>by simp at h
  |a::t,0,c,v,h=>by
   obtain rfl:a=c:=by simpa using h
   rfl
  |a::t,k+1,c,v,h=>by
   have ih:=qI2 t k c v (by simpa using h)
   have ec:∀(x:Co) (m:List Co),colV (x::m)=.int .i64 x.1::.string x.2.1::.int .i64 x.2.2.1.1::.bool x.2.2.1.2::.bool x.2.2.2.1::.int .i64 x.2.2.2.2.1::.string x.2.2.2.2.2::colV m:=fun _ _=>rfl
   have e0:(k+1)*7=k*7+7:=by omega
   rw[List.set_cons_succ,ec,ec,e0];simp only[List.set_cons_succ];rw[ih]
theorem zBv {w:World} {B n cap g:Nat} {e:TypeId} {l:List Co} {k:Nat} {c:Co} (h:qBt w B e (.slice (some ⟨g,0,none⟩) n cap) l) (hk:l[k]?=some c) (v:Int) :
    qBt (w.setCell ⟨g,k*7,none⟩ (.int .i64 v)) B e (.slice (some ⟨g,0,none⟩) n cap) (l.set k (v,c.2)):=by
 have hl:=h.lay
 have h':w.ownsRow B e 7 (.slice (some ⟨g,0,none⟩) n cap) n (colV l):=by unfold qBt at h;rw[←hl.1] at h;exact h
 unfold qBt;rw[List.length_set,←hl.1,←qI2 l k c v hk];exact(World.ownsRow.stored h' _ _).1
theorem qP6 {w:World} {B n cap:Nat} {e:TypeId} {A:Option Addr} {l:List Co} (h:qBt w B e (.slice A n cap) l) (hl:0<l.length):∃g,A=some ⟨g,0,none⟩:=by
 rcases h.2 with⟨_,h0⟩|⟨g,cap',cur,hv,_⟩
 · omega
 · injection hv with h1;exact⟨g,h1⟩
theorem zBu {w:World} {B n g cap sz:Nat} {e:TypeId} {xs:List Value} (h:w.ownsRow B e sz (.slice (some ⟨g,0,none⟩) n cap) n xs):∃cur,w.heap[g]?=some (.cells cur e (0,0)):=by
 rcases h.2 with⟨h0,_⟩|⟨g',cap',cur,hv,_,hg,_⟩
 · cases h0
 · injection hv with h1 h2
   injection h1 with h1
   injection h1 with h1
   subst h1;exact⟨cur,hg⟩
section
variable {tS tC tI:TypeId} {g8 g9 g11:Nat} {ra:SRef} {sa:Sc} {A9:Option Addr} {c9:Nat} {kv:Value} {cs:List Co} {ks:List Int} {d:Co} {N:Nat} {w W W':World}
theorem SpSt.ahead (h:SpSt tS tC tI g8 g9 g11 ra sa A9 c9 kv cs ks d w W) {W1 W2:World} {l:List Co} {A:Option Addr} {n c:Nat} (h1:Below W.heap.size W W1) (hown:qBt W2 W.heap.size tC (.slice A n c) l) {q:Option Nat} (hq:∀k,q=some k→W.heap.size≤k) (hg:W1.grownBy W2 q) (hn:l.length=n) (his:tI≠tS) :
    SpB tS tC tI g8 g9 ra sa A n c kv l ks w (W2.setCell ⟨g9,0,none⟩ (.slice A n c)):=by
 have l0:=h.l0;have l1:=h.l1;have l2:=h.l2;have hz:g9<W.heap.size:=(Array.getElem?_eq_some_iff.1 h.b9).1;have hb:Below W.heap.size W W2:=h1.grown hg h1.size hq;have h2:=h.to hb;have hs:=qAm W2 g9 0 (.slice A n c);refine⟨qAj h2.b8 (by omega) _,two_set0 h2.b9 _,?_,World.ownsRow.kept h2.ki hs ?_,?_,h2.bel.grown hs h2.bel.size (fun k e=>by cases e;omega),hn⟩
 · exact World.ownsRow.kept (qBp hown (by omega)) hs (.inr fun e=>by have:=(World.ownsRow.lt hown g9 e).1;omega)
 · have hki:=h2.ki
   rcases hki.2 with⟨rfl,_⟩|⟨g,cap,cur,rfl,hB,hgc,hr⟩
   · exact .inl rfl
   · right
     intro e
     have e:g=g9:=by simpa[Value.ownBlock] using e
     subst e;have h9:=h2.b9;rw[hgc] at h9
     injection h9 with h9
     injection h9 with _ h9
     exact his h9
 · exact h2.la.below ⟨hs.os,hs.tape,hs.output,hs.size,fun j hj=>hs.block j (Nat.lt_trans hj (Array.getElem?_eq_some_iff.1 h2.b8).1) (fun e=>by cases e;omega)⟩
theorem SpB.id {g:Nat} (h:SpB tS tC tI g8 g9 ra sa (some ⟨g,0,none⟩) N c9 kv cs ks w W) (hne:tC≠tI) (hns:tC≠tS) (hl:w.heap.size≤g8) {k:Nat} {c:Co} (hk:cs[k]?=some c) (v:Int) :
    SpB tS tC tI g8 g9 ra sa (some ⟨g,0,none⟩) N c9 kv (cs.set k (v,c.2)) ks w (W.setCell ⟨g,k*7,none⟩ (.int .i64 v)):=by
 have hg:=qAm W g (k*7) (.int .i64 v);have hb:=(World.ownsRow.lt h.own g rfl).1;have hN:=h.len
 obtain⟨cur,hty⟩:∃cur,W.heap[g]?=some (.cells cur tC (0,0)):=by
  have ho:=h.own;unfold qBt at ho;rw[hN] at ho;exact zBu ho
 have h9:g9≠g:=by
  intro e
  have h9:=h.b9;rw[e,hty] at h9
  injection h9 with h9
  injection h9 with _ h9
  exact hns h9
 refine⟨qAj h.b8 (by omega) _,qAj h.b9 h9 _,zBv h.own hk v,World.ownsRow.kept h.ki hg ?_,h.la.below ⟨hg.os,hg.tape,hg.output,hg.size,fun j hj=>hg.block j (Nat.lt_trans hj (Array.getElem?_eq_some_iff.1 h.b8).1) (fun e=>by cases e;omega)⟩,h.bel.grown hg h.bel.size (fun j e=>by cases e;omega),?_⟩
 · have:=qF4 h.ki h.own (Ne.symm hne)
   simpa[Value.ownBlock] using this
 · rw[List.length_set];exact hN
end
end Go.Ms
