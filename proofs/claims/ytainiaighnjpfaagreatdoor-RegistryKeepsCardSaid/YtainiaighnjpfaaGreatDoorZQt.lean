/- Schemas, plainly: the columns that are read may be; how large what they hold is. Schemas: a text read. -/
import Derived.Test.YtainiaighnjpfaaGreatDoorZQb
import Derived.Test.YtainiaighnjpfaaGreatDoorZQn
import Derived.Test.YtainiaighnjpfaaGreatDoorZQc
import Derived.Test.YtainiaighnjpfaaGreatDoorZQq
import Derived.Test.YtainiaighnjpfaaGreatDoorZQr
import Derived.Test.YtainiaighnjpfaaGreatDoorZQs
set_option linter.unusedVariables false
set_option linter.unusedSimpArgs false
namespace Go.Ms
open Go.RowKit Go.Lib
theorem qPr {k n:Int} {s:Bs} (h:kIs k n s=true):s.length≤1024∧ -9223372036854775808≤n∧n≤9223372036854775807:=by
 unfold kIs at h
 by_cases h1:k=1
 · simp[h1] at h;obtain⟨⟨rfl,h2⟩,h3⟩:=h;simp;omega
 by_cases h2:k=2
 · simp[h2] at h;obtain⟨⟨rfl,h2⟩,h3⟩:=h;simp;omega
 by_cases h3:k=3
 · simp[h3] at h;obtain⟨⟨rfl,h2⟩,h3⟩:=h;simp;omega
 by_cases h4:k=4
 · simp[h4] at h;obtain⟨⟨rfl,h2⟩,h3⟩:=h;omega
 · simp[h1,h2,h3,h4] at h;obtain⟨rfl,h2⟩:=h;omega
theorem qGm {k:Int} {tn nu:Bool} {n:Int} {s:Bs} (h:qAt k tn nu n s=0):s.length≤1024∧ -9223372036854775808≤n∧n≤9223372036854775807:=by
 obtain⟨_,h2⟩:=qIh h;unfold kOk at h2
 cases nu with
 |true=>simp at h2;obtain⟨⟨_,rfl⟩,rfl⟩:=h2;simp
 |false=>exact qPr (by simpa using h2)
theorem qNl {c:Co} (h:coOk c=true):c.2.1.size≤32∧c.2.2.2.2.2.size≤1024∧ -9223372036854775808≤c.2.2.2.2.1∧c.2.2.2.2.1≤9223372036854775807:=by
 unfold coOk at h;simp only[Bool.and_eq_true,decide_eq_true_eq] at h;obtain⟨hn,hc⟩:=h;unfold isNm at hn;simp only[Bool.and_eq_true,decide_eq_true_eq] at hn
 have h1:c.2.1.data.toList.length=c.2.1.size:=by simp
 have h2:c.2.2.2.2.2.data.toList.length=c.2.2.2.2.2.size:=by simp
 have:=qGm hc;omega
theorem qP9 {a b k t:Bs} {c:Co} {key:Bool} (h:qD7 a b k t=some (c,key)):coOk c=true∧0≤c.1∧c.1≤1048576∧idOf a=c.1∧c.2.1=⟨b.toArray⟩∧
    c.2.2.1=(kindOf (qAz 63 (qAz 42 k).1).1,(qAz 63 (qAz 42 k).1).2)∧1≤kindOf (qAz 63 (qAz 42 k).1).1∧key=(qAz 42 k).2∧qUs c=t:=by
 unfold qD7 at h
 by_cases hc:isNm b=true∧0≤idOf a∧1≤kindOf (qAz 63 (qAz 42 k).1).1∧(qBg (kindOf (qAz 63 (qAz 42 k).1).1) (qAz 63 (qAz 42 k).1).2 t).2=0
 · rw[if_pos hc] at h;obtain⟨h1,h2,h3,h4⟩:=hc
   generalize hK:kindOf (qAz 63 (qAz 42 k).1).1=K at h h3 h4 ⊢
   generalize hU:(qAz 63 (qAz 42 k).1).2=U at h h4 ⊢
   obtain⟨R,hR⟩:∃R,qBg K U t=R:=⟨_,rfl⟩;rw[hR] at h h4;obtain⟨⟨nu,n,s⟩,er⟩:=R;simp only at h4;subst h4;obtain⟨hz,ht⟩:=qPn hR;simp only[Option.some.injEq,Prod.mk.injEq] at h;obtain⟨rfl,rfl⟩:=h
   have hi:idOf a≤1048576:=by
    unfold idOf
    split
    · rename_i e;exact e.2.2
    · omega
   refine⟨?_,h2,hi,rfl,rfl,rfl,h3,rfl,ht⟩;unfold coOk;simp only[Bool.and_eq_true,decide_eq_true_eq];exact⟨h1,hz⟩
 · exact absurd (h.symm.trans (if_neg hc)) (by simp)
theorem qP3 {s:Bs} {c:Co} {key:Bool} (h:qEt s=some (c,key)):coOk c=true∧0≤c.1∧c.1≤1048576:=by
 unfold qEt at h
 split at h
 · cases h
 split at h
 · cases h
 split at h
 · cases h
 obtain⟨h1,h2,h3,_⟩:=qP9 h;exact⟨h1,h2,h3⟩
end Go.Ms
set_option linter.unusedSimpArgs false
namespace Go.Ms
open Go.RowKit Go.Lib
def qB3:List Co→List Int→List ByteArray→Option (List Co×List Int)
  |cs,ks,[]=>some (cs,ks)
  |cs,ks,l::r=>match qAo l.data.toList with
   |none=>none
   |some x=>qB3 (cs++[x.1]) (if x.2=true then ks++[(cs.length:Int)] else ks) r
theorem qHg {l:ByteArray} {x:Co×Bool} (hx:qAo l.data.toList=some x):∀(pre:List ByteArray) (cs cs':List Co) (ks ks':List Int),qB3 cs ks pre=some (cs',ks')→
    qB3 cs ks (pre++[l])=some (cs'++[x.1],if x.2=true then ks'++[(cs'.length:Int)] else ks')
  |[],cs,cs',ks,ks',h=>by
   simp only[qB3,Option.some.injEq,Prod.mk.injEq] at h;obtain⟨rfl,rfl⟩:=h;simp only[List.nil_append,qB3,hx]
  | a::r,cs,cs',ks,ks',h=>by
   rw[List.cons_append,qB3];rw[qB3] at h
   cases ha:qAo a.data.toList with
   |none=>rw[ha] at h;cases h
   |some y=>
    rw[ha] at h;exact qHg hx r _ _ _ _ h
theorem qSl {l:Bs}:qAz 10 (l++[10])=(l,true):=by
 unfold qAz;rw[if_pos (by simp),List.dropLast_concat]
theorem qDz (l:Bs):qAo (l++[10])=qEt l:=by unfold qAo;rw[qSl];rfl
theorem qJ3 {l:Bs} (h:(10:UInt8)∉l):qAo l=none:=by
 have h2:¬l.getLast?=some 10:=fun e=>h (List.mem_of_getLast? e)
 simp[qAo,qAz,h2]
theorem qIj (t:Bs) (ht:(10:UInt8)∉t):∀(ls:List Bs) (cs:List Co) (ks:List Int),
    qB3 cs ks ((ls.map (fun l=>l++[10])++(if t=[] then [] else [t])).map fun l=>(⟨l.toArray⟩:ByteArray)) =
      if ((readAll cs ks ls).2.2&&decide (t=[]))=true then some ((readAll cs ks ls).1,(readAll cs ks ls).2.1) else none
  |[],cs,ks=>by
   by_cases h:t=[]
   · subst h;simp[qB3,readAll]
   · simp only[h,List.map_nil,List.nil_append,if_false,List.map_cons,qB3,readAll,decide_false,Bool.and_false,Bool.false_eq_true];rw[qJ3 ht]
  |l::ls,cs,ks=>by
   rw[List.map_cons,List.cons_append,List.map_cons,qB3,readAll]
   have e:∀b:Bs,(ByteArray.mk b.toArray).data.toList=b:=fun _=>rfl
   simp only[e,qDz]
   cases h:qEt l with
   |none=>simp
   |some x=>exact qIj t ht ls _ _
theorem qHd (t:Bs) (ht:(10:UInt8)∉t) {x:ByteArray} (hx:qAo x.data.toList=none):∀(ls:List Bs) (pre:List ByteArray) (cs cs':List Co) (ks ks':List Int),
    (pre++[x]) <+: ((ls.map (fun l=>l++[10])++(if t=[] then [] else [t])).map fun l=>(⟨l.toArray⟩:ByteArray))→qB3 cs ks pre=some (cs',ks')→
    ((readAll cs ks ls).2.2&&decide (t=[]))=false∧(readAll cs ks ls).1=cs'
  |[],pre,cs,cs',ks,ks',hp,hr=>by
   by_cases h:t=[]
   · simp[h] at hp
   · simp only[h,List.map_nil,List.nil_append,if_false,List.map_cons] at hp;have hl:=hp.length_le
     simp at hl
     obtain rfl:pre=[]:=hl;simp only[qB3,Option.some.injEq,Prod.mk.injEq] at hr
     simp[readAll,h,hr.1]
  |l::ls,[],cs,cs',ks,ks',hp,hr=>by
   simp only[List.nil_append,List.map_cons,List.cons_append] at hp;obtain rfl:=(List.cons_prefix_cons.1 hp).1;simp only[qB3,Option.some.injEq,Prod.mk.injEq] at hr;have e:(ByteArray.mk (l++[10]).toArray).data.toList=l++[10]:=rfl;rw[e,qDz] at hx;rw[readAll,hx];exact⟨rfl,hr.1⟩
  | l::ls,a::r,cs,cs',ks,ks',hp,hr=>by
   simp only[List.map_cons,List.cons_append] at hp;obtain⟨rfl,hp2⟩:=List.cons_prefix_cons.1 hp;have e:(ByteArray.mk (l++[10]).toArray).data.toList=l++[10]:=rfl;rw[qB3,e,qDz] at hr;rw[readAll]
   cases h:qEt l with
   |none=>rw[h] at hr;cases hr
   |some y=>
    rw[h] at hr;exact qHd t ht hx ls r _ _ _ _ hp2 hr
theorem qHo (s:Bs):(qDu s).flatten=s:=by
 have h:=qGk s;unfold qDu;rw[List.flatten_append,←List.flatMap_def]
 conv=>rhs;rw[h]
 congr 1
 split
 · rename_i e;rw[e];rfl
 · simp
theorem qLn {S x:ByteArray} (h:x∈qBn S):x.size≤S.size:=by
 unfold qBn at h;obtain⟨l,hl,rfl⟩:=List.mem_map.1 h;have h1:=(List.sublist_flatten_of_mem hl).length_le;rw[qHo] at h1
 have h2:S.data.toList.length=S.size:=by simp
 have h3:(ByteArray.mk l.toArray).size=l.length:=List.size_toArray;omega
theorem qN4 {S x:ByteArray} {pre:List ByteArray} {cs:List Co} {ks:List Int} (hp:(pre++[x]) <+: qBn S) (hr:qB3 [] [] pre=some (cs,ks)) (hx:qAo x.data.toList=none) :
    (qB4 S.data.toList).2.2=false∧(qB4 S.data.toList).1=cs:=by
 unfold qBn qDu at hp;unfold qB4;exact qHd _ (qGe _).2 hx _ _ _ _ _ _ hp hr
theorem qG6:∀(ls:List ByteArray) (cs cs':List Co) (ks ks':List Int),(∀c∈cs,coOk c=true)→qB3 cs ks ls=some (cs',ks')→(∀c∈cs',coOk c=true)∧cs'.length=cs.length+ls.length∧ks'.length≤ks.length+ls.length
  |[],cs,cs',ks,ks',h,hr=>by
   simp only[qB3,Option.some.injEq,Prod.mk.injEq] at hr;obtain⟨rfl,rfl⟩:=hr;exact⟨h,by simp,by simp⟩
  | l::ls,cs,cs',ks,ks',h,hr=>by
   rw[qB3] at hr
   cases hl:qAo l.data.toList with
   |none=>rw[hl] at hr;cases hr
   | some x=>
    rw[hl] at hr
    obtain⟨h1,h2,h3⟩:=qG6 ls _ _ _ _ (fun c hc=>by
     rcases List.mem_append.1 hc with h1|h1
     · exact h c h1
     · have:c=x.1:=by simpa using h1
       subst this;unfold qAo at hl
       split at hl
       · exact(qP3 (c:=x.1) (key:=x.2) hl).1
       · cases hl) hr
    refine⟨h1,by rw[h2];simp;omega,?_⟩
    split at h3 <;> simp at h3 ⊢ <;> omega
theorem qIz (S:ByteArray):(qBn S).length≤S.size:=by
 have h0:∀l:List Bs,(∀x∈l,x≠[])→l.length≤l.flatten.length:=by
  intro l
  induction l with
  |nil=>simp
  |cons a t ih=>
   intro h
   have h1:a.length≠0:=fun e=>h a (by simp) (List.eq_nil_of_length_eq_zero e)
   have h2:=ih fun x hx=>h x (by simp[hx])
   simp only[List.length_cons,List.flatten_cons,List.length_append];omega
 unfold qBn;rw[List.length_map];refine Nat.le_trans (h0 _ fun x hx=>?_) (by rw[qHo];simp);unfold qDu at hx
 rcases List.mem_append.1 hx with h|h
 · obtain⟨l,_,rfl⟩:=List.mem_map.1 h
   simp
 · split at h
   · cases h
   · rename_i e;simp at h;rw[h];exact e
theorem qKy (S:ByteArray):qB3 [] [] (qBn S)=if (qB4 S.data.toList).2.2=true then some ((qB4 S.data.toList).1,(qB4 S.data.toList).2.1) else none:=by
 unfold qBn qDu qB4;exact qIj _ (qGe _).2 _ [] []
end Go.Ms
