/- Schemas: copied, compared. Schemas, plainly: the columns that are read may be; how large what they hold is. Schemas: a text read. -/
import Derived.Test.YtainiaighnjpfaaGreatDoorZQt
import Derived.Test.YtainiaighnjpfaaGreatDoorZQr
set_option maxRecDepth 100000
set_option linter.unusedVariables false
set_option linter.unusedSimpArgs false
namespace Go.Ms
open Go.RowKit Go.Lib
def qBw (w:World) (B:Nat) (e:TypeId) (v:Value) (l:List Co):Prop:=w.ownsRow B e 7 v l.length (colV l)
theorem qP4 (l:List Int):(intV l).length=l.length*1:=by unfold intV;rw[List.length_map,Nat.mul_one]
theorem qBw.lay {w:World} {B:Nat} {e:TypeId} {A:Option Addr} {n c:Nat} {l:List Co} (h:qBw w B e (.slice A n c) l):n=l.length∧Lay w w.heap.size A (colV l):=by
 have hn:n=l.length:=by
  rcases h.2 with⟨hv,h0⟩|⟨g,cap,cur,hv,_⟩
  · injection hv with _ h2 _;omega
  · injection hv
 subst hn;exact⟨rfl,Lay.of_own h le_⟩
end Go.Ms
namespace Go.Proofs.YtainiaighnjpfaaGreatDoor
open Go.RowKit Go.Ms Go.Lib
theorem qDp:Tryz.prog.underlying 30=some (.slice 45):=Tryz.underlying30
theorem qFm:Tryz.prog.underlying 31=some (.slice 3):=Tryz.underlying31
theorem qRi (w:World) (A:Option Addr) (n cap:Nat) (xs:List Co) (hn':n≤100000) (hn:n=xs.length) (hA:Lay w w.heap.size A (colV xs)) :
    Calls Tryz.prog 51 #[.slice A n cap] w fun e w'=> ∃v,e=.returned v∧qBw w' w.heap.size 45 v xs∧Below w.heap.size w w':=by
 obtain⟨i0,hi,hz0,hz1,hz2⟩:=info_parts qEu;rcases A with _|a
 · have h0:=hA.none_len
   have hx:xs=[]:=by
    have:=qD7 xs;rw[h0] at this;exact List.eq_nil_of_length_eq_zero (by simp at this;omega)
   subst hx;obtain rfl:n=0:=by simpa using hn
   have he:=fun w=>run_eql_slice_nil (P:=Tryz.prog) w 30 45 none 0 cap 0 0 qDp
   clear hA h0 hn hn';go_enter Tryz.func51,Tryz.ntmps51;go_wp2_with fail
   go_ret;exact⟨_,rfl,World.ownsRow_nil _ _ _ _,Below.refl _ _⟩
 · have he:=fun w=>run_eql_slice_nil (P:=Tryz.prog) w 30 45 (some a) n cap 0 0 qDp
   have HA:=hh_ hA;have HN:=hh_ hn;clear hA hn;go_enter Tryz.func51,Tryz.ntmps51;have hown0:(w.alloc (.cells #[] 45)).ownsRow w.heap.size 45 7 (.slice (some ⟨w.heap.size,0,none⟩) 0 0) 0 []:=World.ownsRow_made w #[] 0 le_ ml_ rfl;have hb0:Below w.heap.size w (w.alloc (.cells #[] 45)):=br_.alloc le_ _;have HO:=hh_ hown0;have HB:=hh_ hb0;clear hown0 hb0;go_wp2_with (at_builtin;refine qAi rfl (.tmp 5) (.tmp 6) _ rfl w.heap.size 45 i0 _ 7 72 qDp hi hz0 hz1 hz2 rfl (by omega) (.slice (some ⟨w.heap.size,0,none⟩) 0 0) 0 [] rfl HO.out w.heap.size (some a) n cap (colV xs) rfl (by rw[qD7,HN.out]) (HA.out.below HB.out) (qG5 _) ml_ (by omega) HB.out.size ?_;intro v1 w1 hown1 hg1)
   have HO1:=hh_ hown1;have HB1:=hh_ (qAh HO.out HB.out HB.out.size le_ hg1);clear hown1 hg1;go_wp2_with fail
   go_ret;refine⟨_,rfl,?_,HB1.out⟩;unfold qBw;have:=HO1.out;rw[Nat.zero_add,HN.out] at this;exact this
theorem qQq (w:World) (A:Option Addr) (n cap:Nat) (xs:List Int) (hn':n≤100000) (hn:n=xs.length) (hA:Lay w w.heap.size A (intV xs)) :
    Calls Tryz.prog 52 #[.slice A n cap] w fun e w'=> ∃v,e=.returned v∧OwnI w' w.heap.size 3 v xs∧Below w.heap.size w w':=by
 obtain⟨i0,hi,hz0,hz1,hz2⟩:=info_parts qFq;rcases A with _|a
 · have h0:=hA.none_len
   have hx:xs=[]:=by
    have:=qP4 xs;rw[h0] at this;exact List.eq_nil_of_length_eq_zero (by simp at this;omega)
   subst hx;obtain rfl:n=0:=by simpa using hn
   have he:=fun w=>run_eql_slice_nil (P:=Tryz.prog) w 31 3 none 0 cap 0 0 qFm
   clear hA h0 hn hn';go_enter Tryz.func52,Tryz.ntmps52;go_wp2_with fail
   go_ret;exact⟨_,rfl,World.ownsRow_nil _ _ _ _,Below.refl _ _⟩
 · have he:=fun w=>run_eql_slice_nil (P:=Tryz.prog) w 31 3 (some a) n cap 0 0 qFm
   have HA:=hh_ hA;have HN:=hh_ hn;clear hA hn;go_enter Tryz.func52,Tryz.ntmps52;have hown0:(w.alloc (.cells #[] 3)).ownsRow w.heap.size 3 1 (.slice (some ⟨w.heap.size,0,none⟩) 0 0) 0 []:=World.ownsRow_made w #[] 0 le_ ml_ rfl;have hb0:Below w.heap.size w (w.alloc (.cells #[] 3)):=br_.alloc le_ _;have HO:=hh_ hown0;have HB:=hh_ hb0;clear hown0 hb0;go_wp2_with (at_builtin;refine qAi rfl (.tmp 5) (.tmp 6) _ rfl w.heap.size 3 i0 _ 1 8 qFm hi hz0 hz1 hz2 rfl (by omega) (.slice (some ⟨w.heap.size,0,none⟩) 0 0) 0 [] rfl HO.out w.heap.size (some a) n cap (intV xs) rfl (by rw[qP4,HN.out]) (HA.out.below HB.out) (qFk _) ml_ (by omega) HB.out.size ?_;intro v1 w1 hown1 hg1)
   have HO1:=hh_ hown1;have HB1:=hh_ (qAh HO.out HB.out HB.out.size le_ hg1);clear hown1 hg1;go_wp2_with fail
   go_ret;refine⟨_,rfl,?_,HB1.out⟩;unfold OwnI;have:=HO1.out;rw[Nat.zero_add,HN.out] at this;exact this
theorem qLb (w:World) (A B D E:Option Addr) (n cap m capm n2 cap2 m2 capm2:Nat) (xs ys:List Co) (ks ls:List Int) (h1:n≤maxLen) (h2:m≤maxLen) (h3:n2≤maxLen) (h4:m2≤maxLen) (hn:n=xs.length) (hm:m=ks.length) (hn2:n2=ys.length) (hm2:m2=ls.length)
    (hA:Lay w w.heap.size A (colV xs)) (hB:Lay w w.heap.size B (intV ks)) (hD:Lay w w.heap.size D (colV ys)) (hE:Lay w w.heap.size E (intV ls)) :
    Calls Tryz.prog 35 #[.agg #[.slice A n cap,.slice B m capm],.agg #[.slice D n2 cap2,.slice E m2 capm2]] w fun e w'=>e=.returned (.bool (decide (xs=ys)&&decide (ks=ls)))∧Below w.heap.size w w':=by
 have hc:=fun (w':World) (hb:Below w.heap.size w w')=>qRs w' A D n cap n2 cap2 xs ys h1 h3 hn hn2 ((hA.below hb).more hb.size) ((hD.below hb).more hb.size)
 have hi:=fun (w':World) (hb:Below w.heap.size w w')=>qKz w' B E m capm m2 capm2 ks ls h2 h4 hm hm2 ((hB.below hb).more hb.size) ((hE.below hb).more hb.size)
 have HC:=hh_ hc;have HI:=hh_ hi;clear hc hi hA hB hD hE hn hm hn2 hm2 h1 h2 h3 h4;go_enter Tryz.func35,Tryz.ntmps35;go_wp2_with fail
 refine(HC.out _ (((Below.refl _ w).alloc le_ _).alloc (by simp) _)).mono ?_;rintro en w1 ⟨rfl,b1⟩;have B1:Below w.heap.size w w1:=(((Below.refl _ w).alloc le_ _).alloc (by simp) _).trans (b1.mono (by rw[World.size_alloc,World.size_alloc];omega));have q1:=bk_ (bx_ (qAd w (.cells #[.slice A n cap,.slice B m capm] 33)) (.cells #[.slice D n2 cap2,.slice E m2 capm2] 33)) b1;have q2:=bk_ (qAd (w.alloc (.cells #[.slice A n cap,.slice B m capm] 33)) (.cells #[.slice D n2 cap2,.slice E m2 capm2] 33)) b1;rw[World.size_alloc] at q2;have c1:=cb_ 1 q1 rfl;have c2:=cb_ 1 q2 rfl;clear q1 q2;have HB:=hh_ B1;clear B1 b1;cases hd:decide (xs=ys)
 · go_wp2_with fail
   go_ret;exact⟨by rw[hd];rfl,HB.out⟩
 · go_wp2_with fail
   refine(HI.out _ HB.out).mono ?_;rintro en w2 ⟨rfl,b2⟩;have HB2:=hh_ (HB.out.trans (b2.mono HB.out.size));clear b2;go_wp2_with fail
   go_ret;exact⟨by rw[hd];rfl,HB2.out⟩
theorem qN4 (w:World) (A B D E:Option Addr) (n cap m capm n2 cap2 m2 capm2:Nat) (xs ys:List Co) (ks ls:List Int) (h1:n≤maxLen) (h2:m≤maxLen) (h3:n2≤maxLen) (h4:m2≤maxLen) (hn:n=xs.length) (hm:m=ks.length) (hn2:n2=ys.length) (hm2:m2=ls.length)
    (hA:Lay w w.heap.size A (colV xs)) (hB:Lay w w.heap.size B (intV ks)) (hD:Lay w w.heap.size D (colV ys)) (hE:Lay w w.heap.size E (intV ls)) :
    Calls Tryz.prog 27 #[.agg #[.slice A n cap,.slice B m capm],.agg #[.slice D n2 cap2,.slice E m2 capm2]] w fun e w'=>e=.returned (.bool (decide (xs=ys)&&decide (ks=ls)))∧Below w.heap.size w w':=by
 have hc:=fun (w':World) (hb:Below w.heap.size w w')=>qO4 w' A D n cap n2 cap2 xs ys h1 h3 hn hn2 ((hA.below hb).more hb.size) ((hD.below hb).more hb.size)
 have hi:=fun (w':World) (hb:Below w.heap.size w w')=>qJ5 w' B E m capm m2 capm2 ks ls h2 h4 hm hm2 ((hB.below hb).more hb.size) ((hE.below hb).more hb.size)
 have HC:=hh_ hc;have HI:=hh_ hi;clear hc hi hA hB hD hE hn hm hn2 hm2 h1 h2 h3 h4;go_enter Tryz.func27,Tryz.ntmps27;go_wp2_with fail
 refine(HC.out _ (((Below.refl _ w).alloc le_ _).alloc (by simp) _)).mono ?_;rintro en w1 ⟨rfl,b1⟩;have B1:Below w.heap.size w w1:=(((Below.refl _ w).alloc le_ _).alloc (by simp) _).trans (b1.mono (by rw[World.size_alloc,World.size_alloc];omega));have q1:=bk_ (bx_ (qAd w (.cells #[.slice A n cap,.slice B m capm] 33)) (.cells #[.slice D n2 cap2,.slice E m2 capm2] 33)) b1;have q2:=bk_ (qAd (w.alloc (.cells #[.slice A n cap,.slice B m capm] 33)) (.cells #[.slice D n2 cap2,.slice E m2 capm2] 33)) b1;rw[World.size_alloc] at q2;have c1:=cb_ 1 q1 rfl;have c2:=cb_ 1 q2 rfl;clear q1 q2;have HB:=hh_ B1;clear B1 b1;cases hd:decide (xs=ys)
 · go_wp2_with fail
   go_ret;exact⟨by rw[hd];rfl,HB.out⟩
 · go_wp2_with fail
   refine(HI.out _ HB.out).mono ?_;rintro en w2 ⟨rfl,b2⟩;have HB2:=hh_ (HB.out.trans (b2.mono HB.out.size));clear b2;go_wp2_with fail
   go_ret;exact⟨by rw[hd];rfl,HB2.out⟩
end Go.Proofs.YtainiaighnjpfaaGreatDoor
namespace Go.Ms
open Go.RowKit Go.Lib
theorem qTj {k n:Int} {s:Bs} (h:kIs k n s=true):s.length≤1024∧ -9223372036854775808≤n∧n≤9223372036854775807:=by
 unfold kIs at h;by_cases h1:k=1
 · simp[h1] at h;obtain⟨⟨rfl,h2⟩,h3⟩:=h;simp;omega
 by_cases h2:k=2
 · simp[h2] at h;obtain⟨⟨rfl,h2⟩,h3⟩:=h;simp;omega
 by_cases h3:k=3
 · simp[h3] at h;obtain⟨⟨rfl,h2⟩,h3⟩:=h;simp;omega
 by_cases h4:k=4
 · simp[h4] at h;obtain⟨⟨rfl,h2⟩,h3⟩:=h;omega
 · simp[h1,h2,h3,h4] at h;obtain⟨rfl,h2⟩:=h;omega
theorem qIj {k:Int} {tn nu:Bool} {n:Int} {s:Bs} (h:qA1 k tn nu n s=0):s.length≤1024∧ -9223372036854775808≤n∧n≤9223372036854775807:=by
 obtain⟨_,h2⟩:=qKq h;unfold kOk at h2
 cases nu with
 |true=>simp at h2;obtain⟨⟨_,rfl⟩,rfl⟩:=h2;simp
 |false=>exact qTj (by simpa using h2)
theorem qRn {c:Co} (h:coOk c=true):c.2.1.size≤32∧c.2.2.2.2.2.size≤1024∧ -9223372036854775808≤c.2.2.2.2.1∧c.2.2.2.2.1≤9223372036854775807:=by
 unfold coOk at h;simp only[Bool.and_eq_true,decide_eq_true_eq] at h;obtain⟨hn,hc⟩:=h;unfold isNm at hn;simp only[Bool.and_eq_true,decide_eq_true_eq] at hn;have h1:c.2.1.data.toList.length=c.2.1.size:=by simp
 have h2:c.2.2.2.2.2.data.toList.length=c.2.2.2.2.2.size:=by simp
 have:=qIj hc;omega
theorem qSu {a b k t:Bs} {c:Co} {key:Bool} (h:qFi a b k t=some (c,key)):coOk c=true∧0≤c.1∧c.1≤1048576∧idOf a=c.1∧c.2.1=⟨b.toArray⟩∧
    c.2.2.1=(kindOf (qBc 63 (qBc 42 k).1).1,(qBc 63 (qBc 42 k).1).2)∧1≤kindOf (qBc 63 (qBc 42 k).1).1∧key=(qBc 42 k).2∧zBq c=t:=by
 unfold qFi at h;by_cases hc:isNm b=true∧0≤idOf a∧1≤kindOf (qBc 63 (qBc 42 k).1).1∧(qBr (kindOf (qBc 63 (qBc 42 k).1).1) (qBc 63 (qBc 42 k).1).2 t).2=0
 · rw[if_pos hc] at h;obtain⟨h1,h2,h3,h4⟩:=hc;generalize hK:kindOf (qBc 63 (qBc 42 k).1).1=K at h h3 h4 ⊢;generalize hU:(qBc 63 (qBc 42 k).1).2=U at h h4 ⊢;obtain⟨R,hR⟩:∃R,qBr K U t=R:=⟨_,rfl⟩;rw[hR] at h h4;obtain⟨⟨nu,n,s⟩,er⟩:=R;simp only at h4;subst h4;obtain⟨hz,ht⟩:=qS9 hR;simp only[Option.some.injEq,Prod.mk.injEq] at h;obtain⟨rfl,rfl⟩:=h
   have hi:idOf a≤1048576:=by
    unfold idOf;split
    · rename_i e;exact e.2.2
    · omega
   refine⟨?_,h2,hi,rfl,rfl,rfl,h3,rfl,ht⟩;unfold coOk;simp only[Bool.and_eq_true,decide_eq_true_eq];exact⟨h1,hz⟩
 · exact absurd (h.symm.trans (if_neg hc)) (by simp)
theorem qTm {s:Bs} {c:Co} {key:Bool} (h:qGa s=some (c,key)):coOk c=true∧0≤c.1∧c.1≤1048576:=by
 unfold qGa at h;split at h
 · cases h
 split at h
 · cases h
 split at h
 · cases h
 obtain⟨h1,h2,h3,_⟩:=qSu h;exact⟨h1,h2,h3⟩
def qCg:List Co→List Int→List ByteArray→Option (List Co×List Int)
  |cs,ks,[]=>some (cs,ks)
  |cs,ks,l::r=>match qAu l.data.toList with
   |none=>none
   |some x=>qCg (cs++[x.1]) (if x.2=true then ks++[(cs.length:Int)] else ks) r
theorem qI7 {l:ByteArray} {x:Co×Bool} (hx:qAu l.data.toList=some x):∀(pre:List ByteArray) (cs cs':List Co) (ks ks':List Int),qCg cs ks pre=some (cs',ks')→
    qCg cs ks (pre++[l])=some (cs'++[x.1],if x.2=true then ks'++[(cs'.length:Int)] else ks')
  |[],cs,cs',ks,ks',h=>by
   simp only[qCg,Option.some.injEq,Prod.mk.injEq] at h;obtain⟨rfl,rfl⟩:=h;simp only[List.nil_append,qCg,hx]
  | a::r,cs,cs',ks,ks',h=>by
   rw[List.cons_append,qCg];rw[qCg] at h
   cases ha:qAu a.data.toList with
   |none=>rw[ha] at h;cases h
   |some y=>
    rw[ha] at h;exact qI7 hx r _ _ _ _ h
theorem qVt {l:Bs}:qBc 10 (l++[10])=(l,true):=by
 unfold qBc;rw[if_pos (by simp),List.dropLast_concat]
theorem qE2 (l:Bs):qAu (l++[10])=qGa l:=by unfold qAu;rw[qVt];rfl
theorem qL2 {l:Bs} (h:(10:UInt8)∉l):qAu l=none:=by
 have h2:¬l.getLast?=some 10:=fun e=>h (List.mem_of_getLast? e)
 simp[qAu,qBc,h2]
theorem qK1 (t:Bs) (ht:(10:UInt8)∉t):∀(ls:List Bs) (cs:List Co) (ks:List Int),
    qCg cs ks ((ls.map (fun l=>l++[10])++(if t=[] then [] else [t])).map fun l=>(⟨l.toArray⟩:ByteArray)) =
      if ((readAll cs ks ls).2.2&&decide (t=[]))=true then some ((readAll cs ks ls).1,(readAll cs ks ls).2.1) else none
  |[],cs,ks=>by
   by_cases h:t=[]
   · subst h;simp[qCg,readAll]
   · simp only[h,List.map_nil,List.nil_append,if_false,List.map_cons,qCg,readAll,decide_false,Bool.and_false,Bool.false_eq_true];rw[qL2 ht]
  |l::ls,cs,ks=>by
   rw[List.map_cons,List.cons_append,List.map_cons,qCg,readAll];have e:∀b:Bs,(ByteArray.mk b.toArray).data.toList=b:=fun _=>rfl
   simp only[e,qE2]
   cases h:qGa l with
   |none=>simp
   |some x=>exact qK1 t ht ls _ _
theorem qJ4 (t:Bs) (ht:(10:UInt8)∉t) {x:ByteArray} (hx:qAu x.data.toList=none):∀(ls:List Bs) (pre:List ByteArray) (cs cs':List Co) (ks ks':List Int),
    (pre++[x]) <+: ((ls.map (fun l=>l++[10])++(if t=[] then [] else [t])).map fun l=>(⟨l.toArray⟩:ByteArray))→qCg cs ks pre=some (cs',ks')→
    ((readAll cs ks ls).2.2&&decide (t=[]))=false∧(readAll cs ks ls).1=cs'
  |[],pre,cs,cs',ks,ks',hp,hr=>by
   by_cases h:t=[]
   · simp[h] at hp
   · simp only[h,List.map_nil,List.nil_append,if_false,List.map_cons] at hp;have hl:=hp.length_le;simp at hl;obtain rfl:pre=[]:=hl;simp only[qCg,Option.some.injEq,Prod.mk.injEq] at hr;simp[readAll,h,hr.1]
  |l::ls,[],cs,cs',ks,ks',hp,hr=>by
   simp only[List.nil_append,List.map_cons,List.cons_append] at hp;obtain rfl:=(List.cons_prefix_cons.1 hp).1;simp only[qCg,Option.some.injEq,Prod.mk.injEq] at hr;have e:(ByteArray.mk (l++[10]).toArray).data.toList=l++[10]:=rfl;rw[e,qE2] at hx;rw[readAll,hx];exact⟨rfl,hr.1⟩
  | l::ls,a::r,cs,cs',ks,ks',hp,hr=>by
   simp only[List.map_cons,List.cons_append] at hp;obtain⟨rfl,hp2⟩:=List.cons_prefix_cons.1 hp;have e:(ByteArray.mk (l++[10]).toArray).data.toList=l++[10]:=rfl;rw[qCg,e,qE2] at hr;rw[readAll]
   cases h:qGa l with
   |none=>rw[h] at hr;cases hr
   |some y=>
    rw[h] at hr;exact qJ4 t ht hx ls r _ _ _ _ hp2 hr
theorem qI9 (s:Bs):(qE0 s).flatten=s:=by
 have h:=qIc s;unfold qE0;rw[List.flatten_append,←List.flatMap_def]
 conv=>rhs;rw[h]
 congr 1
 split
 · rename_i e;rw[e];rfl
 · simp
theorem qOg {S x:ByteArray} (h:x∈qB3 S):x.size≤S.size:=by
 unfold qB3 at h;obtain⟨l,hl,rfl⟩:=List.mem_map.1 h;have h1:=(List.sublist_flatten_of_mem hl).length_le;rw[qI9] at h1;have h2:S.data.toList.length=S.size:=by simp
 have h3:(ByteArray.mk l.toArray).size=l.length:=List.size_toArray;omega
theorem qQ8 {S x:ByteArray} {pre:List ByteArray} {cs:List Co} {ks:List Int} (hp:(pre++[x]) <+: qB3 S) (hr:qCg [] [] pre=some (cs,ks)) (hx:qAu x.data.toList=none) :
    (qCh S.data.toList).2.2=false∧(qCh S.data.toList).1=cs:=by
 unfold qB3 qE0 at hp;unfold qCh;exact qJ4 _ (qH4 _).2 hx _ _ _ _ _ _ hp hr
theorem qJu:∀(ls:List ByteArray) (cs cs':List Co) (ks ks':List Int),(∀c∈cs,coOk c=true)→qCg cs ks ls=some (cs',ks')→(∀c∈cs',coOk c=true)∧cs'.length=cs.length+ls.length∧ks'.length≤ks.length+ls.length
  |[],cs,cs',ks,ks',h,hr=>by
   simp only[qCg,Option.some.injEq,Prod.mk.injEq] at hr;obtain⟨rfl,rfl⟩:=hr;exact⟨h,by simp,by simp⟩
  | l::ls,cs,cs',ks,ks',h,hr=>by
   rw[qCg] at hr
   cases hl:qAu l.data.toList with
   |none=>rw[hl] at hr;cases hr
   | some x=>
    rw[hl] at hr
    obtain⟨h1,h2,h3⟩:=qJu ls _ _ _ _ (fun c hc=>by
     rcases List.mem_append.1 hc with h1|h1
     · exact h c h1
     · have:c=x.1:=by simpa using h1
       subst this;unfold qAu at hl;split at hl
       · exact(qTm (c:=x.1) (key:=x.2) hl).1
       · cases hl) hr
    refine⟨h1,by rw[h2];simp;omega,?_⟩;split at h3 <;> simp at h3 ⊢ <;> omega
theorem qKx (S:ByteArray):(qB3 S).length≤S.size:=by
 have h0:∀l:List Bs,(∀x∈l,x≠[])→l.length≤l.flatten.length:=by
  intro l
  induction l with
  |nil=>simp
  |cons a t ih=>
   intro h;have h1:a.length≠0:=fun e=>h a (by simp) (List.eq_nil_of_length_eq_zero e)
   have h2:=ih fun x hx=>h x (by simp[hx])
   simp only[List.length_cons,List.flatten_cons,List.length_append];omega
 unfold qB3;rw[List.length_map];refine Nat.le_trans (h0 _ fun x hx=>?_) (by rw[qI9];simp);unfold qE0 at hx;rcases List.mem_append.1 hx with h|h
 · obtain⟨l,_,rfl⟩:=List.mem_map.1 h;simp
 · split at h
   · cases h
   · rename_i e;simp at h;rw[h];exact e
theorem qM2 (S:ByteArray):qCg [] [] (qB3 S)=if (qCh S.data.toList).2.2=true then some ((qCh S.data.toList).1,(qCh S.data.toList).2.1) else none:=by
 unfold qB3 qE0 qCh;exact qK1 _ (qH4 _).2 _ [] []
end Go.Ms
