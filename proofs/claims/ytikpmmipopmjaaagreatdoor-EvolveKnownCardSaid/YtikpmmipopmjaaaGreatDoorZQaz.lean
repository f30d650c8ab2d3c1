/- Schemas that follow each other, plainly (closed): many versions. EvolveKnown: its texts, read; what is read and the rows that are made, as arguments. A region with a tail, among whose operations are two new boxes: they are not one. -/
import Derived.Test.YtikpmmipopmjaaaGreatDoorZQag
import Derived.WalkKit
import Derived.Test.YtikpmmipopmjaaaGreatDoorZQaq
import Derived.Test.YtikpmmipopmjaaaGreatDoorZQah
import Derived.Test.YtikpmmipopmjaaaGreatDoorZQas
import Derived.Test.YtikpmmipopmjaaaGreatDoorZQx
set_option linter.unusedVariables false
namespace Go.Ms
open Go.RowKit Go.Lib
theorem qZm:qA6 (List.replicate 64 eT0)=0:=by kernel_rfl
theorem qZx:qA6 (List.replicate 65 eT0)=5:=by kernel_rfl
end Go.Ms
set_option linter.unusedSimpArgs false
namespace Go.Ms
open Go.RowKit Go.Lib
structure ScC (w:World) (r:SRef) (s:Sc):Prop where
  lay:qBf w w.heap.size r s
  cap:r.n≤r.c∧r.c≤maxLen∧r.m≤r.d∧r.d≤maxLen
  ok:∀x∈s.1,qSl x
theorem ScC.to {w w':World} {r:SRef} {s:Sc} (h:ScC w r s) (hb:Below w.heap.size w w'):ScC w' r s:=⟨h.lay.to hb,h.cap,h.ok⟩
theorem ScC.arg {w:World} {r:SRef} {s:Sc} (h:ScC w r s):qJ0 w r.a r.n r.c s.1 r.b r.m r.d s.2:=
  ⟨h.cap.1,h.cap.2.1,h.lay.n.symm,h.lay.la.ext,h.cap.2.2.1,h.cap.2.2.2,h.lay.m.symm,h.lay.lb.ext,h.ok⟩
theorem ScC.nil (w:World):ScC w ⟨none,0,0,none,0,0⟩ ([],[]):=
  ⟨⟨rfl,rfl,Nat.zero_le _,Nat.zero_le _,fun j u hu=>by simp[colV] at hu,fun j u hu=>by simp[intV] at hu⟩,⟨Nat.le_refl _,Nat.zero_le _,Nat.le_refl _,Nat.zero_le _⟩,fun x hx=>by cases hx⟩
def zAm (s:Sc):Value→World→Prop:=fun v w=> ∃r:SRef,v=.agg #[.slice r.a r.n r.c,.slice r.b r.m r.d]∧ScC w r s
theorem qOh (s:Sc):Go.Rel.Stable (zAm s):=fun v w w' ⟨r,h1,h2⟩ hb=>⟨r,h1,h2.to hb⟩
def zA4 (l:List Cl):Value→World→Prop:=fun v w=> ∃A n c,v=.slice A n c∧qIw w A n c l
theorem qO7 (l:List Cl):Go.Rel.Stable (zA4 l):=fun v w w' ⟨A,n,c,h1,h2⟩ hb=>⟨A,n,c,h1,h2.to hb⟩
theorem Lay.pre {W:World} {B:Nat} {A:Option Addr} {xs ys:List Value} (h:Lay W B A (xs++ys)):Lay W B A xs:=fun j u hu=>h j u (by rw[List.getElem?_append_left (List.getElem?_eq_some_iff.1 hu).1];exact hu)
theorem qGd.mk' {w:World} {A:Option Addr} {n c:Nat} {es:List (SRef×Sc)} (hn:n≤c) (hc:c≤maxLen) (hl:es.length=n) (hA:Lay w w.heap.size A (scsV (es.map Prod.fst))) (h:∀x∈es,ScC w x.1 x.2):qGd w A n c es:=
  ⟨hn,hc,hl,hA,fun x hx=>(h x hx).arg⟩
theorem qGd.blk {w:World} {g n:Nat} {T:TypeId} {es:List (SRef×Sc)} (hg:w.heap[g]?=some (.cells (scsV (es.map Prod.fst)).toArray T (0,0))) (hl:es.length=n) (hn:n≤maxLen) (h:∀x∈es,ScC w x.1 x.2):qGd w (some ⟨g,0,none⟩) n n es:=
  qGd.mk' (Nat.le_refl _) hn hl (qFp hg) h
theorem qGd.nil (w:World):qGd w none 0 0 []:=qGd.mk' (Nat.le_refl _) (Nat.zero_le _) rfl (fun j u hu=>by simp[scsV] at hu) (fun x hx=>by cases hx)
theorem zDh (r:SRef) (s:Sc) (n:Nat):(List.replicate n (r,s)).map Prod.fst=List.replicate n r:=by simp
theorem qGd.rep {w:World} {A:Option Addr} {n c:Nat} {r:SRef} {s:Sc} (hn:n≤c) (hc:c≤maxLen) (hA:Lay w w.heap.size A (scsV (List.replicate n r))) (h:ScC w r s):qGd w A n c (List.replicate n (r,s)):=
  qGd.mk' hn hc (by simp) (by rw[zDh];exact hA) (fun x hx=>by rw[List.eq_of_mem_replicate hx];exact h)
theorem qDb.rep {w:World} {A:Option Addr} {n:Nat} {r:SRef} {s:Sc} (hA:Lay w w.heap.size A (scsV (List.replicate n r))) (h:qBf w w.heap.size r s):qDb w w.heap.size A (List.replicate n r) (List.replicate n s):=
  ⟨by simp,hA,fun i r' s' h1 h2=>by rw[List.eq_of_mem_replicate (List.mem_of_getElem? h1),List.eq_of_mem_replicate (List.mem_of_getElem? h2)];exact h⟩
structure KnSt (T:TypeId) (g4 g5:Nat) (ra rb:SRef) (sa sb:Sc) (w W:World):Prop where
  b4:W.heap[g4]?=some (.cells #[.slice ra.a ra.n ra.c,.slice ra.b ra.m ra.d] T (0,0))
  b5:W.heap[g5]?=some (.cells #[.slice rb.a rb.n rb.c,.slice rb.b rb.m rb.d] T (0,0))
  la:ScC W ra sa
  lb:ScC W rb sb
  bel:Below w.heap.size w W
theorem KnSt.to {T:TypeId} {g4 g5:Nat} {ra rb:SRef} {sa sb:Sc} {w W W':World} (h:KnSt T g4 g5 ra rb sa sb w W) (hb:Below W.heap.size W W'):KnSt T g4 g5 ra rb sa sb w W':=
  ⟨qAb h.b4 hb,qAb h.b5 hb,h.la.to hb,h.lb.to hb,h.bel.trans (hb.mono h.bel.size)⟩
theorem ScC.box2 {W:World} {r:SRef} {s:Sc} (h:ScC W r s) {b:Nat} {a1 a2:Option Addr} {n1 c1 n2 c2:Nat} {T:TypeId} (hb:W.heap[b]?=some (.cells #[.slice a1 n1 c1,.slice a2 n2 c2] T (0,0)))
    (a:Option Addr) (n c:Nat) (y:Value):ScC ((W.setCell ⟨b,0,none⟩ (.slice a n c)).setCell ⟨b,1,none⟩ y) r s:=
  ⟨by simp only[World.size_setCell];exact h.lay.box2 hb a n c y,h.cap,h.ok⟩
theorem qIw.own {w:World} {B:Nat} {e:TypeId} {v:Value} {l:List Cl} (h:OwnC w B e v l) (hB:B≤w.heap.size) (ok:∀x∈l,ClIn x):zA4 l v w:=by
 obtain⟨A,c,rfl,h1,h2⟩:=qAg h;exact⟨A,_,c,rfl,h1,h2,rfl,(Lay.of_own h (Nat.le_refl _)).ext,ok⟩
theorem qIw.nil (w:World):qIw w none 0 0 []:=⟨Nat.le_refl _,Nat.zero_le _,rfl,fun j u hu=>by simp[rowV] at hu,fun x hx=>by cases hx⟩
theorem qV6 (t:Ty) {n:Int} (hn:I64 n):ClIn (qBy t n):=by
 obtain⟨h1,h2⟩:=hn;unfold qBy
 split
 · exact⟨Nat.zero_le _,by decide,by decide⟩
 · split
   · exact⟨Nat.zero_le _,by simp only;omega,by simp only;omega⟩
   · split
     · exact⟨Nat.zero_le _,by simp only;omega,by simp only;omega⟩
     · split
       · exact⟨Nat.zero_le _,h1,h2⟩
       · refine⟨?_,by simp only;omega,by simp only;omega⟩
         show(Array.extract (#[97,98,99,100,101,102,103,104]:Array UInt8) 0 (n%9).toNat).size≤maxLen
         rw[Array.size_extract];have h8:(#[97,98,99,100,101,102,103,104]:Array UInt8).size=8:=rfl;unfold maxLen;omega
theorem qQx {ns:List Int} (hn:∀x∈ns,I64 x):∀(cs:List Co) (i:Nat),i+cs.length≤9223372036854775807→∀x∈qCi ns i cs,ClIn x
  |[],i,_,x,hx=>by cases hx
  |c::r,i,hi,x,hx=>by
   rw[List.length_cons] at hi
   rcases List.mem_cons.1 hx with rfl|hx
   · exact qV6 _ (qRh hn (by omega))
   · exact qQx hn r (i+1) (by omega) x hx
def kTx:List ByteArray:=[⟨#[49,32,107,32,105,110,116,51,50,42,32,48,47]⟩,⟨#[49,32,107,32,105,110,116,54,52,42,32,48,47]⟩,⟨#[49,32,107,32,115,116,114,105,110,103,42,32,34,34,47]⟩,⟨#[49,32,107,32,105,110,116,51,50,42,32,49,47]⟩,⟨#[49,32,107,32,105,110,116,51,50,42,32,48,47,50,32,118,32,105,110,116,51,50,32,48,47]⟩,⟨#[49,32,107,32,105,110,116,51,50,42,32,48,47,50,32,118,32,105,110,116,54,52,32,48,47]⟩,⟨#[49,32,107,32,105,110,116,51,50,42,32,48,47,50,32,118,32,105,110,116,51,50,63,32,48,47]⟩,⟨#[49,32,107,32,105,110,116,51,50,42,32,48,47,50,32,118,32,105,110,116,51,50,63,32,110,117,108,108,47]⟩,⟨#[49,32,107,32,105,110,116,51,50,42,32,48,47,50,32,118,32,105,110,116,54,52,63,32,110,117,108,108,47]⟩,⟨#[49,32,107,32,105,110,116,51,50,42,32,48,47,50,32,118,32,98,111,111,108,32,102,97,108,115,101,47]⟩,⟨#[49,32,107,32,105,110,116,51,50,42,32,48,47,50,32,118,32,105,110,116,51,50,42,32,48,47]⟩,⟨#[49,32,107,32,105,110,116,51,50,32,48,47,50,32,118,32,105,110,116,51,50,42,32,48,47]⟩,⟨#[49,32,107,32,105,110,116,51,50,32,48,47]⟩,⟨#[49,32,107,32,105,110,116,51,50,42,32,48,47,51,32,118,32,105,110,116,51,50,32,48,47]⟩,⟨#[49,32,107,32,105,110,116,51,50,42,32,48,47,50,32,119,32,105,110,116,51,50,32,48,47]⟩,⟨#[49,32,107,32,105,110,116,51,50,42,32,48,47,50,32,118,32,105,110,116,51,50,32,48,47,51,32,119,32,98,121,116,101,115,32,120,102,102,47]⟩,⟨#[49,32,107,32,105,110,116,51,50,42,32,48,47,49,48,52,56,53,55,54,32,122,32,98,111,111,108,32,116,114,117,101,47]⟩,⟨#[50,32,107,32,105,110,116,51,50,42,32,48,47]⟩]
def kSc:List Sc:=[eT0,eT1,eT2,eT3,eT4,eT5,eT6,eT7,eT8,eT9,eT10,eT11,eT12,eT13,eT14,eT15,eT16,eT17]
def kTV:Array Value:=(kTx.map Value.string).toArray
theorem zDe {i:Nat} {S:ByteArray} (h:kTx[i]?=some S):kTV[i]?=some (.string S):=by unfold kTV;simp[h]
theorem kAt (i:Nat) (h:i<18):∃S s,kTx[i]?=some S∧kSc[i]?=some s:=⟨_,_,List.getElem?_eq_getElem h,List.getElem?_eq_getElem h⟩
theorem zDg:ScSz eT0.1:=by unfold ScSz;decide
def kEn:List Int:=[-9223372036854775808, -1,0,1,2,64,65,9223372036854775807]
def kEV:Array Value:=(intV kEn).toArray
theorem zDf (i:Nat) (h:i<8):∃x,kEV[i]?=some (.int .i64 x)∧I64 x:=by
 rcases i with _|_|_|_|_|_|_|_|i
 all_goals first|exact⟨_,rfl,by decide,by decide⟩|omega
theorem qZd:∀s∈kSc,(∀x∈s.1,qSl x)∧s.1.length≤3∧s.2.length≤2:=by
 intro s hs
 have h:∀s∈kSc,(∀x∈s.1,(-9223372036854775808≤x.1∧x.1≤9223372036854775807)∧x.2.1.size≤1000∧(-9223372036854775808≤x.2.2.1.1∧x.2.2.1.1≤9223372036854775807)∧x.2.2.2.2.2.size≤1000∧ -9223372036854775808≤x.2.2.2.2.1∧x.2.2.2.2.1≤9223372036854775807)∧s.1.length≤3∧s.2.length≤2:=by decide +kernel
 obtain⟨h1,h2⟩:=h s hs;refine⟨fun x hx=>?_,h2⟩;obtain⟨q1,q2,q3,q4,q5⟩:=h1 x hx;exact⟨q1,by unfold maxLen;omega,q3,by unfold maxLen;omega,q5⟩
end Go.Ms
namespace Go.Proofs.YtikpmmipopmjaaaGreatDoor
open Go.RowKit Go.Ms Go.Lib Go.Shelf Go.Rel
theorem qA8 {S:ByteArray} {s:Sc} (hs:S.size≤1000) (hk:s∈kSc) {L:List UInt8} (hr:Lib.replaceAll S.data.toList [47] [10]=L) (hl:L.length≤20000) (hp:qBb L=(s.1,s.2,0,0)) (w:World) (hE:Env w) :
    Calls Tryz.prog 31 #[.string S] w fun e w'=> ∃v,e=.returned v∧Below w.heap.size w w'∧zAm s v w':=by
 subst hr;obtain⟨h1,h2,h3⟩:=qZd s hk;refine(qL9 hs (by omega) (by omega) hl hp w hE).mono ?_;rintro e w' ⟨r,hc,rfl,-,-,hy,hb⟩;exact⟨_,rfl,hb,r,rfl,hy,hc,h1⟩
theorem qUy {i:Nat} {S:ByteArray} {s:Sc} (hS:kTx[i]?=some S) (hs:kSc[i]?=some s) (w:World) (hE:Env w) :
    Calls Tryz.prog 31 #[.string S] w fun e w'=> ∃v,e=.returned v∧Below w.heap.size w w'∧zAm s v w':=by
 have hk:s∈kSc:=List.mem_of_getElem? hs
 rcases i with _|i
 · obtain rfl:=Option.some.inj hS;obtain rfl:=Option.some.inj hs;exact qA8 (by decide) hk (by kernel_rfl) (by decide) zBn w hE
 rcases i with _|i
 · obtain rfl:=Option.some.inj hS;obtain rfl:=Option.some.inj hs;exact qA8 (by decide) hk (by kernel_rfl) (by decide) zBr w hE
 rcases i with _|i
 · obtain rfl:=Option.some.inj hS;obtain rfl:=Option.some.inj hs;exact qA8 (by decide) hk (by kernel_rfl) (by decide) zBs w hE
 rcases i with _|i
 · obtain rfl:=Option.some.inj hS;obtain rfl:=Option.some.inj hs;exact qA8 (by decide) hk (by kernel_rfl) (by decide) zA7 w hE
 rcases i with _|i
 · obtain rfl:=Option.some.inj hS;obtain rfl:=Option.some.inj hs;exact qA8 (by decide) hk (by kernel_rfl) (by decide) zBk w hE
 rcases i with _|i
 · obtain rfl:=Option.some.inj hS;obtain rfl:=Option.some.inj hs;exact qA8 (by decide) hk (by kernel_rfl) (by decide) zB5 w hE
 rcases i with _|i
 · obtain rfl:=Option.some.inj hS;obtain rfl:=Option.some.inj hs;exact qA8 (by decide) hk (by kernel_rfl) (by decide) zCf w hE
 rcases i with _|i
 · obtain rfl:=Option.some.inj hS;obtain rfl:=Option.some.inj hs;exact qA8 (by decide) hk (by kernel_rfl) (by decide) zCb w hE
 rcases i with _|i
 · obtain rfl:=Option.some.inj hS;obtain rfl:=Option.some.inj hs;exact qA8 (by decide) hk (by kernel_rfl) (by decide) zA9 w hE
 rcases i with _|i
 · obtain rfl:=Option.some.inj hS;obtain rfl:=Option.some.inj hs;exact qA8 (by decide) hk (by kernel_rfl) (by decide) zCd w hE
 rcases i with _|i
 · obtain rfl:=Option.some.inj hS;obtain rfl:=Option.some.inj hs;exact qA8 (by decide) hk (by kernel_rfl) (by decide) qZn w hE
 rcases i with _|i
 · obtain rfl:=Option.some.inj hS;obtain rfl:=Option.some.inj hs;exact qA8 (by decide) hk (by kernel_rfl) (by decide) zAe w hE
 rcases i with _|i
 · obtain rfl:=Option.some.inj hS;obtain rfl:=Option.some.inj hs;exact qA8 (by decide) hk (by kernel_rfl) (by decide) qZp w hE
 rcases i with _|i
 · obtain rfl:=Option.some.inj hS;obtain rfl:=Option.some.inj hs;exact qA8 (by decide) hk (by kernel_rfl) (by decide) zA0 w hE
 rcases i with _|i
 · obtain rfl:=Option.some.inj hS;obtain rfl:=Option.some.inj hs;exact qA8 (by decide) hk (by kernel_rfl) (by decide) zAt w hE
 rcases i with _|i
 · obtain rfl:=Option.some.inj hS;obtain rfl:=Option.some.inj hs;exact qA8 (by decide) hk (by kernel_rfl) (by decide) qZt w hE
 rcases i with _|i
 · obtain rfl:=Option.some.inj hS;obtain rfl:=Option.some.inj hs;exact qA8 (by decide) hk (by kernel_rfl) (by decide) qZq w hE
 rcases i with _|i
 · obtain rfl:=Option.some.inj hS;obtain rfl:=Option.some.inj hs;exact qA8 (by decide) hk (by kernel_rfl) (by decide) zAn w hE
 cases hS
theorem qV0 {w W:World} {r:SRef} {s:Sc} {d dm:Nat} {ns:List Int} (h:qBf w w.heap.size r s) (hd:d=ns.length) (hdm:d≤maxLen) (D:Option Addr) (hI:∀x∈ns,I64 x) (hb:Below w.heap.size w W) (hB:Lay W W.heap.size D (intV ns)) :
    Calls Tryz.prog 29 #[.slice r.a r.n r.c,.slice D d dm] W fun e w'=> ∃v,e=.returned v∧Below W.heap.size W w'∧zA4 (qLg s.1 ns) v w':=by
 refine(qV5 W r.a D r.n r.c d dm s.1 ns h.n hd h.nn hdm (h.to hb).la hB hI).mono ?_;rintro e w' ⟨v,rfl,ho,hw⟩;have h1:=h.n;have h2:=h.nn;exact⟨v,rfl,hw,qIw.own ho hw.size (qQx hI s.1 0 (by omega))⟩
end Go.Proofs.YtikpmmipopmjaaaGreatDoor
set_option linter.unusedSimpArgs false
namespace Go.Rel
open Go Go.RowKit
structure qZ6 (kA kB:Nat) (tA tB:Tmp) (listed:Array Bool) (a:Act) (w:World):Prop where
  lA:listed.getD kA false=true→∀g,a.eval (.tmp tA)=.pointer (some ⟨g,0,none⟩)→g<w.heap.size
  lB:listed.getD kB false=true→∀g,a.eval (.tmp tB)=.pointer (some ⟨g,0,none⟩)→g<w.heap.size
  ne:listed.getD kA false=true→listed.getD kB false=true→∀g,a.eval (.tmp tA)=.pointer (some ⟨g,0,none⟩)→a.eval (.tmp tB)=.pointer (some ⟨g,0,none⟩)→False
theorem qGc {P :Program} {id:Nat} {Q:Exit→Act→World→Prop} {l:List Oper} {o:Oper} {t:List Oper} (ps:List (Value→World→Prop)) {a0:Act} {w0:World} (hm:P.follows .mixedOrders=true)
    (hd:qRd (l++o::t).toArray a0.tmps.size=true) (hg:qGu .any (l++o::t).toArray=true) (hqd:l.all (fun o=>o.dst.isSome)=true)
    (hcov:qHv .any (l++o::t).toArray l.length=true) (hrow:qLl .any (l++o::t).toArray l.length (t.length+1)=true)
    {kA kB:Nat} {oA oB:Oper} {tA tB:Tmp} {cA cB:Obj} (hkA:l[kA]?=some oA) (hkB:l[kB]?=some oB) (hne:kA≠kB) (dA:oA.dst=some tA) (dB:oB.dst=some tB)
    (rA:∀(ev:Operand→Value) w,(execOp ev oA).run P w=.ok (.value (.pointer (some ⟨w.heap.size,0,none⟩))) (w.alloc cA))
    (rB:∀(ev:Operand→Value) w,(execOp ev oB).run P w=.ok (.value (.pointer (some ⟨w.heap.size,0,none⟩))) (w.alloc cB))
    (gA:oA.guard=none) (gB:oB.guard=none)
    (hgi:qEw l.toArray=true) (hp:qHd P .any l.toArray a0 w0 (sel ps) 0 l)
    (hend:∀w,Below w0.heap.size w0 w→qAq (sel ps) w (fun a=>(∀g,a.eval (.tmp tA)=.pointer (some ⟨g,0,none⟩)→a.eval (.tmp tB)=.pointer (some ⟨g,0,none⟩)→False)→qGp P Q (o::t) a w) 0 l a0) :
    (Code.region id (l++o::t).toArray true).wp P Q a0 w0:=by
 refine wp_region_any hm ?_
 generalize hops:(l++o::t).toArray=ops at *
 have hsz:ops.size=l.length+(t.length+1):=by rw[←hops];simp
 have atl:∀k,k<l.length→ops[k]?=l[k]?:=fun k hk=>by rw[←hops];simp only[List.getElem?_toArray];rw[List.getElem?_append_left hk]
 have dsl:∀k,k<l.length→qAn l.toArray k=qAn ops k:=fun k hk=>by unfold qAn;rw[atl k hk];simp only[List.getElem?_toArray]
 have wl:∀(x:Oper) (k:Nat) (ev:Operand→Value),l[k]?=some x→qAv l.toArray ev x=qAv ops ev x:=fun x k ev hx=>by
  have hgx:=List.all_eq_true.1 hgi x (by simpa using List.mem_of_getElem? hx);unfold qAv Region.wanted
  cases hq:x.guard with
  |none=>rfl
  |some p=>
   obtain⟨g,b⟩:=p;rw[hq] at hgx;simp only[decide_eq_true_eq,List.size_toArray] at hgx
   simp only
   rw[dsl g hgx]
 have att:∀j,ops[l.length+j]?=(o::t)[j]?:=fun j=>by rw[←hops];simp only[List.getElem?_toArray];rw[List.getElem?_append_right (by omega)];congr 1;omega
 have hlA:=(List.getElem?_eq_some_iff.1 hkA).1;have hlB:=(List.getElem?_eq_some_iff.1 hkB).1
 have dstA:qAn ops kA=some tA:=by unfold qAn;rw[atl kA hlA,hkA];exact dA
 have dstB:qAn ops kB=some tB:=by unfold qAn;rw[atl kB hlB,hkB];exact dB
 have hfin:∀listed a w,InvL .any ops l.length a0 w0 (sel ps) listed a w→qZ6 kA kB tA tB listed a w→(∀k,k<l.length→listed.getD k false=true)→qGp P Q (o::t) a w:=by
  intro listed a w hI hD hall
  have h:=qC2 (fun i=>match qAn ops i with|some d=>a.eval (.tmp d)|none=>undef) l 0 a0 (hend w hI.bel) (fun k hk=>?_)
  · have he : qIe (fun i=>match qAn ops i with|some d=>a.eval (.tmp d)|none=>undef) 0 l a0=a:=by
      obtain⟨h1,h2⟩:=qDp (fun i=>match qAn ops i with|some d=>a.eval (.tmp d)|none=>undef) l 0 a0;refine qId ?_ (h2.trans hI.defers.symm)
      apply Array.ext_getElem?
      intro x
      by_cases hx:x<a0.tmps.size
      · refine qEr _ x _ l 0 a0 hx (fun k o' hk hd'=>?_) ?_
        · have hkl:=(List.getElem?_eq_some_iff.1 hk).1
          have hdk:qAn ops (0+k)=some x:=by unfold qAn;rw[Nat.zero_add,atl k hkl,hk];exact hd'
          rw[hdk]
          have hta:x<a.tmps.size:=by rw[hI.size];exact hx
          simp[Act.eval,hta]
        · by_cases hex:∃(k:Nat) (o':Oper),l[k]?=some o'∧o'.dst=some x
          · exact .inr hex
          · left
            refine(hI.base x fun j hj hd'=>?_).symm
            by_cases hjl:j<l.length
            · unfold qAn at hd';rw[atl j hjl] at hd'
              cases hoj:l[j]? with
              |none=>simp[hoj] at hd'
              |some oj=>exact hex ⟨j,oj,hoj,by simpa[hoj] using hd'⟩
            · rw[hI.none_ j (by omega)] at hj;cases hj
      · rw[Array.getElem?_eq_none (by rw[h1];omega),Array.getElem?_eq_none (by rw[hI.size];omega)]
    rw[he] at h;exact h (hD.ne (hall _ hlA) (hall _ hlB))
  · rw[Nat.zero_add];obtain⟨o',ho⟩:∃o,ops[k]?=some o:=⟨_,Array.getElem?_eq_getElem (by omega)⟩
    cases hdk:qAn ops k with
    |none=>
     exfalso
     rw[atl k hk] at ho;have:=List.all_eq_true.1 hqd o' (List.mem_of_getElem? ho);unfold qAn at hdk;rw[atl k hk,ho] at hdk;have hdk:o'.dst=none:=hdk;rw[hdk] at this
     cases this
    |some d=>exact hI.claim k d hk (hall k hk) hdk
 refine qQ2 hg (fun listed a w=>(InvL .any ops l.length a0 w0 (sel ps) listed a w∧qZ6 kA kB tA tB listed a w)∨∃j,j≤t.length∧(∀k,k<l.length+(j+1)→listed.getD k false=true)∧(∀k,l.length+(j+1)≤k→listed.getD k false=false)∧qGp P Q (t.drop j) a w) ?_ ?_ _ _ _ _ (by simp) ?_ (.inl ⟨⟨rfl,rfl,fun _ _=>rfl,fun i d _ hi=>absurd hi (qH6 _ _),⟨rfl,rfl,rfl,Nat.le_refl _,fun _ _=>rfl⟩,fun j _=>?_,fun i o _ hi=>absurd hi (qH6 _ _)⟩,⟨fun h=>absurd h (qH6 _ _),fun h=>absurd h (qH6 _ _),fun h=>absurd h (qH6 _ _)⟩⟩)
 · intro listed a w i oi hl ho hu hdep hI
   have hul:=qQy hu;have his:=(Array.getElem?_eq_some_iff.1 ho).1
   have hil:i<listed.size:=by rw[hl];exact his
   rcases hI with⟨hI,hD⟩|⟨j,hj,h1,h2,h3⟩
   · by_cases hiq:i<l.length
     · -- one ahead of the tail
       have hq:l[i]?=some oi:=by rw[←atl i hiq];exact ho
       have hpr:=qEx l 0 hp i oi hq;rw[Nat.zero_add] at hpr
       have fin:∀v w',Below w.heap.size w w'→sel ps i v w'→InvL .any ops l.length a0 w0 (sel ps) (listed.setIfInBounds i true) (a.put oi.dst v) w':=fun v w' hb hv=>by
        have keep:∀t j,j≠i→qAn ops j=some t→(a.put oi.dst v).eval (.tmp t)=a.eval (.tmp t):=fun t j hj hjt=>by
         cases hd':oi.dst with
         |none=>rfl
         |some d=>
          have hdi:qAn ops i=some d:=by unfold qAn;rw[ho];exact hd'
          exact qCx (fun e=>(qHf hd hdi).2 j hj (by rw[hjt,e]))
        refine⟨(size_put _ _ _).1.trans hI.size,(size_put _ _ _).2.trans hI.defers,qQw hil ho hI.base,fun j d hj hlj hjd=>?_,hI.bel.trans (hb.mono hI.bel.size),fun j hj=>?_,fun k ok hk hlk e he hbd=>?_⟩
        · by_cases hji:j=i
          · subst hji
            have hod:oi.dst=some d:=by unfold qAn at hjd;rw[ho] at hjd;exact hjd
            rw[hod,eval_put_same (by rw[hI.size];exact(qHf hd hjd).1)];exact hv
          · rw[keep d j hji hjd];rw[qCl hji] at hlj;obtain⟨oj,hoj⟩:∃oj,l[j]?=some oj:=⟨_,List.getElem?_eq_getElem hj⟩;have hpj:=qEx l 0 hp j oj hoj;rw[Nat.zero_add] at hpj;exact hpj.1 _ _ _ (hI.claim j d hj hlj hjd) hb
        · rw[qCl (by omega)];exact hI.none_ j hj
        · by_cases hki:k=i
          · subst hki;obtain rfl:oi=ok:=Option.some.inj (ho.symm.trans hk);have:=hdep e he hbd
            by_cases hei:e.on=k
            · rw[hei];exact qI7 hil false
            · rw[qCl hei];exact this
          · rw[qCl hki] at hlk;have:=hI.closed k ok hk hlk e he hbd
            by_cases hei:e.on=i
            · rw[hei];exact qI7 hil false
            · rw[qCl hei];exact this
       have hwl:=wl oi i a.eval hq;have hprem:=hpr.2 a.eval w hI.bel (fun t ht=>?_) (fun _=>rfl) (fun _=>rfl) (fun _=>rfl) (fun k e hk hb d hd'=>?_)
       · rw[hwl] at hprem
         have keep:∀v t j,j≠i→qAn ops j=some t→(a.put oi.dst v).eval (.tmp t)=a.eval (.tmp t):=fun v t j hj hjt=>by
          cases hd':oi.dst with
          |none=>rfl
          |some d=>
           have hdi:qAn ops i=some d:=by unfold qAn;rw[ho];exact hd'
           exact qCx (fun e=>(qHf hd hdi).2 j hj (by rw[hjt,e]))
         by_cases hiA:i=kA
         · subst hiA;obtain rfl:oA=oi:=Option.some.inj (hkA.symm.trans hq)
           have hw:qAv ops a.eval oA=true:=by unfold qAv Region.wanted;rw[gA]
           rw[if_pos hw] at hprem ⊢;rw[rA] at hprem;refine qD3 ?_;rw[rA];have hp':Below w.heap.size w (w.alloc cA)∧sel ps i (.pointer (some ⟨w.heap.size,0,none⟩)) (w.alloc cA):=hprem
           have hev:(a.put oA.dst (.pointer (some ⟨w.heap.size,0,none⟩))).eval (.tmp tA)=.pointer (some ⟨w.heap.size,0,none⟩):=by rw[dA];exact eval_put_same (by rw[hI.size];exact(qHf hd dstA).1)
           have kB':=keep (.pointer (some ⟨w.heap.size,0,none⟩)) tB kB (fun e=>hne e.symm) dstB;refine .inl ⟨fin _ _ hp'.1 hp'.2,⟨fun _ g hg=>?_,fun hk g hg=>?_,fun _ hk g h1 h2=>?_⟩⟩
           · rw[hev] at hg
             injection hg with hg;injection hg with hg;injection hg with hg
             rw[World.size_alloc];omega
           · rw[qCl (fun e=>hne e.symm)] at hk;rw[kB'] at hg;have:=hD.lB hk g hg
             rw[World.size_alloc];omega
           · rw[qCl (fun e=>hne e.symm)] at hk;rw[kB'] at h2;rw[hev] at h1;have:=hD.lB hk g h2
             injection h1 with h1;injection h1 with h1;injection h1 with h1
             omega
         · by_cases hiB:i=kB
           · subst hiB;obtain rfl:oB=oi:=Option.some.inj (hkB.symm.trans hq)
             have hw:qAv ops a.eval oB=true:=by unfold qAv Region.wanted;rw[gB]
             rw[if_pos hw] at hprem ⊢;rw[rB] at hprem;refine qD3 ?_;rw[rB];have hp':Below w.heap.size w (w.alloc cB)∧sel ps i (.pointer (some ⟨w.heap.size,0,none⟩)) (w.alloc cB):=hprem
             have hev:(a.put oB.dst (.pointer (some ⟨w.heap.size,0,none⟩))).eval (.tmp tB)=.pointer (some ⟨w.heap.size,0,none⟩):=by rw[dB];exact eval_put_same (by rw[hI.size];exact(qHf hd dstB).1)
             have kA':=keep (.pointer (some ⟨w.heap.size,0,none⟩)) tA kA hne dstA;refine .inl ⟨fin _ _ hp'.1 hp'.2,⟨fun hk g hg=>?_,fun _ g hg=>?_,fun hk _ g h1 h2=>?_⟩⟩
             · rw[qCl hne] at hk;rw[kA'] at hg;have:=hD.lA hk g hg
               rw[World.size_alloc];omega
             · rw[hev] at hg
               injection hg with hg;injection hg with hg;injection hg with hg
               rw[World.size_alloc];omega
             · rw[qCl hne] at hk;rw[kA'] at h1;rw[hev] at h2;have:=hD.lA hk g h1
               injection h2 with h2;injection h2 with h2;injection h2 with h2
               omega
           · have dist:∀v w',Below w.heap.size w w'→qZ6 kA kB tA tB (listed.setIfInBounds i true) (a.put oi.dst v) w':=fun v w' hb=>by
               have eA:=keep v tA kA (fun e=>hiA e.symm) dstA;have eB:=keep v tB kB (fun e=>hiB e.symm) dstB;have sA:(listed.setIfInBounds i true).getD kA false=listed.getD kA false:=qCl (fun e=>hiA e.symm) false;have sB:(listed.setIfInBounds i true).getD kB false=listed.getD kB false:=qCl (fun e=>hiB e.symm) false;refine⟨?_,?_,?_⟩
               · rw[sA,eA];exact fun hk g hg=>Nat.lt_of_lt_of_le (hD.lA hk g hg) hb.size
               · rw[sB,eB];exact fun hk g hg=>Nat.lt_of_lt_of_le (hD.lB hk g hg) hb.size
               · rw[sA,sB,eA,eB];exact hD.ne
             split
             · rename_i hw
               rw[if_pos hw] at hprem;exact qD3 (qCm (fun v w' h=>.inl ⟨fin v w' h.1 h.2,dist v w' h.1⟩) hprem)
             · rename_i hw
               rw[if_neg hw] at hprem;exact .inl ⟨fin _ _ (Below.refl _ _) hprem,dist _ _ (Below.refl _ _)⟩
       · have:=hI.base t fun j hj hd'=>by
           have hjl:j<l.length:=by
            by_cases hjl:j<l.length
            · exact hjl
            · rw[hI.none_ j (by omega)] at hj;cases hj
           rw[←dsl j hjl] at hd';rw[qG0 hd'] at ht
           cases ht
         simp[Act.eval,this]
       · have he:=Array.mem_of_getElem? hk;have hlt:=qPt hg ho e he hb;rw[dsl e.on (by omega)] at hd';exact hI.claim e.on d (by omega) (hdep e he hb) hd'
     · -- the first of the tail
       have hin:i=l.length:=by
        by_cases hin:i=l.length
        · exact hin
        · exfalso
          unfold qLl at hrow;have h1:=List.all_eq_true.1 hrow (i-l.length) (List.mem_range.2 (by omega));rw[show l.length+(i-l.length)=i by omega,ho] at h1;simp only[Bool.and_eq_true,Bool.or_eq_true,beq_iff_eq] at h1
          rcases h1.2 with h2|h2
          · omega
          · unfold waitsFor at h2;obtain⟨e,he,h4⟩:=List.any_eq_true.1 h2;simp only[Bool.and_eq_true,beq_iff_eq] at h4;have:=hdep e (Array.mem_toList_iff.1 he) h4.1;rw[h4.2,hI.none_ _ (by omega)] at this
            cases this
       subst hin
       have hall:∀k,k<l.length→listed.getD k false=true:=fun k hk=>qHk hcov ho hI.closed hdep _ k hk (Nat.le_refl _)
       have htl:=hfin listed a w hI hD hall
       obtain rfl:o=oi:=by have:=att 0;rw[Nat.add_zero,ho] at this;exact(Option.some.inj this).symm
       have hgn:qAv ops a.eval o=true:=by
        unfold qLl at hrow;have h1:=List.all_eq_true.1 hrow 0 (List.mem_range.2 (by omega));rw[Nat.add_zero,ho] at h1;simp only[Bool.and_eq_true] at h1;unfold qAv Region.wanted
        cases hgo:o.guard with
        |none=>rfl
        |some g=>rw[hgo] at h1;simp at h1
       rw[if_pos hgn];refine Oper.wp_mono (fun a' w' h=>.inr ⟨0,by omega,fun k hk=>?_,fun k hk=>?_,h⟩) htl
       · by_cases hkl:k=l.length
         · subst hkl;exact qI7 hil false
         · rw[qCl hkl];exact hall k (by omega)
       · rw[qCl (by omega)];exact hI.none_ k (by omega)
   · -- one of the tail
     have hin:i=l.length+(j+1):=by
      by_cases hlt:i<l.length+(j+1)
      · rw[h1 i hlt] at hul;cases hul
      · by_cases hin:i=l.length+(j+1)
        · exact hin
        · exfalso
          unfold qLl at hrow;have h1':=List.all_eq_true.1 hrow (i-l.length) (List.mem_range.2 (by omega));rw[show l.length+(i-l.length)=i by omega,ho] at h1';simp only[Bool.and_eq_true,Bool.or_eq_true,beq_iff_eq] at h1'
          rcases h1'.2 with h4|h4
          · omega
          · unfold waitsFor at h4;obtain⟨e,he,h5⟩:=List.any_eq_true.1 h4;simp only[Bool.and_eq_true,beq_iff_eq] at h5;have:=hdep e (Array.mem_toList_iff.1 he) h5.1;rw[h5.2,h2 _ (by omega)] at this
            cases this
     have hoi:t[j]?=some oi:=by have:=att (j+1);rw[←hin,ho] at this;simpa using this.symm
     have hjt:=(List.getElem?_eq_some_iff.1 hoi).1
     have hdr:t.drop j=oi::t.drop (j+1):=by
      rw[List.drop_eq_getElem_cons hjt,(List.getElem?_eq_some_iff.1 hoi).2]
     rw[hdr] at h3
     have hgn:qAv ops a.eval oi=true:=by
      unfold qLl at hrow;have h1':=List.all_eq_true.1 hrow (j+1) (List.mem_range.2 (by omega));rw[←hin,ho] at h1';simp only[Bool.and_eq_true] at h1';unfold qAv Region.wanted
      cases hgo:oi.guard with
      |none=>rfl
      |some g=>rw[hgo] at h1';simp at h1'
     rw[if_pos hgn];refine Oper.wp_mono (fun a' w' h=>.inr ⟨j+1,by omega,fun k hk=>?_,fun k hk=>?_,h⟩) h3
     · by_cases hki:k=i
       · subst hki;exact qI7 hil false
       · rw[qCl hki];exact h1 k (by omega)
     · rw[qCl (by omega)];exact h2 k (by omega)
 · intro listed a w hl hall hI
   rcases hI with⟨hI,hD⟩|⟨j,hj,h1,h2,h3⟩
   · have h4:=hall l.length (by omega);rw[hI.none_ _ (Nat.le_refl _)] at h4
     cases h4
   · have hjt:j=t.length:=by
       by_cases hjt:j=t.length
       · exact hjt
       · have h4:=hall (l.length+(j+1)) (by omega);rw[h2 _ (Nat.le_refl _)] at h4
         cases h4
     subst hjt;rw[List.drop_length] at h3;exact h3
 · unfold left;rw[Array.toList_replicate,List.countP_replicate]
   simp
 · cases h:(Array.replicate ops.size false).getD j false with
  |false=>rfl
  |true=>exact absurd h (qH6 _ _)
end Go.Rel
