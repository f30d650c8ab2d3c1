/- Rows: a cell's bits are not many; no more are taken off than there are. Rows: keys put together. Evolve's laws: a schema read of a text. Evolve's laws: the examples' texts, read. Rows: whether two are the same; a row copied. Rows: lists held against each other and copied, by the statements' helpers. A region that draws its order, in which one operation writes into what another one has made (an append to a row of one's own), and whose last operation waits for all others. Evolve's laws: the chapter's examples, walked. Lists that keep their type, and what lies in them. Registries: a list of schemas, cloned. An append to a row of one's own: the row's block is the one that it was, or a new one. Registries: New, look, find, Last, Get, Chain, Move. -/
import Derived.Test.YtainiaighnjpfaaGreatDoorZQad
set_option maxHeartbeats 1000000
set_option maxRecDepth 100000
set_option linter.unusedVariables false
namespace Go.Proofs.YtainiaighnjpfaaGreatDoor
open Go.Ms
end Go.Proofs.YtainiaighnjpfaaGreatDoor
namespace Go.Ms
end Go.Ms
namespace Go.Proofs.YtainiaighnjpfaaGreatDoor
open Go.RowKit Go.Ms Go.Lib
end Go.Proofs.YtainiaighnjpfaaGreatDoor
set_option linter.unusedSimpArgs false
namespace Go.Ms
open Go.RowKit Go.Lib
theorem Lay.off {W:World} {B:Nat} {A:Option Addr} {xs:List Value} (h:Lay W B A xs) {b i:Nat} {a1 a2:Option Addr} {n1 c1 n2 c2:Nat} {T:TypeId} (hb:W.heap[b]?=some (.cells #[.slice a1 n1 c1,.slice a2 n2 c2] T (0,0))) (hx:∀x∈xs,∀a n c,x≠.slice a n c) (y:Value):Lay (W.setCell ⟨b,i,none⟩ y) B A xs:=by
 intro j u hu;obtain⟨g,o,e,hlt,hc⟩:=h j u hu;refine⟨g,o,e,hlt,?_⟩
 have hne:g≠b:=by
  rintro rfl;simp[World.cell?,hb] at hc;have hm:=List.mem_of_getElem? hu;rcases hoj:o+j with _|_|k
  · rw[hoj] at hc;simp at hc;exact hx u hm _ _ _ hc.symm
  · rw[hoj] at hc;simp at hc;exact hx u hm _ _ _ hc.symm
  · rw[hoj] at hc;simp at hc
 have hk:(W.setCell ⟨b,i,none⟩ y).heap[g]?=W.heap[g]?:=Below.heap_setCell W ⟨b,i,none⟩ y g hne;unfold World.cell? at hc ⊢;simp only at hc ⊢;rw[hk];exact hc
theorem qH7 (l:List Co):∀x∈colV l,∀a n c,x≠.slice a n c:=by
 intro x hx a n c e;obtain⟨d,_,hd⟩:=List.mem_flatMap.1 hx;subst e;simp[coV] at hd
theorem qIf (l:List Int):∀x∈intV l,∀a n c,x≠.slice a n c:=by
 intro x hx a n c e;obtain⟨d,_,hd⟩:=List.mem_map.1 hx;subst e;cases hd
end Go.Ms
namespace Go.Proofs.YtainiaighnjpfaaGreatDoor
open Go.RowKit Go.Ms Go.Lib Go.Shelf Go.Rel
theorem qGd {w:World} {b:Nat} {x y:Value} {T:TypeId} (h:w.heap[b]?=some (.cells #[x,y] T (0,0))) (u v:Value):((w.setCell ⟨b,0,none⟩ u).setCell ⟨b,1,none⟩ v).heap[b]?=some (.cells #[u,v] T (0,0)):=qEw (two_set0 h u) v
theorem qOu (u v:Bool) (a b:Int) (S T:ByteArray) (w:World) :
    (Op.equalIn 10000 43 (.agg #[.bool u,.int .i64 a,.string S]) (.agg #[.bool v,.int .i64 b,.string T])).run Tryz.prog w=.ok (decide ((u,a,S)=(v,b,T))) w:=by
 have q1:S.toList=T.toList↔S=T:=by
  rw[Lib.toList_data,Lib.toList_data];exact⟨fun h=>by rw[qBu (s:=S) rfl,qBu (s:=T) rfl,h],fun h=>by rw[h]⟩
 by_cases h0:u=v <;> by_cases h1:a=b <;> by_cases h2:S=T
 all_goals
  simp[go_sem,Tryz.underlying43,q1,h0,h1,h2]
end Go.Proofs.YtainiaighnjpfaaGreatDoor
namespace Go.Ms
open Go.RowKit Go.Lib
end Go.Ms
namespace Go.Proofs.YtainiaighnjpfaaGreatDoor
open Go.RowKit Go.Ms Go.Lib
theorem qHz (w:World) (A B:Option Addr) (n cap m capm:Nat) (xs ys:List Cl) (hn':n≤maxLen) (hm':m≤maxLen) (hn:n=xs.length) (hm:m=ys.length) (hA:Lay w w.heap.size A (rowV xs)) (hB:Lay w w.heap.size B (rowV ys)) :
    Calls Tryz.prog 17 #[.slice A n cap,.slice B m capm] w fun e w'=>e=.returned (.bool (decide (xs=ys)))∧Below w.heap.size w w':=by
 unfold maxLen at hn' hm';by_cases hnm:n=m
 · subst hnm;have HA:=hh_ hA;have HB:=hh_ hB;have HN:=hh_ hn;have HM:=hh_ hm;clear hA hB hn hm;go_enter Tryz.func17,Tryz.ntmps17;go_wp2_with fail
   go_loopw [5] (fun id wr=> ∃k:Nat,k≤n∧id=.int .i64 k∧Below w.heap.size w wr∧xs.take k=ys.take k) (fun id _=>n-(RowKit.intOf id).toNat)
   case atStart=>exact⟨0,by omega,rfl,Below.refl _ _,rfl⟩
   case round=>
    obtain⟨k,hk,rfl,hb,hr⟩:=hrel;have HR:=hh_ hr;clear hr;by_cases hlk:k<n
    · have hki:(k:Int)<n:=by omega
      obtain⟨c,hc⟩:∃c,xs[k]?=some c:=⟨_,List.getElem?_eq_getElem (by rw[←HN.out];omega)⟩;obtain⟨d,hd⟩:∃c,ys[k]?=some c:=⟨_,List.getElem?_eq_getElem (by rw[←HM.out];omega)⟩;obtain⟨g,o,rfl,hg,h1,h2,h3⟩:=HA.out.cl hc;obtain⟨g',o',rfl,hg',h4,h5,h6⟩:=HB.out.cl hd;have g1:=(hb.cell hg).trans h1;have g2:=(hb.cell hg).trans h2;have g3:=(hb.cell hg).trans h3;have g4:=(hb.cell hg').trans h4;have g5:=(hb.cell hg').trans h5;have g6:=(hb.cell hg').trans h6;clear h1 h2 h3 h4 h5 h6;have HB:=hh_ hb;clear hb;have HC:=hh_ hc;have HD:=hh_ hd;clear hc hd;obtain⟨u,nn,S⟩:=c;obtain⟨v,mm,T⟩:=d;simp only at g1 g2 g3 g4 g5 g6;have he:=fun w=>qOu u v nn mm S T w
      have hst:xs.take (k+1)=ys.take (k+1)↔(u,nn,S)=(v,mm,T):=by
       rw[List.take_add_one,List.take_add_one,HC.out,HD.out,HR.out];simp
      have HST:=hh_ hst;clear hst;by_cases hcd:(u,nn,S)=(v,mm,T)
      · rw[decide_eq_true hcd] at he;have HCD:=hh_ hcd;clear hcd;go_wp2_with fail
        go_quiet (fail)
        go_wp2_with fail
        go_roundw
        case rel=>exact⟨k+1,by omega,by go_num,qAa HB.out _,HST.out.2 HCD.out⟩
        case measure=>simp[RowKit.intOf];omega
      · rw[decide_eq_false hcd] at he
        have hne:decide (xs=ys)=false:=by
         apply decide_eq_false;intro e;exact hcd (HST.out.1 (by rw[e]))
        have HNE:=hh_ hne;clear hcd hne;go_wp2_with fail
        go_quiet (fail)
        go_wp2_with fail
        go_ret;exact⟨by rw[HNE.out];rfl,qAa HB.out _⟩
    · have hki:¬(k:Int)<n:=by omega
      have hkn:k=n:=by omega
      have heq:decide (xs=ys)=true:=by
       apply decide_eq_true;have:=HR.out;rw[hkn,List.take_of_length_le (by have:=HN.out;omega),List.take_of_length_le (by have:=HM.out;omega)] at this;exact this
      have HEQ:=hh_ heq;have HB:=hh_ hb;clear heq hkn hb;go_wp2_with fail
      go_ret;exact⟨by rw[HEQ.out];rfl,HB.out⟩
 · have hne:decide (xs=ys)=false:=by
     apply decide_eq_false;intro e;rw[e] at hn;omega
   have h1:((n:Int) != m)=true:=by simp;omega
   have h2:(n != m)=true:=by simpa using hnm
   rw[hne];clear hne hnm hA hB hn hm;go_enter Tryz.func17,Tryz.ntmps17;go_wp2_with fail
   go_ret;exact⟨rfl,Below.refl _ _⟩
end Go.Proofs.YtainiaighnjpfaaGreatDoor
namespace Go.Rel
open Go Go.RowKit
section
end
end Go.Rel
namespace Go.Ms
open Go.RowKit Go.Lib
theorem qI6 {w:World} {b:Nat} {xs:List Value} {T:TypeId} (h:w.heap[b]?=some (.cells xs.toArray T (0,0))):Lay w w.heap.size (some ⟨b,0,none⟩) xs:=fun j u hu=>
 ⟨b,0,rfl,(Array.getElem?_eq_some_iff.1 h).1,by rw[Nat.zero_add];exact cell_of_block h (by simpa using hu)⟩
def isSc (s:Sc):Value→World→Prop:=fun v w=> ∃r:SRef,v=.agg #[.slice r.a r.n r.c,.slice r.b r.m r.d]∧qBv w w.heap.size r s
theorem qO3 (s:Sc):Go.Rel.Stable (isSc s):=fun v w w' ⟨r,h1,h2⟩ hb=>⟨r,h1,h2.to hb⟩
def EffT (T:TypeId) (w w':World):Prop:= ∃b:Option Nat,w.grownBy w' b∧∀g,b=some g→∃cs fz,w.heap[g]?=some (.cells cs T fz)
theorem EffT.own {w w':World} {B s n:Nat} {e:TypeId} {v:Value} {xs:List Value} (h:w.ownsRow B e s v n xs) (hg:w.grownBy w' v.ownBlock):EffT e w w':=by
 refine⟨_,hg,fun g hv=>?_⟩;rcases h.2 with⟨hv',_⟩|⟨g',cap,cur,hv',_,hgb,_⟩
 · rw[hv'] at hv;simp[Value.ownBlock] at hv
 · rw[hv'] at hv;simp[Value.ownBlock] at hv;subst hv;exact⟨_,_,hgb⟩
theorem EffT.keep {T:TypeId} {w w':World} (h:EffT T w w') {b:Nat} {cs:Array Value} {T':TypeId} (hb:w.heap[b]?=some (.cells cs T' (0,0))) (hne:T'≠T):w'.heap[b]?=some (.cells cs T' (0,0)):=by
 obtain⟨r,hg,hr⟩:=h;refine(hg.block b (Array.getElem?_eq_some_iff.1 hb).1 (fun e=>?_)).trans hb;obtain⟨cs',fz,h2⟩:=hr b e.symm;rw[hb] at h2;cases h2;exact hne rfl
theorem qXu {W:World} {g n:Nat} {T:TypeId} {l:List Cl} (h:W.heap[g]?=some (.cells (rowV l).toArray T (0,0))) (hn:n≤l.length) (hl:n≤100000) (hz:∀c∈l,c.2.2.size≤100000):qIm W (some ⟨g,0,none⟩) n (l.take n):=by
 refine⟨by rw[List.length_take];omega,hl,?_,fun c hc=>hz c (List.mem_of_mem_take hc)⟩;have h1:=qI6 (xs:=rowV l) h;have e:rowV l=rowV (l.take n)++rowV (l.drop n):=by rw[←qIq,List.take_append_drop]
 rw[e] at h1;intro j u hu;exact h1 j u (by rw[List.getElem?_append_left ((List.getElem?_eq_some_iff.1 hu).1)];exact hu)
end Go.Ms
namespace Go.Proofs.YtainiaighnjpfaaGreatDoor
open Go.RowKit Go.Ms Go.Lib Go.Shelf Go.Rel
section
variable {g1 g2 g3 g4 g5:Nat} {ra rb ro rx:SRef} {w W:World}
end
end Go.Proofs.YtainiaighnjpfaaGreatDoor
namespace Go.Ms
open Go.RowKit Go.Lib
def TyAt (W:World) (A:Option Addr) (T:TypeId):Prop:= ∀g o,A=some ⟨g,o,none⟩→∃cs,W.heap[g]?=some (.cells cs T (0,0))
theorem TyAt.to {W W':World} {A:Option Addr} {T:TypeId} (h:TyAt W A T) (hb:Below W.heap.size W W'):TyAt W' A T:=fun g o e=>by
 obtain⟨cs,hc⟩:=h g o e;exact⟨cs,bk_ hc hb⟩
theorem TyAt.eff {W W':World} {A:Option Addr} {T T':TypeId} (h:TyAt W A T) (he:EffT T' W W') (hn:T≠T'):TyAt W' A T:=fun g o e=>by
 obtain⟨cs,hc⟩:=h g o e;exact⟨cs,he.keep hc hn⟩
theorem TyAt.own {W:World} {B s n n' c:Nat} {e:TypeId} {A:Option Addr} {xs:List Value} (h:W.ownsRow B e s (.slice A n c) n' xs):TyAt W A e:=fun g o ea=>by
 rcases h.2 with⟨hv,_⟩|⟨g',cap,cur,hv,_,hgb,_⟩
 · cases hv;cases ea
 · cases hv;cases ea;exact⟨cur,hgb⟩
theorem EffT.size {T:TypeId} {W W':World} (h:EffT T W W'):W.heap.size≤W'.heap.size:=by obtain⟨b,hg,_⟩:=h;exact hg.size
theorem EffT.set {T:TypeId} {W:World} {b:Nat} {cs:Array Value} (h:W.heap[b]?=some (.cells cs T (0,0))) (i:Nat) (u:Value):EffT T W (W.setCell ⟨b,i,none⟩ u):=⟨some b,qBb W b i u,fun g e=>by cases e;exact⟨cs,_,h⟩⟩
theorem Lay.eff {W W':World} {B:Nat} {A:Option Addr} {xs:List Value} {T T':TypeId} (h:Lay W B A xs) (ht:TyAt W A T) (he:EffT T' W W') (hn:T≠T'):Lay W' B A xs:=fun j u hu=>by
 obtain⟨g,o,e,hlt,hc⟩:=h j u hu;obtain⟨cs,hb⟩:=ht g o e;refine⟨g,o,e,hlt,?_⟩;have hb2:=he.keep hb hn;unfold World.cell? at hc ⊢;simp only at hc ⊢;rw[hb2];rw[hb] at hc;exact hc
structure ScT (tC tI:TypeId) (W:World) (r:SRef) (s:Sc):Prop where
  lay:qBv W W.heap.size r s
  ta:TyAt W r.a tC
  tb:TyAt W r.b tI
theorem ScT.to {tC tI:TypeId} {W W':World} {r:SRef} {s:Sc} (h:ScT tC tI W r s) (hb:Below W.heap.size W W'):ScT tC tI W' r s:=⟨h.lay.to hb,h.ta.to hb,h.tb.to hb⟩
theorem ScT.eff {tC tI tS:TypeId} {W W':World} {r:SRef} {s:Sc} (h:ScT tC tI W r s) (he:EffT tS W W') (n1:tC≠tS) (n2:tI≠tS):ScT tC tI W' r s:=
  ⟨⟨h.lay.n,h.lay.m,h.lay.nn,h.lay.mm,(h.lay.la.eff h.ta he n1).more he.size,(h.lay.lb.eff h.tb he n2).more he.size⟩,h.ta.eff he n1,h.tb.eff he n2⟩
section
variable {tD tS tC tI:TypeId} {va:Array Value} {v:Value} {r:SRef} {rs:List SRef} {ss:List Sc} {s:List Co} {w W W':World}
end
end Go.Ms
namespace Go.Proofs.YtainiaighnjpfaaGreatDoor
open Go.RowKit Go.Ms Go.Lib
theorem qCz:(Tryz.prog.info? 33).map (fun i=>(i.zero,i.size,i.bytes))=some (some (.agg #[.slice none 0 0,.slice none 0 0]),2,48):=by kernel_rfl
end Go.Proofs.YtainiaighnjpfaaGreatDoor
namespace Go.Ms
open Go.RowKit Go.Lib
def qXt (w:World) (B:Nat) (e:TypeId) (v:Value) (l:List SRef):Prop:=w.ownsRow B e 2 v l.length (scsV l)
end Go.Ms
namespace Go.Proofs.YtainiaighnjpfaaGreatDoor
open Go.RowKit Go.Ms Go.Lib
theorem qC8:Tryz.prog.underlying 36=some (.slice 33):=Tryz.underlying36
theorem qIh (w:World) (A:Option Addr) (n cap:Nat) (xs:List SRef) (hn':n≤100000) (hn:n=xs.length) (hA:Lay w w.heap.size A (scsV xs)) :
    Calls Tryz.prog 41 #[.slice A n cap] w fun e w'=> ∃v,e=.returned v∧qXt w' w.heap.size 33 v xs∧Below w.heap.size w w':=by
 obtain⟨i0,hi,hz0,hz1,hz2⟩:=info_parts qCz;rcases A with _|a
 · have h0:=hA.none_len
   have hx:xs=[]:=by
    have:=qFo xs;rw[h0] at this;exact List.eq_nil_of_length_eq_zero (by simp at this;omega)
   subst hx;obtain rfl:n=0:=by simpa using hn
   have he:=fun w=>run_eql_slice_nil (P:=Tryz.prog) w 36 33 none 0 cap 0 0 qC8
   clear hA h0 hn hn';go_enter Tryz.func41,Tryz.ntmps41;go_wp2_with fail
   go_ret;exact⟨_,rfl,World.ownsRow_nil _ _ _ _,Below.refl _ _⟩
 · have he:=fun w=>run_eql_slice_nil (P:=Tryz.prog) w 36 33 (some a) n cap 0 0 qC8
   have HA:=hh_ hA;have HN:=hh_ hn;clear hA hn;go_enter Tryz.func41,Tryz.ntmps41;have hown0:(w.alloc (.cells #[] 33)).ownsRow w.heap.size 33 2 (.slice (some ⟨w.heap.size,0,none⟩) 0 0) 0 []:=World.ownsRow_made w #[] 0 le_ ml_ rfl;have hb0:Below w.heap.size w (w.alloc (.cells #[] 33)):=br_.alloc le_ _;have HO:=hh_ hown0;have HB:=hh_ hb0;clear hown0 hb0;go_wp2_with (at_builtin;refine qAi rfl (.tmp 5) (.tmp 6) _ rfl w.heap.size 33 i0 _ 2 48 qC8 hi hz0 hz1 hz2 rfl (by omega) (.slice (some ⟨w.heap.size,0,none⟩) 0 0) 0 [] rfl HO.out w.heap.size (some a) n cap (scsV xs) rfl (by rw[qFo,HN.out]) (HA.out.below HB.out) (qD2 _) ml_ (by omega) HB.out.size ?_;intro v1 w1 hown1 hg1)
   have HO1:=hh_ hown1;have HB1:=hh_ (qAh HO.out HB.out HB.out.size le_ hg1);clear hown1 hg1;go_wp2_with fail
   go_ret;refine⟨_,rfl,?_,HB1.out⟩;unfold qXt;have:=HO1.out;rw[Nat.zero_add,HN.out] at this;exact this
end Go.Proofs.YtainiaighnjpfaaGreatDoor
namespace Go.Ms
open Go.RowKit Go.Lib
theorem qGh {P:Program} (w:World) (base:Nat) (t tx ty e:TypeId) (i:TypeInfo) (z:Value) (size bytes:Nat) (ht:P.underlying t=some (.slice e)) (hi:P.info? e=some i) (hz:i.zero=some z)
    (hsize:i.size=size) (hby:i.bytes=bytes) (hzs:z.cells.size=size) (hsz:0<size)
    (v:Value) (n:Nat) (xs:List Value) (hown:w.ownsRow base e size v n xs) (x:Value) (m:Nat) (news:List Value) (hs:Src P size tx x m news w)
    (h63:n+m≤maxLen) (hbytes:(n+m)*bytes≤140737488355328) (hbase:base≤w.heap.size) :
    ∃v' w',(Builtin.append_ #[t,tx] ty #[v,x]).run P w=.ok v' w'∧w'.ownsRow base e size v' (n+m) (xs++news)∧w.grownBy w' v.ownBlock∧∀b,v'.ownBlock=some b→v.ownBlock=some b∨w.heap.size≤b:=by
 subst hsize
 subst hby
 have hl:=hs.newsLen;have hsmall:n+m≤9223372036854775807:=by simp only[maxLen] at h63;omega
 have hlen:(xs++news).length=(n+m)*i.size:=by rw[List.length_append,hown.1,hl,Nat.add_mul]
 have grown:∀(old:Nat),old<n+m→∀(row:Option Nat),
     (w.drew.alloc (.cells ((xs++news).toArray++Builtin.zeroCells z.cells (grownCap w (n+m) old e-(n+m))) e)).ownsRow base e i.size
       (.slice (some ⟨w.heap.size,0,none⟩) (n+m) (grownCap w (n+m) old e)) (n+m) (xs++news)∧
     w.grownBy (w.drew.alloc (.cells ((xs++news).toArray++Builtin.zeroCells z.cells (grownCap w (n+m) old e-(n+m))) e)) row:=by
   intro old ho row;have hge:=grownCap_ge w (n+m) old e;have hcm:grownCap w (n+m) old e≤maxLen:=grownCap_le_maxLen w (n+m) old e h63;refine⟨⟨hlen,.inr ⟨w.heap.size,_,_,rfl,hbase,heap_alloc_new w.drew _,hge,hcm,?_,?_⟩⟩,⟨rfl,rfl,rfl,by simp,fun k hk _=>(World.grownBy_alloc w.drew _ none).block k hk (by simp)⟩⟩
   · simp only[Array.size_append,List.size_toArray,size_zeroCells,hzs,hlen,←Nat.add_mul];congr 1
     omega
   · simp only[Array.toList_append];rw[←hlen];exact List.take_left
 rcases hown.2 with⟨rfl,rfl⟩|⟨g,cap,cur,rfl,hbg,hg,hnc,hcm,hcs,htake⟩
 · have hx:xs=[]:=List.eq_nil_of_length_eq_zero (by simpa using hown.1);subst hx;by_cases hm:m=0
   · subst hm;have hn:news=[]:=List.eq_nil_of_length_eq_zero (by simpa using hl);subst hn;refine⟨.slice none 0 0,w,?_,World.ownsRow_nil w base e i.size,⟨rfl,rfl,rfl,Nat.le_refl _,fun _ _ _=>rfl⟩,fun b hb=>by simp[Value.ownBlock] at hb⟩;have hc:=hs.cells
     rcases hs.kind with⟨e',hk⟩|hk <;>
       simp[Builtin.append_,run_underlying ht,run_underlying hk,sizeOf,typeInfo,hi,hs.len,hc]
   · have hr:=run_append_grow_src (P:=P) w t tx ty e i z ht hi hz none 0 0 [] (run_firstCells_none w.drew i.size 0 0 0) x m news hs (by omega) (by omega) (growslice_fits (by omega) (by simpa using hbytes));have hgr:=grown 0 (by omega) (Value.ownBlock (.slice none 0 0));simp only[Nat.zero_add,List.nil_append] at hgr hr ⊢;exact⟨_,_,hr,hgr.1,hgr.2,fun b hb=>by right;simp[Value.ownBlock] at hb;omega⟩
 · by_cases hroom:n+m≤cap
   · have hfit:n*i.size+news.length≤cur.size:=by rw[hl,hcs,←Nat.add_mul];exact Nat.mul_le_mul_right _ hroom
     have hst:=run_storeCells_at P g (n*i.size) e news 0 cur w hg (by simpa using hfit) hs.one;simp only[Nat.add_zero] at hst
     have hr:(Builtin.append_ #[t,tx] ty #[.slice (some ⟨g,0,none⟩) n cap,x]).run P w=.ok (.slice (some ⟨g,0,none⟩) (n+m) cap) (w.setRow g (cur.toList.take (n*i.size)++news++cur.toList.drop (n*i.size+news.length)).toArray):=by
      rcases hs.kind with⟨e',hk⟩|hk <;>
        simp[Builtin.append_,run_underlying ht,run_underlying hk,sizeOf,typeInfo,hi,hs.len,hroom,hs.cells,Addr.add_lit,hst]
     refine⟨_,_,hr,⟨hlen,.inr ⟨g,cap,_,rfl,hbg,setRow_heap w g cur _ e _ hg,hroom,hcm,?_,?_⟩⟩,⟨rfl,rfl,rfl,by simp,fun k _ hk=>setRow_other w g k _ (fun e=>hk (by simp[Value.ownBlock,e]))⟩,fun b hb=>by left;simpa[Value.ownBlock] using hb⟩
     · simp only[List.size_toArray,List.length_append,List.length_take,List.length_drop,Array.length_toList];omega
     · rw[htake,←hlen];exact List.take_left
   · have holds:∀j u,xs[j]?=some u→w.drew.cell? ((⟨g,0,none⟩:Addr).add j)=some u:=fun j u hu=>by simpa using hown.cells (g:=g) rfl j u hu
     have hr:=run_append_grow_src (P:=P) w t tx ty e i z ht hi hz (some ⟨g,0,none⟩) n cap xs (run_firstCells_some (P:=P) w.drew i.size n ⟨g,0,none⟩ n cap xs hown.1 holds) x m news hs (by omega) (by omega) (growslice_fits (by omega) hbytes);have hgr:=grown cap (by omega) (Value.ownBlock (.slice (some ⟨g,0,none⟩) n cap));exact⟨_,_,hr,hgr.1,hgr.2,fun b hb=>by right;simp[Value.ownBlock] at hb;omega⟩
theorem qKb {P:Program} (w:World) (base:Nat) (t ty e:TypeId) (i:TypeInfo) (z:Value) (size bytes:Nat) (ht:P.underlying t=some (.slice e)) (hi:P.info? e=some i) (hz:i.zero=some z)
    (hsize:i.size=size) (hby:i.bytes=bytes) (hzs:z.cells.size=size) (hsz:0<size)
    (v:Value) (n:Nat) (xs:List Value) (hown:w.ownsRow base e size v n xs) (B:Nat) (A:Option Addr) (m c:Nat) (news:List Value) (hl:news.length=m*size) (hnews:Lay w B A news) (h1:∀u∈news,u.oneCell'=true)
    (h63:n+m≤maxLen) (hbytes:(n+m)*bytes≤140737488355328) (hbase:base≤w.heap.size) :
    ∃v' w',(Builtin.append_ #[t,t] ty #[v,.slice A m c]).run P w=.ok v' w'∧w'.ownsRow base e size v' (n+m) (xs++news)∧w.grownBy w' v.ownBlock∧∀b,v'.ownBlock=some b→v.ownBlock=some b∨w.heap.size≤b:=by
 have hA:A=none→m=0:=fun h=>by
  subst h;have:=hnews.none_len;subst this;rcases Nat.eq_zero_or_pos m with h0|h0
  · exact h0
  · have:=Nat.mul_pos h0 hsz;simp at hl;omega
 exact qGh (P:=P) w base t t ty e i z size bytes ht hi hz hsize hby hzs hsz v n xs hown (.slice A m c) m news (hnews.src ht hl hsz hA h1) h63 hbytes hbase
section
variable {tS tC tI:TypeId} {o4:Obj} {v7 v8:Value} {r7 r8:List SRef} {ss:List Sc} {w W W':World}
end
open Go.Maps
structure CkSt (tS tC tI:TypeId) (v:Value) (rs:List SRef) (ss:List Sc) (w W:World):Prop where
  own:W.ownsRow w.heap.size tS 2 v rs.length (scsV rs)
  each:∀(i:Nat) r s,rs[i]?=some r→ss[i]?=some s→ScT tC tI W r s
  len:rs.length≤ss.length
  bel:Below w.heap.size w W
section
variable {tS tC tI:TypeId} {v:Value} {rs:List SRef} {ss:List Sc} {w W W':World}
theorem CkSt.nil:CkSt tS tC tI (.slice none 0 0) [] ss w w:=⟨World.ownsRow_nil _ _ _ _,fun i r s h=>by simp at h,Nat.zero_le _,Below.refl _ _⟩
theorem CkSt.to (h:CkSt tS tC tI v rs ss w W) (hb:Below W.heap.size W W'):CkSt tS tC tI v rs ss w W':=
  ⟨own_below h.own hb,fun i r s h1 h2=>(h.each i r s h1 h2).to hb,h.len,h.bel.trans (hb.mono h.bel.size)⟩
theorem CkSt.push (h:CkSt tS tC tI v rs ss w W) (n1:tC≠tS) (n2:tI≠tS) {v':Value} {r:SRef} {s:Sc} (hs:ss[rs.length]?=some s) (hr:ScT tC tI W r s)
    (ho:W'.ownsRow w.heap.size tS 2 v' (rs.length+1) (scsV rs++r.vs)) (hg:W.grownBy W' v.ownBlock):CkSt tS tC tI v' (rs++[r]) ss w W':=by
 have he:=EffT.own h.own hg;have hl:=(List.getElem?_eq_some_iff.1 hs).1;refine⟨?_,fun i r' s' h1 h2=>?_,by rw[List.length_append,List.length_singleton];omega,qAh h.own h.bel h.bel.size le_ hg⟩
 · rw[List.length_append,qHb,show scsV [r]=r.vs by simp[scsV]];exact ho
 · by_cases hi:i<rs.length
   · rw[List.getElem?_append_left hi] at h1;exact(h.each i r' s' h1 h2).eff he n1 n2
   · have h3:=(List.getElem?_eq_some_iff.1 h1).1;rw[List.length_append,List.length_singleton] at h3;obtain rfl:i=rs.length:=by omega
     rw[List.getElem?_append_right le_,Nat.sub_self] at h1;rw[hs] at h2;cases h1;cases h2;exact hr.eff he n1 n2
theorem CkSt.scs (h:CkSt tS tC tI v rs ss w W) (hl:rs.length=ss.length):∃A c,v=.slice A rs.length c∧rs.length≤c∧c≤maxLen∧qA0 W W.heap.size A rs ss:=by
 obtain⟨A,c,rfl,h1,h2⟩:=qAf h.own;exact⟨A,c,rfl,h1,h2,hl,Lay.of_own h.own le_,fun i r s h1 h2=>(h.each i r s h1 h2).lay⟩
end
end Go.Ms
namespace Go.Proofs.YtainiaighnjpfaaGreatDoor
open Go.RowKit Go.Ms Go.Lib Go.Maps Go.WideMaps
abbrev RgLK (Kp:Nat→Prop) (g:Nat) (G:Rg) (W:World):Prop:=qCr Kp Tryz.prog 9 87 71 g G W
abbrev RgL (g:Nat) (G:Rg) (W:World):Prop:=RgLK (fun _=>True) g G W
abbrev RgA (Kp:Nat→Prop) (g sp mb:Nat) (D:DataW Value) (G:Rg) (W:World):Prop:=RgAt Kp Tryz.prog 9 87 71 g sp mb D G W
theorem qFz:Keyed Tryz.prog 9:=string_keyed Tryz.underlying9
theorem qUv (w:World):(zeroValue 36).run Tryz.prog w=.ok (.slice none 0 0) w:=by kernel_rfl
theorem qSa (S:ByteArray) (hs:S.size≤100000):keyOf Tryz.prog 9 (.string S)=some (.string S.data.toList):=keyOf_string_mk Tryz.underlying9 ml_
theorem qNt {ops:Array Oper} {rest:List Oper} {o:Oper} {a:Act} {Q:Exit→Act→World→Prop} (w:World) (hg:o.guard=none) (m x:Operand) (hop:o.op=Op.lookup 85 m x true) (mb n:Nat) (D:DataW Value)
    (hm:a.eval m=.map (some mb)) (hown:w.ownsMap Tryz.prog 9 qCx mb n D) (S:ByteArray) (hx:a.eval x=.string S) (hS:S.size≤100000) {v:Value} (hv:D.atKey (.string S.data.toList) (.held (.slice none 0 0))=.held v) {b:Bool} (hb:Maps.has D (.string S.data.toList)=b)
    (hK:wpList Tryz.prog ops Q rest (a.put o.dst (.tuple #[v,.bool b])) w):wpList Tryz.prog ops Q (o::rest) a w:=
  wpList_lookup_own_ok w hg m x _ hop 9 36 qFz Tryz.underlying85 qCx (qUv w) (.held (.slice none 0 0)) [] rfl mb n D hm hown _ _ hx (qSa S hS) (fun v' ps hv'=>by
   unfold qCx at hv';rw[hv] at hv';simp only[Option.some.injEq,Prod.mk.injEq,DataW.held.injEq] at hv';rw[hv'.1,hb]
   exact hK)
theorem qRk (g sp mb:Nat) (w:World) (hg:w.heap[g]?=some (.cells #[.pointer (some ⟨sp,0,none⟩)] 71 (0,0))) (hs:w.heap[sp]?=some (.cells #[.map (some mb)] 87 (0,0))) :
    Calls Tryz.prog 79 #[.pointer (some ⟨g,0,none⟩)] w fun e w'=>e=.returned (.pointer (some ⟨sp,0,none⟩))∧w'=w:=by
 have hl:=qF7 (P:=Tryz.prog) Tryz.func108 (by kernel_rfl) (by kernel_rfl) (by kernel_rfl) (by kernel_rfl) (cb_ 0 hg rfl);have hcv:=qEy (P:=Tryz.prog) (src:=67) (dst:=63) Tryz.underlying67 Tryz.underlying63 hs Nat.zero_lt_one (by kernel_rfl) (by kernel_rfl);clear hg hs;go_enter Tryz.func79,Tryz.ntmps79;go_wp2_with fail
 go_ret;exact⟨rfl,rfl⟩
theorem qFv {Kp:Nat→Prop} (g sp mb:Nat) (D:DataW Value) (G:Rg) (w:World) (h:RgA Kp g sp mb D G w) :
    Calls Tryz.prog 37 #[.pointer (some ⟨g,0,none⟩)] w fun e w'=>e=.returned (.pointer (some ⟨sp,0,none⟩))∧w'=w:=by
 have hl:=qRk g sp mb w h.box h.snap;have HL:=hh_ hl;clear hl h;go_enter Tryz.func37,Tryz.ntmps37;go_wp2_with fail
 refine HL.out.mono ?_;rintro e w' ⟨rfl,hw⟩;rw[hw];clear hw;go_wp2_with fail
 go_ret;exact⟨rfl,rfl⟩
def qYt (w:World) (n:Nat) (E:Int) (ss:List Sc) (e:Ending) (w':World):Prop:=(∃A c rs,e=.returned (.tuple #[.slice A n c,.int .i64 E])∧qA0 w w.heap.size A rs ss)∧w'=w
theorem qFs {Kp:Nat→Prop} (g:Nat) (G:Rg) (S:ByteArray) (w:World) (hS:S.size≤100000) (h:RgLK Kp g G w) :
    Calls Tryz.prog 43 #[.pointer (some ⟨g,0,none⟩),.string S] w (qYt w (rgAt G S.data.toList).length (if (qAp G S.data.toList).isSome=true then 0 else 130) (rgAt G S.data.toList)):=by
 obtain⟨sp,mb,D,ha⟩:=h;have hl:=qFv g sp mb D G w ha;have c0:=cb_ 0 ha.snap rfl;have HL:=hh_ hl;have HA:=hh_ ha;have HZ:=hh_ hS;clear hl ha hS
 cases hk:qAp G S.data.toList with
 |none=>
  have hv:=HA.out.inn.no _ hk;have hb:Maps.has D (.string S.data.toList)=false:=by rw[HA.out.inn.has,hk];rfl
  have hat:rgAt G S.data.toList=[]:=by unfold rgAt;rw[hk];rfl
  rw[hat];have HV:=hh_ hv;have HB:=hh_ hb;clear hv hb hat hk;go_enter Tryz.func43,Tryz.ntmps43;go_wp2_with fail
  refine HL.out.mono ?_;rintro e w' ⟨rfl,hw⟩;rw[hw];clear hw;go_wp2_with (at_lookup;refine qNt w rfl _ _ rfl mb _ D rfl HA.out.map S rfl HZ.out HV.out HB.out ?_)
  go_ret2;exact⟨⟨none,0,[],rfl,⟨rfl,fun j u hu=>by simp[scsV] at hu,fun i r s h=>by simp at h⟩⟩,rfl⟩
 |some l=>
  obtain⟨A,c,rs,hv,hl,-⟩:=HA.out.inn.at_ _ _ hk;have hb:Maps.has D (.string S.data.toList)=true:=by rw[HA.out.inn.has,hk];rfl
  have hat:rgAt G S.data.toList=l:=by unfold rgAt;rw[hk];rfl
  rw[hat];have HV:=hh_ hv;have HB:=hh_ hb;have HY:=hh_ hl;clear hv hb hat hk hl;go_enter Tryz.func43,Tryz.ntmps43;go_wp2_with fail
  refine HL.out.mono ?_;rintro e w' ⟨rfl,hw⟩;rw[hw];clear hw;go_wp2_with (at_lookup;refine qNt w rfl _ _ rfl mb _ D rfl HA.out.map S rfl HZ.out HV.out HB.out ?_)
  go_ret2;exact⟨⟨A,c,rs,rfl,HY.out⟩,rfl⟩
theorem qFx {Kp:Nat→Prop} (g:Nat) (G:Rg) (S:ByteArray) (w:World) (hS:S.size≤100000) (h:RgLK Kp g G w) :
    Calls Tryz.prog 21 #[.pointer (some ⟨g,0,none⟩),.string S] w fun e w'=>e=.returned (.int .i64 (rgAt G S.data.toList).length)∧w'=w:=by
 have hf:=qFs g G S w hS h;have HF:=hh_ hf;clear hf hS h;generalize (if (qAp G S.data.toList).isSome=true then (0:Int) else 130)=E at HF;go_enter Tryz.func21,Tryz.ntmps21;go_wp2_with fail
 refine HF.out.mono ?_;rintro e w' ⟨⟨A,c,rs,rfl,-⟩,hw⟩;rw[hw];clear hw;go_wp2_with fail
 go_ret;exact⟨rfl,rfl⟩
theorem qH0 {Kp:Nat→Prop} (g:Nat) (G:Rg) (S:ByteArray) (f t:Int) (C:Option Addr) (q qcap:Nat) (r:List Cl) (w:World) (hS:S.size≤100000) (h:RgLK Kp g G w) (hz:∀s∈rgAt G S.data.toList,ScSz s.1)
    (hf: -9223372036854775808≤f∧f≤9223372036854775807) (ht: -9223372036854775808≤t∧t≤9223372036854775807) (hr:qIm w C q r) (hE:Env w) :
    Calls Tryz.prog 14 #[.pointer (some ⟨g,0,none⟩),.string S,.int .i64 f,.int .i64 t,.slice C q qcap] w
      (qJq w (if (qAp G S.data.toList).isSome=true then (qBz (rgAt G S.data.toList) f t r).1 else []) (if (qAp G S.data.toList).isSome=true then (qBz (rgAt G S.data.toList) f t r).2 else 130)):=by
 have hfi:=qFs g G S w hS h
 have hlen:(rgAt G S.data.toList).length≤64:=by
  obtain⟨_,_,_,ha⟩:=h;by_cases e:rgAt G S.data.toList=[]
  · rw[e];exact Nat.zero_le _
  · exact ha.ok.few _ (qEq e)
 have hcar:=fun (A:Option Addr) (c:Nat) (rs:List SRef) (hl:qA0 w w.heap.size A rs (rgAt G S.data.toList))=>qT4 w A (rgAt G S.data.toList).length c rs (rgAt G S.data.toList) f t C q qcap r (by omega) hl.len.symm hl hz hf ht hr hE
 cases hk:(qAp G S.data.toList).isSome with
 |false=>
  rw[hk] at hfi;simp only[Bool.false_eq_true,if_false] at hfi ⊢;have HF:=hh_ hfi;clear hfi hcar h hr hE hz hk hlen hf ht hS;go_enter Tryz.func14,Tryz.ntmps14;go_wp2_with fail
  refine HF.out.mono ?_;rintro e w' ⟨⟨A,c,rs,rfl,-⟩,hw⟩;rw[hw];clear hw;go_wp2_with fail
  go_ret2;exact⟨_,rfl,World.ownsRow_nil _ _ _ _,Below.refl _ _⟩
 |true=>
  rw[hk] at hfi;simp only[if_true] at hfi ⊢;have HF:=hh_ hfi;have HC:=hh_ hcar;clear hfi hcar h hr hE hz hk hlen hf ht hS;generalize (rgAt G S.data.toList).length=n at HF HC;go_enter Tryz.func14,Tryz.ntmps14;go_wp2_with fail
  refine HF.out.mono ?_;rintro e w' ⟨⟨A,c,rs,rfl,hl⟩,hw⟩;rw[hw];clear hw;have HL:=hh_ hl;clear hl;go_wp2_with fail
  refine(HC.out A c rs HL.out).mono ?_;rintro e w1 ⟨v,rfl,ho,hb⟩;have HO:=hh_ ho;have HB:=hh_ hb;clear ho hb;go_wp2_with fail
  go_ret2;exact⟨v,rfl,HO.out,HB.out⟩
end Go.Proofs.YtainiaighnjpfaaGreatDoor
