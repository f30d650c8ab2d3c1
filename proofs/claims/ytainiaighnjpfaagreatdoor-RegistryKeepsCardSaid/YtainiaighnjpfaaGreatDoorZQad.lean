/- Rows: lists held against each other and copied, by the statements' helpers. A region that draws its order, in which one operation writes into what another one has made (an append to a row of one's own), and whose last operation waits for all others. Evolve's laws: the chapter's examples, walked. Lists that keep their type, and what lies in them. Registries: a list of schemas, cloned. An append to a row of one's own: the row's block is the one that it was, or a new one. Registries: New, look, find, Last, Get, Chain, Move. Registries: New, Get, Chain, Subjects. -/
import Derived.Test.YtainiaighnjpfaaGreatDoorZQac
import Derived.Test.YtainiaighnjpfaaGreatDoorZQz
import Derived.Test.YtainiaighnjpfaaGreatDoorZQp
import Derived.Test.YtainiaighnjpfaaGreatDoorZQx
import Derived.Test.YtainiaighnjpfaaGreatDoorZQab
import Derived.Test.YtainiaighnjpfaaGreatDoorZQc
import Derived.Shelf.SlIter.Nil
import Derived.Shelf.SortM.Plain
import Derived.Shelf.SortM.SortNone
import Derived.Sort.KeysCollected
set_option linter.unusedVariables false
namespace Go.Ms
open Go.RowKit Go.Lib
end Go.Ms
namespace Go.Proofs.YtainiaighnjpfaaGreatDoor
open Go.RowKit Go.Ms Go.Lib
set_option maxRecDepth 100000 in
set_option maxHeartbeats 1000000 in
theorem qM2 (w:World) (A B:Option Addr) (n cap m capm:Nat) (xs ys:List Cl) (hn':n≤maxLen) (hm':m≤maxLen) (hn:n=xs.length) (hm:m=ys.length) (hA:Lay w w.heap.size A (rowV xs)) (hB:Lay w w.heap.size B (rowV ys)) :
    Calls Tryz.prog 17 #[.slice A n cap,.slice B m capm] w fun e w'=>e=.returned (.bool (decide (xs=ys)))∧Below w.heap.size w w':=by
 unfold maxLen at hn' hm'
 by_cases hnm:n=m
 · subst hnm
   have HA:=Lib.hid hA;have HB:=Lib.hid hB;have HN:=Lib.hid hn;have HM:=Lib.hid hm
   clear hA hB hn hm
   go_enter Tryz.func17,Tryz.ntmps17
   go_wp2_with fail
   go_loopw [5] (fun id wr=> ∃k:Nat,k≤n∧id=.int .i64 k∧Below w.heap.size w wr∧xs.take k=ys.take k) (fun id _=>n-(RowKit.intOf id).toNat)
   case atStart=>exact⟨0,by omega,rfl,Below.refl _ _,rfl⟩
   case round=>
    obtain⟨k,hk,rfl,hb,hr⟩:=hrel;have HR:=Lib.hid hr;clear hr
    by_cases hlk:k<n
    · have hki:(k:Int)<n:=by omega
      obtain⟨c,hc⟩:∃c,xs[k]?=some c:=⟨_,List.getElem?_eq_getElem (by rw[←HN.out];omega)⟩;obtain⟨d,hd⟩:∃c,ys[k]?=some c:=⟨_,List.getElem?_eq_getElem (by rw[←HM.out];omega)⟩;obtain⟨g,o,rfl,hg,h1,h2,h3⟩:=HA.out.cl hc;obtain⟨g',o',rfl,hg',h4,h5,h6⟩:=HB.out.cl hd;have g1:=(hb.cell hg).trans h1;have g2:=(hb.cell hg).trans h2;have g3:=(hb.cell hg).trans h3;have g4:=(hb.cell hg').trans h4;have g5:=(hb.cell hg').trans h5;have g6:=(hb.cell hg').trans h6;clear h1 h2 h3 h4 h5 h6;have HB:=Lib.hid hb;clear hb
      have HC:=Lib.hid hc;have HD:=Lib.hid hd
      clear hc hd;obtain⟨u,nn,S⟩:=c;obtain⟨v,mm,T⟩:=d;simp only at g1 g2 g3 g4 g5 g6
      have he:=fun w=>qLz u v nn mm S T w
      have hst:xs.take (k+1)=ys.take (k+1)↔(u,nn,S)=(v,mm,T):=by
       rw[List.take_add_one,List.take_add_one,HC.out,HD.out,HR.out]
       simp
      have HST:=Lib.hid hst;clear hst
      by_cases hcd:(u,nn,S)=(v,mm,T)
      · rw[decide_eq_true hcd] at he;have HCD:=Lib.hid hcd;clear hcd
        go_wp2_with fail
        go_quiet (fail)
        go_wp2_with fail
        go_roundw
        case rel=>exact⟨k+1,by omega,by go_num,qAc HB.out _,HST.out.2 HCD.out⟩
        case measure=>simp[RowKit.intOf];omega
      · rw[decide_eq_false hcd] at he
        have hne:decide (xs=ys)=false:=by
         apply decide_eq_false
         intro e
         exact hcd (HST.out.1 (by rw[e]))
        have HNE:=Lib.hid hne;clear hcd hne
        go_wp2_with fail
        go_quiet (fail)
        go_wp2_with fail
        go_ret
        exact⟨by rw[HNE.out];rfl,qAc HB.out _⟩
    · have hki:¬(k:Int)<n:=by omega
      have hkn:k=n:=by omega
      have heq:decide (xs=ys)=true:=by
       apply decide_eq_true
       have:=HR.out;rw[hkn,List.take_of_length_le (by have:=HN.out;omega),List.take_of_length_le (by have:=HM.out;omega)] at this;exact this
      have HEQ:=Lib.hid heq;have HB:=Lib.hid hb;clear heq hkn hb
      go_wp2_with fail
      go_ret
      exact⟨by rw[HEQ.out];rfl,HB.out⟩
 · have hne:decide (xs=ys)=false:=by
     apply decide_eq_false
     intro e
     rw[e] at hn;omega
   have h1:((n:Int) != m)=true:=by simp;omega
   have h2:(n != m)=true:=by simpa using hnm
   rw[hne];clear hne hnm hA hB hn hm
   go_enter Tryz.func17,Tryz.ntmps17
   go_wp2_with fail
   go_ret
   exact⟨rfl,Below.refl _ _⟩
end Go.Proofs.YtainiaighnjpfaaGreatDoor
set_option linter.unusedSimpArgs false
namespace Go.Rel
open Go Go.RowKit
section
end
end Go.Rel
set_option linter.unusedSimpArgs false
namespace Go.Ms
open Go.RowKit Go.Lib
theorem qEz {w:World} {b:Nat} {xs:List Value} {T:TypeId} (h:w.heap[b]?=some (.cells xs.toArray T (0,0))):Lay w w.heap.size (some ⟨b,0,none⟩) xs:=fun j u hu=>
 ⟨b,0,rfl,(Array.getElem?_eq_some_iff.1 h).1,by rw[Nat.zero_add];exact cell_of_block h (by simpa using hu)⟩
def isSc (s:Sc):Value→World→Prop:=fun v w=> ∃r:SRef,v=.agg #[.slice r.a r.n r.c,.slice r.b r.m r.d]∧qCi w w.heap.size r s
theorem qLh (s:Sc):Go.Rel.Stable (isSc s):=fun v w w' ⟨r,h1,h2⟩ hb=>⟨r,h1,h2.to hb⟩
def EffT (T:TypeId) (w w':World):Prop:= ∃b:Option Nat,w.grownBy w' b∧∀g,b=some g→∃cs fz,w.heap[g]?=some (.cells cs T fz)
theorem EffT.own {w w':World} {B s n:Nat} {e:TypeId} {v:Value} {xs:List Value} (h:w.ownsRow B e s v n xs) (hg:w.grownBy w' v.ownBlock):EffT e w w':=by
 refine⟨_,hg,fun g hv=>?_⟩
 rcases h.2 with⟨hv',_⟩|⟨g',cap,cur,hv',_,hgb,_⟩
 · rw[hv'] at hv;simp[Value.ownBlock] at hv
 · rw[hv'] at hv
   simp[Value.ownBlock] at hv
   subst hv;exact⟨_,_,hgb⟩
theorem EffT.keep {T:TypeId} {w w':World} (h:EffT T w w') {b:Nat} {cs:Array Value} {T':TypeId} (hb:w.heap[b]?=some (.cells cs T' (0,0))) (hne:T'≠T):w'.heap[b]?=some (.cells cs T' (0,0)):=by
 obtain⟨r,hg,hr⟩:=h;refine(hg.block b (Array.getElem?_eq_some_iff.1 hb).1 (fun e=>?_)).trans hb;obtain⟨cs',fz,h2⟩:=hr b e.symm;rw[hb] at h2
 cases h2
 exact hne rfl
theorem qSz {W:World} {g n:Nat} {T:TypeId} {l:List Cl} (h:W.heap[g]?=some (.cells (rowV l).toArray T (0,0))) (hn:n≤l.length) (hl:n≤100000) (hz:∀c∈l,c.2.2.size≤100000):qKo W (some ⟨g,0,none⟩) n (l.take n):=by
 refine⟨by rw[List.length_take];omega,hl,?_,fun c hc=>hz c (List.mem_of_mem_take hc)⟩;have h1:=qEz (xs:=rowV l) h
 have e:rowV l=rowV (l.take n)++rowV (l.drop n):=by rw[←qMl,List.take_append_drop]
 rw[e] at h1
 intro j u hu
 exact h1 j u (by rw[List.getElem?_append_left ((List.getElem?_eq_some_iff.1 hu).1)];exact hu)
end Go.Ms
namespace Go.Proofs.YtainiaighnjpfaaGreatDoor
open Go.RowKit Go.Ms Go.Lib Go.Shelf Go.Rel
section
variable {g1 g2 g3 g4 g5:Nat} {ra rb ro rx:SRef} {w W:World}
end
end Go.Proofs.YtainiaighnjpfaaGreatDoor
set_option linter.unusedSimpArgs false
namespace Go.Ms
open Go.RowKit Go.Lib
def TyAt (W:World) (A:Option Addr) (T:TypeId):Prop:= ∀g o,A=some ⟨g,o,none⟩→∃cs,W.heap[g]?=some (.cells cs T (0,0))
theorem TyAt.to {W W':World} {A:Option Addr} {T:TypeId} (h:TyAt W A T) (hb:Below W.heap.size W W'):TyAt W' A T:=fun g o e=>by
 obtain⟨cs,hc⟩:=h g o e;exact⟨cs,qAa hc hb⟩
theorem TyAt.eff {W W':World} {A:Option Addr} {T T':TypeId} (h:TyAt W A T) (he:EffT T' W W') (hn:T≠T'):TyAt W' A T:=fun g o e=>by
 obtain⟨cs,hc⟩:=h g o e;exact⟨cs,he.keep hc hn⟩
theorem TyAt.own {W:World} {B s n n' c:Nat} {e:TypeId} {A:Option Addr} {xs:List Value} (h:W.ownsRow B e s (.slice A n c) n' xs):TyAt W A e:=fun g o ea=>by
 rcases h.2 with⟨hv,_⟩|⟨g',cap,cur,hv,_,hgb,_⟩
 · cases hv;cases ea
 · cases hv
   cases ea
   exact⟨cur,hgb⟩
theorem EffT.size {T:TypeId} {W W':World} (h:EffT T W W'):W.heap.size≤W'.heap.size:=by obtain⟨b,hg,_⟩:=h;exact hg.size
theorem EffT.set {T:TypeId} {W:World} {b:Nat} {cs:Array Value} (h:W.heap[b]?=some (.cells cs T (0,0))) (i:Nat) (u:Value):EffT T W (W.setCell ⟨b,i,none⟩ u):=⟨some b,qDm W b i u,fun g e=>by cases e;exact⟨cs,_,h⟩⟩
theorem Lay.eff {W W':World} {B:Nat} {A:Option Addr} {xs:List Value} {T T':TypeId} (h:Lay W B A xs) (ht:TyAt W A T) (he:EffT T' W W') (hn:T≠T'):Lay W' B A xs:=fun j u hu=>by
 obtain⟨g,o,e,hlt,hc⟩:=h j u hu;obtain⟨cs,hb⟩:=ht g o e;refine⟨g,o,e,hlt,?_⟩;have hb2:=he.keep hb hn;unfold World.cell? at hc ⊢;simp only at hc ⊢;rw[hb2];rw[hb] at hc;exact hc
structure ScT (tC tI:TypeId) (W:World) (r:SRef) (s:Sc):Prop where
  lay:qCi W W.heap.size r s
  ta:TyAt W r.a tC
  tb:TyAt W r.b tI
theorem ScT.to {tC tI:TypeId} {W W':World} {r:SRef} {s:Sc} (h:ScT tC tI W r s) (hb:Below W.heap.size W W'):ScT tC tI W' r s:=⟨h.lay.to hb,h.ta.to hb,h.tb.to hb⟩
theorem ScT.eff {tC tI tS:TypeId} {W W':World} {r:SRef} {s:Sc} (h:ScT tC tI W r s) (he:EffT tS W W') (n1:tC≠tS) (n2:tI≠tS):ScT tC tI W' r s:=
  ⟨⟨h.lay.n,h.lay.m,h.lay.nn,h.lay.mm,(h.lay.la.eff h.ta he n1).more he.size,(h.lay.lb.eff h.tb he n2).more he.size⟩,h.ta.eff he n1,h.tb.eff he n2⟩
section
variable {tD tS tC tI:TypeId} {va:Array Value} {v:Value} {r:SRef} {rs:List SRef} {ss:List Sc} {s:List Co} {w W W':World}
end
end Go.Ms
namespace Go.Proofs.YtainiaighnjpfaaGreatDoor
open Go.RowKit Go.Ms Go.Lib
theorem qHt:(Tryz.prog.info? 33).map (fun i=>(i.zero,i.size,i.bytes))=some (some (.agg #[.slice none 0 0,.slice none 0 0]),2,48):=by kernel_rfl
end Go.Proofs.YtainiaighnjpfaaGreatDoor
set_option linter.unusedSimpArgs false
namespace Go.Ms
open Go.RowKit Go.Lib
def qSr (w:World) (B:Nat) (e:TypeId) (v:Value) (l:List SRef):Prop:=w.ownsRow B e 2 v l.length (scsV l)
end Go.Ms
namespace Go.Proofs.YtainiaighnjpfaaGreatDoor
open Go.RowKit Go.Ms Go.Lib
theorem qFu:Tryz.prog.underlying 36=some (.slice 33):=Tryz.underlying36
set_option maxRecDepth 100000 in
theorem qGr (w:World) (A:Option Addr) (n cap:Nat) (xs:List SRef) (hn':n≤100000) (hn:n=xs.length) (hA:Lay w w.heap.size A (scsV xs)) :
    Calls Tryz.prog 41 #[.slice A n cap] w fun e w'=> ∃v,e=.returned v∧qSr w' w.heap.size 33 v xs∧Below w.heap.size w w':=by
 obtain⟨i0,hi,hz0,hz1,hz2⟩:=info_parts qHt
 rcases A with _|a
 · have h0:=hA.none_len
   have hx:xs=[]:=by
    have:=qI7 xs;rw[h0] at this
    exact List.eq_nil_of_length_eq_zero (by simp at this;omega)
   subst hx
   obtain rfl:n=0:=by simpa using hn
   have he:=fun w=>run_eql_slice_nil (P:=Tryz.prog) w 36 33 none 0 cap 0 0 qFu
   clear hA h0 hn hn'
   go_enter Tryz.func41,Tryz.ntmps41
   go_wp2_with fail
   go_ret
   exact⟨_,rfl,World.ownsRow_nil _ _ _ _,Below.refl _ _⟩
 · have he:=fun w=>run_eql_slice_nil (P:=Tryz.prog) w 36 33 (some a) n cap 0 0 qFu
   have HA:=Lib.hid hA;have HN:=Lib.hid hn
   clear hA hn
   go_enter Tryz.func41,Tryz.ntmps41
   have hown0:(w.alloc (.cells #[] 33)).ownsRow w.heap.size 33 2 (.slice (some ⟨w.heap.size,0,none⟩) 0 0) 0 []:=World.ownsRow_made w #[] 0 (Nat.le_refl _) (by unfold maxLen;omega) rfl;have hb0:Below w.heap.size w (w.alloc (.cells #[] 33)):=(Below.refl _ _).alloc (Nat.le_refl _) _
   have HO:=Lib.hid hown0;have HB:=Lib.hid hb0
   clear hown0 hb0
   go_wp2_with (at_builtin;refine qA5 rfl (.tmp 5) (.tmp 6) _ rfl w.heap.size 33 i0 _ 2 48 qFu hi hz0 hz1 hz2 rfl (by omega) (.slice (some ⟨w.heap.size,0,none⟩) 0 0) 0 [] rfl HO.out w.heap.size (some a) n cap (scsV xs) rfl (by rw[qI7,HN.out]) (HA.out.below HB.out) (qI9 _) (by unfold maxLen;omega) (by omega) HB.out.size ?_;intro v1 w1 hown1 hg1)
   have HO1:=Lib.hid hown1;have HB1:=Lib.hid (qBp HO.out HB.out HB.out.size (Nat.le_refl _) hg1);clear hown1 hg1
   go_wp2_with fail
   go_ret
   refine⟨_,rfl,?_,HB1.out⟩;unfold qSr;have:=HO1.out;rw[Nat.zero_add,HN.out] at this;exact this
end Go.Proofs.YtainiaighnjpfaaGreatDoor
set_option linter.unusedSimpArgs false
namespace Go.Ms
open Go.RowKit Go.Lib
theorem qV3 {P:Program} (w:World) (base:Nat) (t tx ty e:TypeId) (i:TypeInfo) (z:Value) (size bytes:Nat) (ht:P.underlying t=some (.slice e)) (hi:P.info? e=some i) (hz:i.zero=some z)
    (hsize:i.size=size) (hby:i.bytes=bytes) (hzs:z.cells.size=size) (hsz:0<size)
    (v:Value) (n:Nat) (xs:List Value) (hown:w.ownsRow base e size v n xs) (x:Value) (m:Nat) (news:List Value) (hs:Src P size tx x m news w)
    (h63:n+m≤maxLen) (hbytes:(n+m)*bytes≤140737488355328) (hbase:base≤w.heap.size) :
    ∃v' w',(Builtin.append_ #[t,tx] ty #[v,x]).run P w=.ok v' w'∧w'.ownsRow base e size v' (n+m) (xs++news)∧w.grownBy w' v.ownBlock∧∀b,v'.ownBlock=some b→v.ownBlock=some b∨w.heap.size≤b:=by
 subst hsize
 subst hby
 have hl:=hs.newsLen
 have hsmall:n+m≤9223372036854775807:=by simp only[maxLen] at h63;omega
 have hlen:(xs++news).length=(n+m)*i.size:=by rw[List.length_append,hown.1,hl,Nat.add_mul]
 have grown:∀(old:Nat),old<n+m→∀(row:Option Nat),
     (w.drew.alloc (.cells ((xs++news).toArray++Builtin.zeroCells z.cells (grownCap w (n+m) old e-(n+m))) e)).ownsRow base e i.size
       (.slice (some ⟨w.heap.size,0,none⟩) (n+m) (grownCap w (n+m) old e)) (n+m) (xs++news)∧
     w.grownBy (w.drew.alloc (.cells ((xs++news).toArray++Builtin.zeroCells z.cells (grownCap w (n+m) old e-(n+m))) e)) row:=by
   intro old ho row
   have hge:=grownCap_ge w (n+m) old e;have hcm:grownCap w (n+m) old e≤maxLen:=grownCap_le_maxLen w (n+m) old e h63;refine⟨⟨hlen,.inr ⟨w.heap.size,_,_,rfl,hbase,heap_alloc_new w.drew _,hge,hcm,?_,?_⟩⟩,⟨rfl,rfl,rfl,by simp,fun k hk _=>(World.grownBy_alloc w.drew _ none).block k hk (by simp)⟩⟩
   · simp only[Array.size_append,List.size_toArray,size_zeroCells,hzs,hlen,←Nat.add_mul]
     congr 1
     omega
   · simp only[Array.toList_append];rw[←hlen];exact List.take_left
 rcases hown.2 with⟨rfl,rfl⟩|⟨g,cap,cur,rfl,hbg,hg,hnc,hcm,hcs,htake⟩
 · have hx:xs=[]:=List.eq_nil_of_length_eq_zero (by simpa using hown.1);subst hx
   by_cases hm:m=0
   · subst hm;have hn:news=[]:=List.eq_nil_of_length_eq_zero (by simpa using hl);subst hn;refine⟨.slice none 0 0,w,?_,World.ownsRow_nil w base e i.size,⟨rfl,rfl,rfl,Nat.le_refl _,fun _ _ _=>rfl⟩,fun b hb=>by simp[Value.ownBlock] at hb⟩;have hc:=hs.cells
     rcases hs.kind with⟨e',hk⟩|hk <;>
       simp[Builtin.append_,run_underlying ht,run_underlying hk,sizeOf,typeInfo,hi,hs.len,hc]
   · have hr:=run_append_grow_src (P:=P) w t tx ty e i z ht hi hz none 0 0 [] (run_firstCells_none w.drew i.size 0 0 0) x m news hs (by omega) (by omega) (growslice_fits (by omega) (by simpa using hbytes));have hgr:=grown 0 (by omega) (Value.ownBlock (.slice none 0 0));simp only[Nat.zero_add,List.nil_append] at hgr hr ⊢;exact⟨_,_,hr,hgr.1,hgr.2,fun b hb=>by right;simp[Value.ownBlock] at hb;omega⟩
 · by_cases hroom:n+m≤cap
   · have hfit:n*i.size+news.length≤cur.size:=by rw[hl,hcs,←Nat.add_mul];exact Nat.mul_le_mul_right _ hroom
     have hst:=run_storeCells_at P g (n*i.size) e news 0 cur w hg (by simpa using hfit) hs.one;simp only[Nat.add_zero] at hst
     have hr:(Builtin.append_ #[t,tx] ty #[.slice (some ⟨g,0,none⟩) n cap,x]).run P w=.ok (.slice (some ⟨g,0,none⟩) (n+m) cap) (w.setRow g (cur.toList.take (n*i.size)++news++cur.toList.drop (n*i.size+news.length)).toArray):=by
      rcases hs.kind with⟨e',hk⟩|hk <;>
        simp[Builtin.append_,run_underlying ht,run_underlying hk,sizeOf,typeInfo,hi,hs.len,hroom,hs.cells,Addr.add_lit,hst]
     refine⟨_,_,hr,⟨hlen,.inr ⟨g,cap,_,rfl,hbg,setRow_heap w g cur _ e _ hg,hroom,hcm,?_,?_⟩⟩,⟨rfl,rfl,rfl,by simp,fun k _ hk=>setRow_other w g k _ (fun e=>hk (by simp[Value.ownBlock,e]))⟩,fun b hb=>by left;simpa[Value.ownBlock] using hb⟩
     · simp only[List.size_toArray,List.length_append,List.length_take,List.length_drop,Array.length_toList];omega
     · rw[htake,←hlen];exact List.take_left
   · have holds:∀j u,xs[j]?=some u→w.drew.cell? ((⟨g,0,none⟩:Addr).add j)=some u:=fun j u hu=>by simpa using hown.cells (g:=g) rfl j u hu
     have hr:=run_append_grow_src (P:=P) w t tx ty e i z ht hi hz (some ⟨g,0,none⟩) n cap xs (run_firstCells_some (P:=P) w.drew i.size n ⟨g,0,none⟩ n cap xs hown.1 holds) x m news hs (by omega) (by omega) (growslice_fits (by omega) hbytes);have hgr:=grown cap (by omega) (Value.ownBlock (.slice (some ⟨g,0,none⟩) n cap));exact⟨_,_,hr,hgr.1,hgr.2,fun b hb=>by right;simp[Value.ownBlock] at hb;omega⟩
theorem qWa {P:Program} (w:World) (base:Nat) (t ty e:TypeId) (i:TypeInfo) (z:Value) (size bytes:Nat) (ht:P.underlying t=some (.slice e)) (hi:P.info? e=some i) (hz:i.zero=some z)
    (hsize:i.size=size) (hby:i.bytes=bytes) (hzs:z.cells.size=size) (hsz:0<size)
    (v:Value) (n:Nat) (xs:List Value) (hown:w.ownsRow base e size v n xs) (B:Nat) (A:Option Addr) (m c:Nat) (news:List Value) (hl:news.length=m*size) (hnews:Lay w B A news) (h1:∀u∈news,u.oneCell'=true)
    (h63:n+m≤maxLen) (hbytes:(n+m)*bytes≤140737488355328) (hbase:base≤w.heap.size) :
    ∃v' w',(Builtin.append_ #[t,t] ty #[v,.slice A m c]).run P w=.ok v' w'∧w'.ownsRow base e size v' (n+m) (xs++news)∧w.grownBy w' v.ownBlock∧∀b,v'.ownBlock=some b→v.ownBlock=some b∨w.heap.size≤b:=by
 have hA:A=none→m=0:=fun h=>by
  subst h;have:=hnews.none_len;subst this
  rcases Nat.eq_zero_or_pos m with h0|h0
  · exact h0
  · have:=Nat.mul_pos h0 hsz;simp at hl;omega
 exact qV3 (P:=P) w base t t ty e i z size bytes ht hi hz hsize hby hzs hsz v n xs hown (.slice A m c) m news (hnews.src ht hl hsz hA h1) h63 hbytes hbase
section
variable {tS tC tI:TypeId} {o4:Obj} {v7 v8:Value} {r7 r8:List SRef} {ss:List Sc} {w W W':World}
end
end Go.Ms
set_option linter.unusedSimpArgs false
namespace Go.Ms
open Go.RowKit Go.Lib Go.Maps
structure CkSt (tS tC tI:TypeId) (v:Value) (rs:List SRef) (ss:List Sc) (w W:World):Prop where
  own:W.ownsRow w.heap.size tS 2 v rs.length (scsV rs)
  each:∀(i:Nat) r s,rs[i]?=some r→ss[i]?=some s→ScT tC tI W r s
  len:rs.length≤ss.length
  bel:Below w.heap.size w W
section
variable {tS tC tI:TypeId} {v:Value} {rs:List SRef} {ss:List Sc} {w W W':World}
theorem CkSt.nil:CkSt tS tC tI (.slice none 0 0) [] ss w w:=⟨World.ownsRow_nil _ _ _ _,fun i r s h=>by simp at h,Nat.zero_le _,Below.refl _ _⟩
theorem CkSt.to (h:CkSt tS tC tI v rs ss w W) (hb:Below W.heap.size W W'):CkSt tS tC tI v rs ss w W':=
  ⟨own_below h.own hb,fun i r s h1 h2=>(h.each i r s h1 h2).to hb,h.len,h.bel.trans (hb.mono h.bel.size)⟩
theorem CkSt.push (h:CkSt tS tC tI v rs ss w W) (n1:tC≠tS) (n2:tI≠tS) {v':Value} {r:SRef} {s:Sc} (hs:ss[rs.length]?=some s) (hr:ScT tC tI W r s)
    (ho:W'.ownsRow w.heap.size tS 2 v' (rs.length+1) (scsV rs++r.vs)) (hg:W.grownBy W' v.ownBlock):CkSt tS tC tI v' (rs++[r]) ss w W':=by
 have he:=EffT.own h.own hg;have hl:=(List.getElem?_eq_some_iff.1 hs).1;refine⟨?_,fun i r' s' h1 h2=>?_,by rw[List.length_append,List.length_singleton];omega,qBp h.own h.bel h.bel.size (Nat.le_refl _) hg⟩
 · rw[List.length_append,qMo,show scsV [r]=r.vs by simp[scsV]];exact ho
 · by_cases hi:i<rs.length
   · rw[List.getElem?_append_left hi] at h1;exact(h.each i r' s' h1 h2).eff he n1 n2
   · have h3:=(List.getElem?_eq_some_iff.1 h1).1;rw[List.length_append,List.length_singleton] at h3
     obtain rfl:i=rs.length:=by omega
     rw[List.getElem?_append_right (Nat.le_refl _),Nat.sub_self] at h1;rw[hs] at h2
     cases h1
     cases h2
     exact hr.eff he n1 n2
theorem CkSt.scs (h:CkSt tS tC tI v rs ss w W) (hl:rs.length=ss.length):∃A c,v=.slice A rs.length c∧rs.length≤c∧c≤maxLen∧qBl W W.heap.size A rs ss:=by
 obtain⟨A,c,rfl,h1,h2⟩:=qAh h.own;exact⟨A,c,rfl,h1,h2,hl,Lay.of_own h.own (Nat.le_refl _),fun i r s h1 h2=>(h.each i r s h1 h2).lay⟩
end
end Go.Ms
namespace Go.Proofs.YtainiaighnjpfaaGreatDoor
open Go.RowKit Go.Ms Go.Lib Go.Maps Go.WideMaps
abbrev RgLK (Kp:Nat→Prop) (g:Nat) (G:Rg) (W:World):Prop:=qKu Kp Tryz.prog 9 87 71 g G W
abbrev RgL (g:Nat) (G:Rg) (W:World):Prop:=RgLK (fun _=>True) g G W
abbrev RgA (Kp:Nat→Prop) (g sp mb:Nat) (D:DataW Value) (G:Rg) (W:World):Prop:=RgAt Kp Tryz.prog 9 87 71 g sp mb D G W
theorem qEd:Keyed Tryz.prog 9:=string_keyed Tryz.underlying9
theorem qPq (w:World):(zeroValue 36).run Tryz.prog w=.ok (.slice none 0 0) w:=by kernel_rfl
theorem qOl (S:ByteArray) (hs:S.size≤100000):keyOf Tryz.prog 9 (.string S)=some (.string S.data.toList):=keyOf_string_mk Tryz.underlying9 (by unfold maxLen;omega)
theorem qK6 {ops:Array Oper} {rest:List Oper} {o:Oper} {a:Act} {Q:Exit→Act→World→Prop} (w:World) (hg:o.guard=none) (m x:Operand) (hop:o.op=Op.lookup 85 m x true) (mb n:Nat) (D:DataW Value)
    (hm:a.eval m=.map (some mb)) (hown:w.ownsMap Tryz.prog 9 qCj mb n D) (S:ByteArray) (hx:a.eval x=.string S) (hS:S.size≤100000) {v:Value} (hv:D.atKey (.string S.data.toList) (.held (.slice none 0 0))=.held v) {b:Bool} (hb:Maps.has D (.string S.data.toList)=b)
    (hK:wpList Tryz.prog ops Q rest (a.put o.dst (.tuple #[v,.bool b])) w):wpList Tryz.prog ops Q (o::rest) a w:=
  wpList_lookup_own_ok w hg m x _ hop 9 36 qEd Tryz.underlying85 qCj (qPq w) (.held (.slice none 0 0)) [] rfl mb n D hm hown _ _ hx (qOl S hS) (fun v' ps hv'=>by
   unfold qCj at hv';rw[hv] at hv';simp only[Option.some.injEq,Prod.mk.injEq,DataW.held.injEq] at hv';rw[hv'.1,hb]
   exact hK)
theorem qMy (g sp mb:Nat) (w:World) (hg:w.heap[g]?=some (.cells #[.pointer (some ⟨sp,0,none⟩)] 71 (0,0))) (hs:w.heap[sp]?=some (.cells #[.map (some mb)] 87 (0,0))) :
    Calls Tryz.prog 79 #[.pointer (some ⟨g,0,none⟩)] w fun e w'=>e=.returned (.pointer (some ⟨sp,0,none⟩))∧w'=w:=by
 have hl:=qIc (P:=Tryz.prog) Tryz.func108 (by kernel_rfl) (by kernel_rfl) (by kernel_rfl) (by kernel_rfl) (cell_of_block (i:=0) hg rfl);have hcv:=qDs (P:=Tryz.prog) (src:=67) (dst:=63) Tryz.underlying67 Tryz.underlying63 hs Nat.zero_lt_one (by kernel_rfl) (by kernel_rfl);clear hg hs
 go_enter Tryz.func79,Tryz.ntmps79
 go_wp2_with fail
 go_ret
 exact⟨rfl,rfl⟩
theorem qEi {Kp:Nat→Prop} (g sp mb:Nat) (D:DataW Value) (G:Rg) (w:World) (h:RgA Kp g sp mb D G w) :
    Calls Tryz.prog 37 #[.pointer (some ⟨g,0,none⟩)] w fun e w'=>e=.returned (.pointer (some ⟨sp,0,none⟩))∧w'=w:=by
 have hl:=qMy g sp mb w h.box h.snap;have HL:=Lib.hid hl;clear hl h
 go_enter Tryz.func37,Tryz.ntmps37
 go_wp2_with fail
 refine HL.out.mono ?_;rintro e w' ⟨rfl,hw⟩;rw[hw];clear hw
 go_wp2_with fail
 go_ret
 exact⟨rfl,rfl⟩
def qTv (w:World) (n:Nat) (E:Int) (ss:List Sc) (e:Ending) (w':World):Prop:=(∃A c rs,e=.returned (.tuple #[.slice A n c,.int .i64 E])∧qBl w w.heap.size A rs ss)∧w'=w
theorem qF5 {Kp:Nat→Prop} (g:Nat) (G:Rg) (S:ByteArray) (w:World) (hS:S.size≤100000) (h:RgLK Kp g G w) :
    Calls Tryz.prog 43 #[.pointer (some ⟨g,0,none⟩),.string S] w (qTv w (rgAt G S.data.toList).length (if (qAq G S.data.toList).isSome=true then 0 else 130) (rgAt G S.data.toList)):=by
 obtain⟨sp,mb,D,ha⟩:=h;have hl:=qEi g sp mb D G w ha;have c0:=cell_of_block (i:=0) ha.snap rfl
 have HL:=Lib.hid hl;have HA:=Lib.hid ha;have HZ:=Lib.hid hS
 clear hl ha hS
 cases hk:qAq G S.data.toList with
 |none=>
  have hv:=HA.out.inn.no _ hk
  have hb:Maps.has D (.string S.data.toList)=false:=by rw[HA.out.inn.has,hk];rfl
  have hat:rgAt G S.data.toList=[]:=by unfold rgAt;rw[hk];rfl
  rw[hat]
  have HV:=Lib.hid hv;have HB:=Lib.hid hb
  clear hv hb hat hk
  go_enter Tryz.func43,Tryz.ntmps43
  go_wp2_with fail
  refine HL.out.mono ?_;rintro e w' ⟨rfl,hw⟩;rw[hw];clear hw
  go_wp2_with (at_lookup;refine qK6 w rfl _ _ rfl mb _ D rfl HA.out.map S rfl HZ.out HV.out HB.out ?_)
  go_ret2
  exact⟨⟨none,0,[],rfl,⟨rfl,fun j u hu=>by simp[scsV] at hu,fun i r s h=>by simp at h⟩⟩,rfl⟩
 |some l=>
  obtain⟨A,c,rs,hv,hl,-⟩:=HA.out.inn.at_ _ _ hk
  have hb:Maps.has D (.string S.data.toList)=true:=by rw[HA.out.inn.has,hk];rfl
  have hat:rgAt G S.data.toList=l:=by unfold rgAt;rw[hk];rfl
  rw[hat]
  have HV:=Lib.hid hv;have HB:=Lib.hid hb;have HY:=Lib.hid hl
  clear hv hb hat hk hl
  go_enter Tryz.func43,Tryz.ntmps43
  go_wp2_with fail
  refine HL.out.mono ?_;rintro e w' ⟨rfl,hw⟩;rw[hw];clear hw
  go_wp2_with (at_lookup;refine qK6 w rfl _ _ rfl mb _ D rfl HA.out.map S rfl HZ.out HV.out HB.out ?_)
  go_ret2
  exact⟨⟨A,c,rs,rfl,HY.out⟩,rfl⟩
theorem qBq {Kp:Nat→Prop} (g:Nat) (G:Rg) (S:ByteArray) (w:World) (hS:S.size≤100000) (h:RgLK Kp g G w) :
    Calls Tryz.prog 21 #[.pointer (some ⟨g,0,none⟩),.string S] w fun e w'=>e=.returned (.int .i64 (rgAt G S.data.toList).length)∧w'=w:=by
 have hf:=qF5 g G S w hS h;have HF:=Lib.hid hf;clear hf hS h
 generalize (if (qAq G S.data.toList).isSome=true then (0:Int) else 130)=E at HF
 go_enter Tryz.func21,Tryz.ntmps21
 go_wp2_with fail
 refine HF.out.mono ?_;rintro e w' ⟨⟨A,c,rs,rfl,-⟩,hw⟩;rw[hw];clear hw
 go_wp2_with fail
 go_ret
 exact⟨rfl,rfl⟩
set_option maxRecDepth 100000 in
set_option maxHeartbeats 1000000 in
theorem qIq {Kp:Nat→Prop} (g:Nat) (G:Rg) (S:ByteArray) (f t:Int) (C:Option Addr) (q qcap:Nat) (r:List Cl) (w:World) (hS:S.size≤100000) (h:RgLK Kp g G w) (hz:∀s∈rgAt G S.data.toList,ScSz s.1)
    (hf: -9223372036854775808≤f∧f≤9223372036854775807) (ht: -9223372036854775808≤t∧t≤9223372036854775807) (hr:qKo w C q r) (hE:Env w) :
    Calls Tryz.prog 14 #[.pointer (some ⟨g,0,none⟩),.string S,.int .i64 f,.int .i64 t,.slice C q qcap] w
      (qPs w (if (qAq G S.data.toList).isSome=true then (qCf (rgAt G S.data.toList) f t r).1 else []) (if (qAq G S.data.toList).isSome=true then (qCf (rgAt G S.data.toList) f t r).2 else 130)):=by
 have hfi:=qF5 g G S w hS h
 have hlen:(rgAt G S.data.toList).length≤64:=by
  obtain⟨_,_,_,ha⟩:=h
  by_cases e:rgAt G S.data.toList=[]
  · rw[e];exact Nat.zero_le _
  · exact ha.ok.few _ (qGy e)
 have hcar:=fun (A:Option Addr) (c:Nat) (rs:List SRef) (hl:qBl w w.heap.size A rs (rgAt G S.data.toList))=>qPx w A (rgAt G S.data.toList).length c rs (rgAt G S.data.toList) f t C q qcap r (by omega) hl.len.symm hl hz hf ht hr hE
 cases hk:(qAq G S.data.toList).isSome with
 |false=>
  rw[hk] at hfi;simp only[Bool.false_eq_true,if_false] at hfi ⊢;have HF:=Lib.hid hfi;clear hfi hcar h hr hE hz hk hlen hf ht hS
  go_enter Tryz.func14,Tryz.ntmps14
  go_wp2_with fail
  refine HF.out.mono ?_;rintro e w' ⟨⟨A,c,rs,rfl,-⟩,hw⟩;rw[hw];clear hw
  go_wp2_with fail
  go_ret2
  exact⟨_,rfl,World.ownsRow_nil _ _ _ _,Below.refl _ _⟩
 |true=>
  rw[hk] at hfi;simp only[if_true] at hfi ⊢
  have HF:=Lib.hid hfi;have HC:=Lib.hid hcar
  clear hfi hcar h hr hE hz hk hlen hf ht hS
  generalize (rgAt G S.data.toList).length=n at HF HC
  go_enter Tryz.func14,Tryz.ntmps14
  go_wp2_with fail
  refine HF.out.mono ?_;rintro e w' ⟨⟨A,c,rs,rfl,hl⟩,hw⟩;rw[hw];clear hw;have HL:=Lib.hid hl;clear hl
  go_wp2_with fail
  refine(HC.out A c rs HL.out).mono ?_;rintro e w1 ⟨v,rfl,ho,hb⟩
  have HO:=Lib.hid ho;have HB:=Lib.hid hb
  clear ho hb
  go_wp2_with fail
  go_ret2
  exact⟨v,rfl,HO.out,HB.out⟩
end Go.Proofs.YtainiaighnjpfaaGreatDoor
set_option linter.unusedSimpArgs false
namespace Go.Ms
open Go.RowKit Go.Lib Go.Maps
def qHj (G:Rg) (x:Bs) (v:Int):Sc×Int:=match qAq G x with
 |none=>(([],[]),130)
 |some l=>if v<1∨(l.length:Int)<v then (([],[]),131) else (l.getD (v-1).toNat zSc,0)
theorem qVx {W:World} {B1 B2:Nat} {eC eI:TypeId} {r:SRef} {s:Sc} (h1:qEq W B1 eC (.slice r.a r.n r.c) s.1) (h2:OwnI W B2 eI (.slice r.b r.m r.d) s.2) (hN:r.n=s.1.length) (hM:r.m=s.2.length) (n1:r.n≤100000) (n2:r.m≤100000):ScT eC eI W r s:=by
 unfold qEq at h1;unfold OwnI at h2;rw[←hN] at h1;rw[←hM] at h2;exact⟨⟨hN,hM,n1,n2,Lay.of_own h1 (Nat.le_refl _),Lay.of_own h2 (Nat.le_refl _)⟩,TyAt.own h1,TyAt.own h2⟩
theorem qR6 {Kp:Nat→Prop} {D:DataW Value} {G:Rg} {W:World} {ss:List Bs} (ht:Tidy D) (hk:∀es,D=.map es→∀p∈es,∃x,p.1=.string x) (h:RgIn Kp W D G) (up:G.Pairwise (fun p q=>p.1<q.1)) (hp:ss.Perm (strKeys D)) :
    ss.mergeSort (fun x y=>decide (x≤y))=G.map Prod.fst:=by
 obtain⟨es,rfl,hnd⟩:=ht;have hup:(G.map Prod.fst).Pairwise (· < ·):=List.pairwise_map.2 up;have hndG:(G.map Prod.fst).Nodup:=List.Pairwise.imp (fun {a b} (h:a<b) (e:a=b)=>List.lt_irrefl b (by rw[e] at h;exact h)) hup
 have hmem:∀x:Bs,Maps.has (.map es) (.string x)=true↔x∈G.map Prod.fst:=fun x=>by
  rw[h.has x]
  cases hl:qAq G x with
  |none=>
   have:=qH4.1 hl;simp only[Option.isSome_none,Bool.false_eq_true,false_iff]
   intro hx
   obtain⟨p,hp1,hp2⟩:=List.mem_map.1 hx;exact this p hp1 hp2
  |some l=>
   simp only[Option.isSome_some,true_iff];exact List.mem_map.2 ⟨_,qEg hl,rfl⟩
 have h1:(G.map Prod.fst).Perm (strKeys (.map es)):=perm_strKeys hnd (hk es rfl) hndG (fun x=>(hmem x).symm);rw[mergeSort_of_perm (hp.trans h1.symm)];exact List.mergeSort_of_pairwise (hup.imp fun hab=>by simp only[decide_eq_true_eq];exact List.le_of_lt hab)
end Go.Ms
namespace Go.Proofs.YtainiaighnjpfaaGreatDoor
open Go.RowKit Go.Ms Go.Lib Go.Maps Go.WideMaps
theorem qLw (g sp mb:Nat) (q:Option Addr) (w:World) (hg:w.heap[g]?=some (.cells #[.pointer q] 71 (0,0))) (hs:w.heap[sp]?=some (.cells #[.map (some mb)] 87 (0,0))) :
    Calls Tryz.prog 36 #[.pointer (some ⟨g,0,none⟩),.pointer (some ⟨sp,0,none⟩)] w fun e w'=>(∃v,e=.returned v)∧w'=w.setCell ⟨g,0,none⟩ (.pointer (some ⟨sp,0,none⟩)):=by
 have hst:=qHy (P:=Tryz.prog) Tryz.func78 (by kernel_rfl) (by kernel_rfl) (by kernel_rfl) (by kernel_rfl) (y:=some ⟨sp,0,none⟩) (cell_of_block (i:=0) hg rfl) (by simp[World.frozen?,hg]);have hcv:=run_convert_to_unsafe (P:=Tryz.prog) (src:=63) (dst:=67) Tryz.underlying63 Tryz.underlying67 (by kernel_rfl) (cell_of_block (i:=0) hs rfl);clear hg hs
 go_enter Tryz.func36,Tryz.ntmps36
 go_wp2_with fail
 go_end0
 exact⟨⟨_,rfl⟩,rfl⟩
theorem qWs (Kp:Nat→Prop) (w:World):Calls Tryz.prog 9 #[] w fun e w'=> ∃g,e=.returned (.pointer (some ⟨g,0,none⟩))∧RgLK Kp g [] w'∧Below w.heap.size w w'∧w.heap.size≤g:=by
 have hmm:=@run_makeMap Tryz.prog;obtain⟨Y,hY⟩:∃Y,Y=((w.alloc (.cells #[.pointer none] 71)).alloc (.map #[] 0)).alloc (.cells #[.map (some (w.heap.size+1))] 87):=⟨_,rfl⟩;have hz:(w.alloc (.cells #[.pointer none] 71)).heap.size=w.heap.size+1:=World.size_alloc _ _
 have hz2:((w.alloc (.cells #[.pointer none] 71)).alloc (.map #[] 0)).heap.size=w.heap.size+2:=by rw[World.size_alloc,hz]
 have q0:Y.heap[w.heap.size]?=some (.cells #[.pointer none] 71 (0,0)):=by rw[hY];exact qAd (qAd (qAf w _) _) _
 have q2:Y.heap[w.heap.size+2]?=some (.cells #[.map (some (w.heap.size+1))] 87 (0,0)):=by
  have h:=qAf ((w.alloc (.cells #[.pointer none] 71)).alloc (.map #[] 0)) (.cells #[.map (some (w.heap.size+1))] 87);rw[hz2] at h;rw[hY];exact h
 have hm:Y.ownsMap Tryz.prog 9 qCj (w.heap.size+1) 0 (.map []:DataW Value):=by
  have e:=(World.ownsMap_made (H:=Value) (w.alloc (.cells #[.pointer none] 71)) Tryz.prog 9 qCj).alloc (.cells #[.map (some (w.heap.size+1))] 87);rw[hz] at e;rw[hY];exact e
 have bY:Below w.heap.size w Y:=by rw[hY];exact(((Below.refl _ w).alloc (Nat.le_refl _) _).alloc (by rw[hz];omega) _).alloc (by rw[hz2];omega) _
 have hst:=qLw w.heap.size (w.heap.size+2) (w.heap.size+1) none Y q0 q2
 have HST:=Lib.hid hst;have Q0:=Lib.hid q0;have Q2:=Lib.hid q2;have HM:=Lib.hid hm;have BY:=Lib.hid bY
 clear hst q0 q2 hm bY hz hz2
 go_enter Tryz.func9,Tryz.ntmps9
 go_wp2_with fail
 rw[←hY];clear hY;refine HST.out.mono ?_;rintro e w' ⟨⟨v,rfl⟩,hw⟩
 have hr:RgLK Kp w.heap.size [] w':=by
  rw[hw];refine⟨w.heap.size+2,w.heap.size+1,.map [],ms_one_set Q0.out _,qAi Q2.out (by omega) _,HM.out.setCell (by simp) _,RgIn.nil _ _,qGz⟩
 have hb:Below w.heap.size w w':=by
  rw[hw];exact BY.out.setCell (p:=⟨w.heap.size,0,none⟩) (Nat.le_refl _) _
 clear hw HST Q0 Q2 HM BY
 have HR:=Lib.hid hr;have HB:=Lib.hid hb
 clear hr hb
 go_wp2_with fail
 go_ret
 exact⟨_,rfl,HR.out,HB.out,Nat.le_refl _⟩
theorem qKl (w:World):Calls Tryz.prog 9 #[] w fun e w'=> ∃g,e=.returned (.pointer (some ⟨g,0,none⟩))∧RgL g [] w'∧Below w.heap.size w w'∧w.heap.size≤g:=qWs (fun _=>True) w
theorem qF8 (r:SRef) (s:Sc) (w:World) (h:qCi w w.heap.size r s):Calls Tryz.prog 19 #[.agg #[.slice r.a r.n r.c,.slice r.b r.m r.d]] w fun e w'=>
    ∃r':SRef,e=.returned (.agg #[.slice r'.a r'.n r'.c,.slice r'.b r'.m r'.d])∧Below w.heap.size w w'∧ScT 45 3 w' r' s∧qEq w' w.heap.size 45 (.slice r'.a r'.n r'.c) s.1∧OwnI w' w.heap.size 3 (.slice r'.b r'.m r'.d) s.2:=by
 refine(qM1 w r.a r.b r.n r.c r.m r.d s.1 s.2 h.nn h.mm h.n h.m h.la h.lb).mono ?_;rintro e w' ⟨A',c',B',d',rfl,h1,h2,hb⟩;exact⟨⟨A',r.n,c',B',r.m,d'⟩,rfl,hb,qVx h1 h2 h.n h.m h.nn h.mm,h1,h2⟩
def qUo (w:World) (s:Sc) (E:Int) (e:Ending) (w':World):Prop:= ∃r:SRef,e=.returned (.tuple #[.agg #[.slice r.a r.n r.c,.slice r.b r.m r.d],.int .i64 E])∧Below w.heap.size w w'∧ScT 45 3 w' r s∧qEq w' w.heap.size 45 (.slice r.a r.n r.c) s.1∧OwnI w' w.heap.size 3 (.slice r.b r.m r.d) s.2
theorem qLm (w w':World) (E:Int) (hb:Below w.heap.size w w'):qUo w ([],[]) E (.returned (.tuple #[.agg #[.slice none 0 0,.slice none 0 0],.int .i64 E])) w':=
  ⟨⟨none,0,0,none,0,0⟩,rfl,hb,⟨⟨rfl,rfl,Nat.zero_le _,Nat.zero_le _,fun j u hu=>by simp[colV] at hu,fun j u hu=>by simp[intV] at hu⟩,(fun g o e=>by cases e),(fun g o e=>by cases e)⟩,World.ownsRow_nil _ _ _ _,World.ownsRow_nil _ _ _ _⟩
end Go.Proofs.YtainiaighnjpfaaGreatDoor
