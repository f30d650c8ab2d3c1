/- What the reference answers of an escape, way by way. The reference's escape. The steps of Unquote's loop, as the reference takes them. The reference's Unquote. The reference's Quote. The reference of the cells: whole numbers' texts; hex. The reference of the cells: Text. The reference of the cells: Bits. Bounds of whole numbers. The reference of the cells: Bits, whole. CellWrites: the walk. The reference of the cells: Whole. The reference of the cells: Unhex. The reference of the cells: Unhex, the walk. The reference of the cells: run, the walk. The reference of the cells: what Read answers, in plain terms. The reference of the cells: guess, the walk. The reference of the cells: bare, the walk. The reference of the cells: Unbits. Rows: what is known of cells. Rows: cells stand while only new blocks are written. Schemas: the first place at which something holds; Place and Named. Schemas, plainly: a line's parts as the library cuts them; an id's text; kinds' words. Schemas: what the library answers of a line's parts. Schemas: what is a name: the package's answer. Schemas: what is a name: the package's answer, the reference's. -/
import Derived.Test.YtainiaighnjpfaaGreatDoorZQn
import Derived.Lib.IndexLaws
import Derived.Lib.SplitLaws
import Derived.Lib.AtoiAll
import Derived.Lib.AtoiAllCases
import Derived.Shelf.Strconv.ErrVarAll
import Derived.Shelf.Strings.SlTrimAscii
import Derived.Shelf.Strings.FuncGrows
set_option maxHeartbeats 1000000
set_option maxRecDepth 100000
set_option linter.unusedVariables false
namespace Go.Ms
open Go.Lib
end Go.Ms
namespace Go.Proofs.YtainiaighnjpfaaGreatDoor
open Go.RowKit Go.Ms Go.Lib
end Go.Proofs.YtainiaighnjpfaaGreatDoor
namespace Go.Ms
open Go.Lib
end Go.Ms
namespace Go.Proofs.YtainiaighnjpfaaGreatDoor
open Go.RowKit Go.Ms Go.Lib
end Go.Proofs.YtainiaighnjpfaaGreatDoor
namespace Go.Ms
open Go.Lib
end Go.Ms
namespace Go.Proofs.YtainiaighnjpfaaGreatDoor
open Go.RowKit Go.Ms Go.Lib
end Go.Proofs.YtainiaighnjpfaaGreatDoor
set_option linter.unusedSimpArgs false
namespace Go.Ms
open Go.Lib
end Go.Ms
namespace Go.Proofs.YtainiaighnjpfaaGreatDoor
open Go.RowKit Go.Ms Go.Lib
end Go.Proofs.YtainiaighnjpfaaGreatDoor
namespace Go.Ms
open Go.Lib
end Go.Ms
namespace Go.Proofs.YtainiaighnjpfaaGreatDoor
open Go.RowKit Go.Ms Go.Lib
end Go.Proofs.YtainiaighnjpfaaGreatDoor
namespace Go.Ms
open Go.Lib
end Go.Ms
namespace Go.Proofs.YtainiaighnjpfaaGreatDoor
open Go.RowKit Go.Ms Go.Lib
end Go.Proofs.YtainiaighnjpfaaGreatDoor
namespace Go.Ms
open Go.Lib
end Go.Ms
namespace Go.Proofs.YtainiaighnjpfaaGreatDoor
open Go.RowKit Go.Ms Go.Lib
end Go.Proofs.YtainiaighnjpfaaGreatDoor
namespace Go.Ms
open Go.Lib
end Go.Ms
namespace Go.Proofs.YtainiaighnjpfaaGreatDoor
open Go.RowKit Go.Ms Go.Lib
end Go.Proofs.YtainiaighnjpfaaGreatDoor
namespace Go.Ms
open Go.Lib
end Go.Ms
namespace Go.Proofs.YtainiaighnjpfaaGreatDoor
open Go.RowKit Go.Ms Go.Lib
end Go.Proofs.YtainiaighnjpfaaGreatDoor
namespace Go.Ms
end Go.Ms
namespace Go.Proofs.YtainiaighnjpfaaGreatDoor
open Go.RowKit Go.Ms Go.Lib
theorem qPf {W w1 w2:World} {p1 p2 p3 p4 p5:Addr} {v1 v2 v3 v4 v5:Value} (h:(w1.cell? p1=some v1∧w1.cell? p2=some v2∧w1.cell? p3=some v3∧w1.cell? p4=some v4∧w1.cell? p5=some v5)∧Below W.heap.size W w1) (hb:Below w1.heap.size w1 w2) :
    (w2.cell? p1=some v1∧w2.cell? p2=some v2∧w2.cell? p3=some v3∧w2.cell? p4=some v4∧w2.cell? p5=some v5)∧Below W.heap.size W w2:=by
 obtain⟨⟨c1,c2,c3,c4,c5⟩,f⟩:=h;exact⟨⟨(hb.cell (qAg c1)).trans c1,(hb.cell (qAg c2)).trans c2,(hb.cell (qAg c3)).trans c3,(hb.cell (qAg c4)).trans c4,(hb.cell (qAg c5)).trans c5⟩,f.trans (hb.mono f.size)⟩
theorem qYe {W w1 w2:World} {p1 p2 p3 p4 p5 p6:Addr} {v1 v2 v3 v4 v5 v6:Value} (h:(w1.cell? p1=some v1∧w1.cell? p2=some v2∧w1.cell? p3=some v3∧w1.cell? p4=some v4∧w1.cell? p5=some v5∧w1.cell? p6=some v6)∧Below W.heap.size W w1) (hb:Below w1.heap.size w1 w2) :
    (w2.cell? p1=some v1∧w2.cell? p2=some v2∧w2.cell? p3=some v3∧w2.cell? p4=some v4∧w2.cell? p5=some v5∧w2.cell? p6=some v6)∧Below W.heap.size W w2:=by
 obtain⟨⟨c1,c2,c3,c4,c5,c6⟩,f⟩:=h;exact⟨⟨(hb.cell (qAg c1)).trans c1,(hb.cell (qAg c2)).trans c2,(hb.cell (qAg c3)).trans c3,(hb.cell (qAg c4)).trans c4,(hb.cell (qAg c5)).trans c5,(hb.cell (qAg c6)).trans c6⟩,f.trans (hb.mono f.size)⟩
theorem endK {A:Prop} {W w1:World} (h:A∧Below W.heap.size W w1):Below W.heap.size W w1:=h.2
end Go.Proofs.YtainiaighnjpfaaGreatDoor
namespace Go.Ms
open Go.RowKit Go.Lib
def idxL {α:Type} (p:α→Bool) (l:List α):Int:=match l.findIdx? p with
 |some i=>i
 |none=> -1
theorem qMn {α:Type} {p:α→Bool} {l:List α} {k:Nat} {c:α} (hc:l[k]?=some c) (hn:∀(j:Nat) d,j<k→l[j]?=some d→p d=false) (hp:p c=true):idxL p l=k:=by
 unfold idxL
 have:l.findIdx? p=some k:=by
  rw[List.findIdx?_eq_some_iff_getElem];obtain⟨hk,rfl⟩:=List.getElem?_eq_some_iff.1 hc;exact⟨hk,hp,fun j hj=>by have:=hn j _ hj (List.getElem?_eq_getElem (by omega));simpa using this⟩
 rw[this]
theorem qG9 {α:Type} {p:α→Bool} {l:List α} (hn:∀(j:Nat) d,l[j]?=some d→p d=false):idxL p l= -1:=by
 unfold idxL
 have:l.findIdx? p=none:=by
  rw[List.findIdx?_eq_none_iff];intro x hx;obtain⟨i,hi⟩:=List.getElem?_of_mem hx;exact hn i x hi
 rw[this]
theorem qUb (p:Co→Bool) (l:List Co):max (idxL p l) 0=(qDf p l).1∧decide (0≤idxL p l)=(qDf p l).2:=by
 unfold idxL qDf
 cases h:l.findIdx? p with
 |some i=>exact⟨by simp only;omega,by simp⟩
 |none=>exact⟨rfl,rfl⟩
theorem qPj {α:Type} (p:α→Bool) (l:List α):decide (0≤idxL p l)=l.any p:=by
 unfold idxL;split
 · rename_i i h
   rw[List.findIdx?_eq_some_iff_getElem] at h;obtain⟨hi,hp,_⟩:=h;have:l.any p=true:=List.any_eq_true.2 ⟨l[i],List.getElem_mem hi,hp⟩;rw[this];simp
 · rename_i h
   rw[List.findIdx?_eq_none_iff] at h;have:l.any p=false:=by rw[List.any_eq_false];intro x hx;have:=h x hx;simpa using this
   rw[this];rfl
end Go.Ms
namespace Go.Proofs.YtainiaighnjpfaaGreatDoor
open Go.RowKit Go.Ms Go.Lib
theorem qPa (w:World) (b q:Nat) (g o n cap:Nat) (u:Bool) (hq:q<n) (hn:n≤maxLen) (h0:w.cell? ⟨b,0,none⟩=some (.slice (some ⟨g,o,none⟩) n cap)) (h1:w.cell? ⟨g,o+q*7+2+1,none⟩=some (.bool u)) :
    Calls Tryz.prog 75 #[.int .i64 q,.pointer (some ⟨b,0,none⟩)] w fun e w'=>e=.returned (.bool u)∧Below w.heap.size w w':=by
 unfold maxLen at hn;have hq':(q:Int)<n:=by omega
 go_enter Tryz.func75,Tryz.ntmps75;go_wp2_with fail
 all_goals (try go_quiet (fail))
 all_goals (go_wp2_with fail)
 all_goals go_ret
 all_goals exact⟨rfl,Below.refl _ _⟩
theorem qOk (w:World) (b:Nat) (c:Co) (id:Int) (h0:w.cell? ⟨b,0,none⟩=some (.int .i64 id)) :
    Calls Tryz.prog 143 #[coA c,.pointer (some ⟨b,0,none⟩)] w fun e w'=>e=.returned (.bool (decide (c.1=id)))∧Below w.heap.size w w':=by
 obtain⟨i0,s0,⟨k0,u0⟩,n0,m0,t0⟩:=c;show Calls Tryz.prog 143 #[.agg #[.int .i64 i0,.string s0,.int .i64 k0,.bool u0,.bool n0,.int .i64 m0,.string t0],.pointer (some ⟨b,0,none⟩)] w _
 have h1:=fun o=>(((Below.refl _ w).alloc le_ o).cell (qAg h0)).trans h0
 go_enter Tryz.func143,Tryz.ntmps143;go_wp2_with fail
 go_ret;exact⟨by congr 2,br_.alloc le_ _⟩
theorem qOq (w:World) (A:Option Addr) (n cap:Nat) (l:List Int) (b:Nat) (p:Int→Bool) (hn':n≤maxLen) (hn:n=l.length) (hA:Lay w w.heap.size A (intV l)) (hcl:∀(k:Nat) (x:Int) (W:World),l[k]?=some x→Below w.heap.size w W→Calls Tryz.prog 75 #[.int .i64 x,.pointer (some ⟨b,0,none⟩)] W fun e w2=>e=.returned (.bool (p x))∧Below W.heap.size W w2) :
    Calls Tryz.prog 107 #[.slice A n cap,.func (.func 75) #[] #[.pointer (some ⟨b,0,none⟩)]] w fun e w'=>e=.returned (.int .i64 (idxL p l))∧Below w.heap.size w w':=by
 unfold maxLen at hn';have hcl:=hcl;have HC:=hh_ hcl;have HA:=hh_ hA;have HN:=hh_ hn;clear hcl hA hn;go_enter Tryz.func107,Tryz.ntmps107;go_wp2_with fail
 go_loopw [8] (fun id wr=> ∃k:Nat,k≤n∧id=.int .i64 k∧Below w.heap.size w wr∧∀(j:Nat) x,j<k→l[j]?=some x→p x=false) (fun id _=>n-(RowKit.intOf id).toNat)
 case atStart=>exact⟨0,by omega,rfl,Below.refl _ _,fun j c h=>absurd h (by omega)⟩
 case round=>
  obtain⟨k,hk,rfl,hb,hp⟩:=hrel;have HP:=hh_ hp;clear hp;by_cases hlk:k<n
  · have hki:(k:Int)<n:=by omega
    obtain⟨x,hx⟩:∃x,l[k]?=some x:=⟨_,List.getElem?_eq_getElem (by rw[←HN.out];omega)⟩;obtain⟨g,o,rfl,hg,h1⟩:=HA.out.num hx;have g1:=(hb.cell hg).trans h1;clear h1;have hcall:=HC.out _ _ wr hx hb;have HX:=hh_ hx;have HB:=hh_ hb;have HCA:=hh_ hcall;clear hx hb hcall
    cases hpx:p x with
    |true=>
     have HR:=hh_ (qMn HX.out HP.out hpx);go_wp2_with fail
     refine HCA.out.mono ?_;rw[hpx];clear hpx;rintro en w1 ⟨rfl,b1⟩;have B1:=hh_ (HB.out.trans (b1.mono HB.out.size));clear b1;go_wp2_with fail
     go_ret;exact⟨congrArg (fun i=>Ending.returned (.int .i64 i)) HR.out.symm,B1.out⟩
    | false=>
     have HPX:=hh_ hpx;go_wp2_with fail
     refine HCA.out.mono ?_;rw[hpx];clear hpx;rintro en w1 ⟨rfl,b1⟩;have B1:=hh_ (HB.out.trans (b1.mono HB.out.size));clear b1;go_wp2_with fail
     go_roundw
     case rel=>
      refine⟨k+1,by omega,by go_num,B1.out,fun j y hj hy=>?_⟩;by_cases e:j=k
      · subst e;rw[HX.out] at hy;cases hy;exact HPX.out
      · exact HP.out j y (by omega) hy
     case measure=>simp[RowKit.intOf];omega
  · have hki:¬(k:Int)<n:=by omega
    have HR:=hh_ (qG9 (p:=p) (l:=l) (fun j x hx=>HP.out j x (by have:=(List.getElem?_eq_some_iff.1 hx).1;have:=HN.out;omega) hx));have HB:=hh_ hb;clear hb;go_wp2_with fail
    go_ret;exact⟨congrArg (fun i=>Ending.returned (.int .i64 i)) HR.out.symm,HB.out⟩
theorem qNi (w:World) (A:Option Addr) (n cap:Nat) (l:List Co) (b:Nat) (p:Co→Bool) (hn':n≤maxLen) (hn:n=l.length) (hA:Lay w w.heap.size A (colV l)) (hcl:∀(k:Nat) (x:Co) (W:World),l[k]?=some x→Below w.heap.size w W→Calls Tryz.prog 143 #[coA x,.pointer (some ⟨b,0,none⟩)] W fun e w2=>e=.returned (.bool (p x))∧Below W.heap.size W w2) :
    Calls Tryz.prog 193 #[.slice A n cap,.func (.func 143) #[] #[.pointer (some ⟨b,0,none⟩)]] w fun e w'=>e=.returned (.int .i64 (idxL p l))∧Below w.heap.size w w':=by
 unfold maxLen at hn';have hcl:=hcl;have HC:=hh_ hcl;have HA:=hh_ hA;have HN:=hh_ hn;clear hcl hA hn;go_enter Tryz.func193,Tryz.ntmps193;go_wp2_with fail
 go_loopw [8] (fun id wr=> ∃k:Nat,k≤n∧id=.int .i64 k∧Below w.heap.size w wr∧∀(j:Nat) x,j<k→l[j]?=some x→p x=false) (fun id _=>n-(RowKit.intOf id).toNat)
 case atStart=>exact⟨0,by omega,rfl,Below.refl _ _,fun j c h=>absurd h (by omega)⟩
 case round=>
  obtain⟨k,hk,rfl,hb,hp⟩:=hrel;have HP:=hh_ hp;clear hp;by_cases hlk:k<n
  · have hki:(k:Int)<n:=by omega
    obtain⟨x,hx⟩:∃x,l[k]?=some x:=⟨_,List.getElem?_eq_getElem (by rw[←HN.out];omega)⟩;obtain⟨i0,s0,⟨k0,u0⟩,n0,m0,t0⟩:=x;obtain⟨g,o,rfl,hg,h1,h2,h3,h4,h5,h6,h7⟩:=HA.out.co hx;have g1:=(hb.cell hg).trans h1;have g2:=(hb.cell hg).trans h2;have g3:=(hb.cell hg).trans h3;have g4:=(hb.cell hg).trans h4;have g5:=(hb.cell hg).trans h5;have g6:=(hb.cell hg).trans h6;have g7:=(hb.cell hg).trans h7;clear h1 h2 h3 h4 h5 h6 h7;simp only at g1 g2 g3 g4 g5 g6 g7;have hcall:=HC.out _ _ wr hx hb;have HX:=hh_ hx;have HB:=hh_ hb;have HCA:=hh_ hcall;clear hx hb hcall
    cases hpx:p ((i0,s0,(k0,u0),n0,m0,t0):Co) with
    |true=>
     have HR:=hh_ (qMn HX.out HP.out hpx);go_wp2_with fail
     refine HCA.out.mono ?_;rw[hpx];clear hpx;rintro en w1 ⟨rfl,b1⟩;have B1:=hh_ (HB.out.trans (b1.mono HB.out.size));clear b1;go_wp2_with fail
     go_ret;exact⟨congrArg (fun i=>Ending.returned (.int .i64 i)) HR.out.symm,B1.out⟩
    | false=>
     have HPX:=hh_ hpx;go_wp2_with fail
     refine HCA.out.mono ?_;rw[hpx];clear hpx;rintro en w1 ⟨rfl,b1⟩;have B1:=hh_ (HB.out.trans (b1.mono HB.out.size));clear b1;go_wp2_with fail
     go_roundw
     case rel=>
      refine⟨k+1,by omega,by go_num,B1.out,fun j y hj hy=>?_⟩;by_cases e:j=k
      · subst e;rw[HX.out] at hy;cases hy;exact HPX.out
      · exact HP.out j y (by omega) hy
     case measure=>simp[RowKit.intOf];omega
  · have hki:¬(k:Int)<n:=by omega
    have HR:=hh_ (qG9 (p:=p) (l:=l) (fun j x hx=>HP.out j x (by have:=(List.getElem?_eq_some_iff.1 hx).1;have:=HN.out;omega) hx));have HB:=hh_ hb;clear hb;go_wp2_with fail
    go_ret;exact⟨congrArg (fun i=>Ending.returned (.int .i64 i)) HR.out.symm,HB.out⟩
theorem qQ3 (w:World) (A B:Option Addr) (n cap m capm:Nat) (cs:List Co) (b:Nat) (v:Int) (hn':n≤maxLen) (hn:n=cs.length) (hA:Lay w w.heap.size A (colV cs)) (h0:w.cell? ⟨b,0,none⟩=some (.int .i64 v)) :
    Calls Tryz.prog 142 #[.agg #[.slice A n cap,.slice B m capm],.func (.func 143) #[] #[.pointer (some ⟨b,0,none⟩)]] w fun e w'=>e=.returned (.tuple #[.int .i64 (qDf (fun c=>decide (c.1=v)) cs).1,.bool (qDf (fun c=>decide (c.1=v)) cs).2])∧Below w.heap.size w w':=by
 have hb0:Below w.heap.size w (w.alloc (.cells #[.slice A n cap,.slice B m capm] 33)):=(Below.refl _ w).alloc le_ _;have hc:=qNi (w.alloc (.cells #[.slice A n cap,.slice B m capm] 33)) A n cap cs b (fun c=>decide (c.1=v)) hn' hn ((hA.below hb0).more hb0.size) (fun k x W hx hW=>qOk W b x v ((hW.cell (qAg (hb0.cell (qAg h0) |>.trans h0))).trans ((hb0.cell (qAg h0)).trans h0)));obtain⟨f1,f2⟩:=qUb (fun c=>decide (c.1=v)) cs;rw[←f1,←f2];have HB:=hh_ hb0;clear hA hn hn' hb0 f1 f2;generalize idxL (fun c=>decide (c.1=v)) cs=I at hc ⊢;have HC:=hh_ hc;clear hc;by_cases hI:0≤I
 · have hmx:max I 0=I:=by omega
   rw[hmx,decide_eq_true hI];have hI2:¬I<0:=by omega
   go_enter Tryz.func142,Tryz.ntmps142;go_wp2_with fail
   refine HC.out.mono ?_;rintro en w1 ⟨rfl,b1⟩;have B1:=hh_ (HB.out.trans (b1.mono HB.out.size));clear b1;go_wp2_with fail
   all_goals (first|(exfalso;omega)|(go_ret2;exact⟨rfl,B1.out⟩))
 · have hmx:max I 0=0:=by omega
   rw[hmx];have hI2:I<0:=by omega
   go_enter Tryz.func142,Tryz.ntmps142;go_wp2_with fail
   refine HC.out.mono ?_;rintro en w1 ⟨rfl,b1⟩;have B1:=hh_ (HB.out.trans (b1.mono HB.out.size));clear b1;go_wp2_with fail
   all_goals (first|(exfalso;omega)|(go_ret2;exact⟨rfl,B1.out⟩))
theorem qR9 (w:World) (A B:Option Addr) (n cap m capm:Nat) (cs:List Co) (v:Int) (hn':n≤maxLen) (hn:n=cs.length) (hA:Lay w w.heap.size A (colV cs)) :
    Calls Tryz.prog 103 #[.agg #[.slice A n cap,.slice B m capm],.int .i64 v] w fun e w'=>e=.returned (.tuple #[.int .i64 (qDf (fun c=>decide (c.1=v)) cs).1,.bool (qDf (fun c=>decide (c.1=v)) cs).2])∧Below w.heap.size w w':=by
 have hb0:Below w.heap.size w ((w.alloc (.cells #[.slice A n cap,.slice B m capm] 33)).alloc (.cells #[.int .i64 v] 3)):=((Below.refl _ w).alloc le_ _).alloc (by rw[World.size_alloc];omega) _;have q1:=qAd (w.alloc (.cells #[.slice A n cap,.slice B m capm] 33)) (.cells #[.int .i64 v] 3);rw[World.size_alloc] at q1;have hc:=qQ3 _ A B n cap m capm cs (w.heap.size+1) v hn' hn ((hA.below hb0).more hb0.size) (cell_of_block (i:=0) q1 rfl);have HC:=hh_ hc;have HB:=hh_ hb0;clear hc hA hn hn' hb0 q1;go_enter Tryz.func103,Tryz.ntmps103;go_wp2_with fail
 refine HC.out.mono ?_;rintro en w1 ⟨rfl,b1⟩;have B1:=hh_ (HB.out.trans (b1.mono HB.out.size));clear b1;go_wp2_with fail
 go_ret2;exact⟨rfl,B1.out⟩
end Go.Proofs.YtainiaighnjpfaaGreatDoor
namespace Go.Ms
open Go.RowKit Go.Lib
theorem qGv {c:UInt8} {s:Bs}:(cutAt c s=none∧indexByte s c= -1)∨∃x y,cutAt c s=some (x,y)∧indexByte s c=(x.length:Int)∧s.take x.length=x∧s.drop (x.length+1)=y:=by
 cases h:cutAt c s with
 |none=>
  refine .inl ⟨rfl,?_⟩;have hn:=qH2.1 h;rcases Int.lt_or_le (indexByte s c) 0 with h0|h0
  · have:=indexByte_ge s c;omega
  · obtain⟨o,ho⟩:∃o:Nat,indexByte s c=o:=⟨(indexByte s c).toNat,by omega⟩;exact absurd (List.mem_of_getElem? (indexByte_some ho).1) hn
 |some z=>
  obtain⟨x,y⟩:=z;obtain⟨h1,h2⟩:=qCm h;refine .inr ⟨x,y,rfl,?_,by rw[h1];simp,by rw[h1];simp⟩;have hat:s[x.length]?=some c:=by rw[h1];simp
  rcases Int.lt_or_le (indexByte s c) 0 with h0|h0
  · have:=indexByte_ge s c;exact absurd hat (indexByte_none (by omega) _)
  · obtain⟨o,ho⟩:∃o:Nat,indexByte s c=o:=⟨(indexByte s c).toNat,by omega⟩;obtain⟨g1,g2⟩:=indexByte_some ho;rw[ho];have hx:¬x.length<o:=fun hl=>g2 _ hl hat
    have hx2:¬o<x.length:=fun hl=>by
     rw[h1,List.getElem?_append_left hl] at g1;exact h2 (List.mem_of_getElem? g1)
    omega
theorem qHt (c:UInt8) (k:Nat) (s:Bs):splitK [c] 0 (k+1) s=match cutAt c s with
    |none=>[s]
    |some x=>x.1::splitK [c] 0 k x.2:=by
 rw[splitK,index_one];rcases qGv (c:=c) (s:=s) with⟨h1,h2⟩|⟨x,y,h1,h2,h3,h4⟩
 · rw[h1,h2];rfl
 · have e:(((x.length:Nat):Int)== -1)=false:=by rw[beq_eq_false_iff_ne];omega
   rw[h1,h2,e];simp only[Bool.false_eq_true,if_false,Int.toNat_natCast,Nat.add_zero,List.length_singleton,h3,h4]
def qEd (s:Bs):Option (Bs×Bs×Bs×Bs):=match cutAt 32 s with
 |none=>none
 | some x=>match cutAt 32 x.2 with
  |none=>none
  |some y=>match cutAt 32 y.2 with
   |none=>none
   |some z=>some (x.1,y.1,z.1,z.2)
theorem qIg (s:Bs):qGa s=match qEd s with
    |none=>none
    |some p=>qFi p.1 p.2.1 p.2.2.1 p.2.2.2:=by
 unfold qGa qEd;split
 · rename_i h;rw[h]
 · rename_i x h
   rw[h];split
   · rename_i h2;simp only[h2]
   · rename_i y h2
     simp only[h2];split
     · rename_i h3;simp only[h3]
     · rename_i z h3;simp only[h3]
theorem qKt {s:Bs} {p:Bs×Bs×Bs×Bs} (h:qEd s=some p):3≤s.length∧s=p.1++32::(p.2.1++32::(p.2.2.1++32::p.2.2.2)):=by
 unfold qEd at h;split at h
 · cases h
 · rename_i x hx
   split at h
   · cases h
   · rename_i y hy
     split at h
     · cases h
     · rename_i z hz
       cases h;obtain⟨e1,_⟩:=qCm (x:=x.1) (y:=x.2) hx;obtain⟨e2,_⟩:=qCm (x:=y.1) (y:=y.2) hy;obtain⟨e3,_⟩:=qCm (x:=z.1) (y:=z.2) hz;have e:s=x.1++32::(y.1++32::(z.1++32::z.2)):=by rw[←e3,←e2,←e1]
       refine⟨?_,e⟩;rw[e];simp;omega
theorem qMv (s:Bs):match qEd s with
    |none=>(splitK [32] 0 3 s).length<4
    |some p=>splitK [32] 0 3 s=[p.1,p.2.1,p.2.2.1,p.2.2.2]:=by
 unfold qEd;rw[qHt]
 cases h:cutAt 32 s with
 |none=>simp
 | some x=>
  simp only;rw[qHt]
  cases h2:cutAt 32 x.2 with
  |none=>simp
  |some y=>
   simp only;rw[qHt]
   cases h3:cutAt 32 y.2 with
   |none=>simp
   |some z=>simp only[splitK]
theorem qNv (S:ByteArray):match qEd S.data.toList with
    |none=>(splitB ⟨#[32]⟩ 0 (min 4 (S.size+1)-1) S).length<4
    |some p=>splitB ⟨#[32]⟩ 0 (min 4 (S.size+1)-1) S=[⟨p.1.toArray⟩,⟨p.2.1.toArray⟩,⟨p.2.2.1.toArray⟩,⟨p.2.2.2.toArray⟩]∧min 4 (S.size+1)=4:=by
 have hlen:S.data.toList.length=S.size:=by simp
 by_cases h3:S.size<3
 · have hn:qEd S.data.toList=none:=by
     cases h:qEd S.data.toList with
     |none=>rfl
     |some p=>have:=(qKt h).1;omega
   rw[hn];have:=splitB_length_le ⟨#[32]⟩ 0 (min 4 (S.size+1)-1) S;simp only;omega
 · have e:min 4 (S.size+1)=4:=by omega
   rw[e];have hd:=splitB_data ⟨#[32]⟩ 0 3 S;have hp:=qMv S.data.toList;have hs:(ByteArray.mk #[32]).data.toList=[32]:=rfl;rw[hs] at hd
   cases h:qEd S.data.toList with
   |none=>
    rw[h] at hp;simp only at hp ⊢;rw[←hd,List.length_map] at hp;exact hp
   |some p=>
    rw[h] at hp;simp only at hp ⊢;rw[←hd] at hp;refine⟨?_,trivial⟩;have hb:∀(b:ByteArray) (l:Bs),b.data.toList=l→b=⟨l.toArray⟩:=fun b l e=>by subst e;cases b;simp
    show splitB ⟨#[32]⟩ 0 3 S=_
    generalize splitB ⟨#[32]⟩ 0 3 S=L at hp;rcases L with _|⟨a,_|⟨b,_|⟨c,_|⟨d,_|⟨e,t⟩⟩⟩⟩⟩
    all_goals simp only[List.map_cons,List.map_nil,List.cons.injEq,and_true,reduceCtorEq,and_false] at hp
    rw[hb a _ hp.1,hb b _ hp.2.1,hb c _ hp.2.2.1,hb d _ hp.2.2.2]
theorem qL1 (c:UInt8) (s:Bs):qBc c s=(trimSuffix s [c],hasSuffix s [c]):=by
 unfold qBc trimSuffix hasSuffix;rcases List.eq_nil_or_concat s with rfl|⟨l,a,rfl⟩
 · rfl
 · have e:([c]:Bs).isSuffixOf (l++[a])=(c==a):=by
     unfold List.isSuffixOf;rw[List.reverse_append];simp[List.isPrefixOf]
   rw[List.concat_eq_append,e,List.getLast?_concat];by_cases h:c=a
   · subst h;simp
   · have h2:¬a=c:=fun e=>h e.symm
     simp[h,h2]
theorem qSx {n:Int} (h0: -9223372036854775808≤n) (h1:n≤9223372036854775807):atoiAll (itoa n)=.ok n:=by
 rw[←parseIntB_64];have e:(2:Nat)^(64-1)=9223372036854775808:=by decide
 unfold itoa;by_cases hn:n<0
 · rw[if_pos hn,parseIntB_minus,qYf _ (by omega),e];simp only[signedC];rw[if_neg (by omega)];congr 1
   omega
 · rw[if_neg hn];obtain⟨c,r,hc,h2,h3⟩:=qWc n.toNat;rw[hc,parseIntB_plain 64 c r (by omega) (by omega),←hc,qYf _ (by omega),e];simp only[signlessC];rw[if_neg (by omega)];congr 1
   omega
theorem qV4 {l:Bs} {v:Int} (h:atoiAll l=.ok v):qId l=v:=by unfold qId;rw[parseIntB_64,h]
theorem qYz {l:Bs} (h:∀v,atoiAll l≠.ok v):idOf l= -1:=by
 unfold idOf;rw[if_neg];rintro⟨h1,h2,h3⟩;have:=qSx (n:=qId l) (by omega) (by omega);rw[h1] at this;exact h _ this
theorem qZl {l:Bs} {v:Int} (h:atoiAll l=.ok v):idOf l=if itoa v=l∧0≤v∧v≤1048576 then v else -1:=by
 unfold idOf;rw[qV4 h]
def qJ3:List ByteArray:=[⟨#[]⟩,⟨#[98,111,111,108]⟩,⟨#[105,110,116,51,50]⟩,⟨#[105,110,116,54,52]⟩,⟨#[115,116,114,105,110,103]⟩,⟨#[98,121,116,101,115]⟩]
theorem qR3 (S:ByteArray):idxL (fun t=>decide (S=t)) qJ3=if S.data.toList=[] then 0 else if kindOf S.data.toList=0 then -1 else kindOf S.data.toList:=by
 have hb:∀(l:Bs),S=⟨l.toArray⟩↔S.data.toList=l:=fun l=>⟨fun e=>by rw[e],fun e=>by subst e;cases S;simp⟩
 have h0:=hb [];have h1:=hb (qDv 1);have h2:=hb (qDv 2);have h3:=hb (qDv 3);have h4:=hb (qDv 4);have h5:=hb (qDv 5);unfold idxL qJ3 kindOf;by_cases g0:S.data.toList=[]
 · rw[if_pos g0];have:=h0.2 g0;subst this;rfl
 rw[if_neg g0];have k0:¬S=⟨#[]⟩:=fun e=>g0 (h0.1 e)
 by_cases g1:S.data.toList=qDv 1
 · rw[if_pos g1];have:=h1.2 g1;subst this;rfl
 rw[if_neg g1];have k1:¬S=⟨#[98,111,111,108]⟩:=fun e=>g1 (h1.1 e)
 by_cases g2:S.data.toList=qDv 2
 · rw[if_pos g2];have:=h2.2 g2;subst this;rfl
 rw[if_neg g2];have k2:¬S=⟨#[105,110,116,51,50]⟩:=fun e=>g2 (h2.1 e)
 by_cases g3:S.data.toList=qDv 3
 · rw[if_pos g3];have:=h3.2 g3;subst this;rfl
 rw[if_neg g3];have k3:¬S=⟨#[105,110,116,54,52]⟩:=fun e=>g3 (h3.1 e)
 by_cases g4:S.data.toList=qDv 4
 · rw[if_pos g4];have:=h4.2 g4;subst this;rfl
 rw[if_neg g4];have k4:¬S=⟨#[115,116,114,105,110,103]⟩:=fun e=>g4 (h4.1 e)
 by_cases g5:S.data.toList=qDv 5
 · rw[if_pos g5];have:=h5.2 g5;subst this;rfl
 rw[if_neg g5];have k5:¬S=⟨#[98,121,116,101,115]⟩:=fun e=>g5 (h5.1 e)
 simp[List.findIdx?_cons,k0,k1,k2,k3,k4,k5]
theorem qSq (l:Bs):kindOf l=0∨(1≤kindOf l∧kindOf l≤5):=by
 unfold kindOf;repeat' split
 all_goals omega
end Go.Ms
namespace Go.Proofs.YtainiaighnjpfaaGreatDoor
open Go.RowKit Go.Ms Go.Lib
theorem qMd (n:Int) (w:World) (h0: -9223372036854775808≤n) (h1:n≤9223372036854775807) (hE:Env w) :
    Calls Tryz.prog 124 #[.int .i64 n] w fun e w'=>e=.returned (.string ⟨(itoa n).toArray⟩)∧Below w.heap.size w w':=by
 refine(Tryz.strconv_Itoa n h0 h1 w hE.pow).mono ?_;rintro e w' ⟨rfl,k,os,rfl⟩;exact⟨rfl,below_grow w k os⟩
theorem qVs (S:ByteArray) (w:World) (hs:S.size≤20000) (hE:Env w) :
    Calls Tryz.prog 123 #[.string S] w fun e w'=>((∃v,atoiAll S.data.toList=.ok v∧e=.returned (.tuple #[.int .i64 v,.nilIface]))∨((∀v,atoiAll S.data.toList≠.ok v)∧∃v te p,e=.returned (.tuple #[.int .i64 v,.iface te p])))∧Below w.heap.size w w':=by
 cases h:atoiAll S.data.toList with
 |ok v=>
  refine(Tryz.strconv_Atoi_ok S (by omega) v h w).mono ?_;rintro e w' ⟨rfl,hw⟩;refine⟨.inl ⟨v,rfl,rfl⟩,?_⟩;rcases hw with rfl|⟨t,rfl⟩
  · exact Below.refl _ _
  · exact⟨rfl,rfl,rfl,by rw[Lib.bytesWorld_size];omega,fun j hj=>Lib.bytesWorld_at_old w _ t j hj⟩
 |range=>
  obtain⟨tp,p,hv⟩:=hE.rng;refine(Tryz.strconv_Atoi_range_var S (by omega) h tp p w hv).mono ?_;rintro e w' ⟨N,rfl,_,_,hb⟩;exact⟨.inr ⟨fun v=>nofun,_,_,_,rfl⟩,hb⟩
 |_=>
  obtain⟨tp,p,hv⟩:=hE.syn;have hc:Calls Tryz.prog 123 #[.string S] w _:=Any.strconv_Atoi_syntax_var Tryz.laysC172 S (by omega) h tp p w hv;refine hc.mono ?_;rintro e w' ⟨N,rfl,_,_,hb⟩;exact⟨.inr ⟨fun v=>nofun,_,_,_,rfl⟩,hb⟩
theorem qRl (S:ByteArray) (w:World) (hs:S.size≤2000000) (hE:Env w) :
    Calls Tryz.prog 122 #[.string S,.string ⟨#[32]⟩,.int .i64 4] w fun e w'=>
     ((qEd S.data.toList=none∧∃A n c,e=.returned (.slice A n c)∧n<4)∨∃p,qEd S.data.toList=some p∧e=.returned (.slice (some ⟨w.heap.size,0,none⟩) 4 4)∧w'.heap[w.heap.size]?=some (.cells #[.string ⟨p.1.toArray⟩,.string ⟨p.2.1.toArray⟩,.string ⟨p.2.2.1.toArray⟩,.string ⟨p.2.2.2.toArray⟩] 9 (0,0)))∧Below w.heap.size w w':=by
 obtain⟨m,hm⟩:=hE.maxl;refine(Tryz.strings_SplitN S ⟨#[32]⟩ 4 m w (by omega) hm (by decide) (by decide) (by decide)).mono ?_;have hp:=qNv S;rintro e w' ⟨rfl,rfl⟩;refine⟨?_,(Below.refl _ w).alloc le_ _⟩
 cases h:qEd S.data.toList with
 |none=>
  rw[h] at hp;exact .inl ⟨rfl,_,_,_,rfl,hp⟩
 |some p=>
  rw[h] at hp;obtain⟨h1,h2⟩:=hp;rw[h1,h2];exact .inr ⟨p,rfl,rfl,qAd _ _⟩
end Go.Proofs.YtainiaighnjpfaaGreatDoor
namespace Go.Ms
open Go.RowKit Go.Lib
def qQu:Bs:=[97,98,99,100,101,102,103,104,105,106,107,108,109,110,111,112,113,114,115,116,117,118,119,120,121,122,48,49,50,51,52,53,54,55,56,57,95]
theorem qUs:∀k:Fin 256,qQu.contains (UInt8.ofNat k.val)=qDg (UInt8.ofNat k.val):=by decide +kernel
theorem qV5 (c:UInt8):qQu.contains c=qDg c:=by
 have:=qUs ⟨c.toNat,UInt8.toNat_lt c⟩
 simpa using this
theorem qI8 (p:UInt8→Bool):∀l:Bs,l.dropWhile p=[]↔l.all p=true
  |[]=>by simp
  |c::r=>by
   rw[List.dropWhile_cons,List.all_cons,Bool.and_eq_true];split
   · rename_i h
     rw[qI8 p r];simp[h]
   · rename_i h
     simp[h]
theorem qLj (p:UInt8→Bool):∀l:Bs,l.dropWhile p=[]∨∃a t,l.dropWhile p=a::t∧p a=false
  |[]=>.inl rfl
  |c::r=>by
   rw[List.dropWhile_cons];split
   · exact qLj p r
   · rename_i h
     exact .inr ⟨c,r,rfl,by simpa using h⟩
theorem qS8 (l cs:Bs):trimS l cs=[]↔l.all (fun c=>cs.contains c)=true:=by
 unfold trimS trimLeftS trimRightS;rw[qI8];have e:=qI8 (fun c=>cs.contains c) l.reverse;rw[List.all_reverse] at e;rw[←e];rcases qLj (fun c=>cs.contains c) l.reverse with h|⟨a,t,h,ha⟩
 · rw[h];simp
 · rw[h,List.all_reverse,List.all_cons];simp only[ha,Bool.false_and,Bool.false_eq_true,reduceCtorEq]
def oddP (r:Nat):Bool:=(decide (r<97)||decide (122<r))&&(decide (r<48)||decide (57<r))&&decide (r≠95)
theorem qZ0 {c:UInt8} (h:qDg c=true):oddP c.toNat=false∧c.toNat<128:=by
 unfold qDg qCs at h;unfold oddP;simp only[Bool.or_eq_true,Bool.and_eq_true,decide_eq_true_eq] at h;rcases h with(⟨h1,h2⟩|⟨h1,h2⟩)|h
 · exact⟨by rw[decide_eq_false (by omega:¬c.toNat<97),decide_eq_false (by omega:¬122<c.toNat)];rfl,by omega⟩
 · exact⟨by rw[decide_eq_false (by omega:¬c.toNat<48),decide_eq_false (by omega:¬57<c.toNat),Bool.or_self,Bool.and_false];rfl,by omega⟩
 · exact⟨by rw[h];rfl,by omega⟩
theorem qP9 {S:ByteArray} (h:∀c∈S.data.toList,qDg c=true):∀(f pos:Nat),idxFuncFrom oddP true S f pos= -1
  |0,pos=>rfl
  | f +1,pos=>by
   unfold idxFuncFrom;split
   · rename_i hp
     have hm:S.get! pos∈S.data.toList:=by
      have:S.get! pos=S.data[pos]'hp:=by
       show S.data[pos]! =_
       exact getElem!_pos S.data pos hp
      rw[this];exact Array.mem_toList_iff.2 (Array.getElem_mem hp)
     obtain⟨ho,hlt⟩:=qZ0 (h _ hm)
     have hd:Utf8.decode S pos=((S.get! pos).toNat,1):=by
      unfold Utf8.decode;simp only[Nat.add_zero];rw[if_pos (by omega)]
     rw[hd];simp only[ho,Bool.false_eq_true,if_false];exact qP9 h f _
   · rfl
end Go.Ms
namespace Go.Proofs.YtainiaighnjpfaaGreatDoor
open Go.RowKit Go.Ms Go.Lib
theorem qY6 (r:Nat) (w:World) (hr:r≤1114111) :
    Calls Tryz.prog 82 #[.int .i32 r] w fun e w'=>e=.returned (.bool (oddP r))∧Below w.heap.size w w':=by
 have hd:oddP r=((decide ((r:Int)<97)||decide (122<(r:Int)))&&(decide ((r:Int)<48)||decide (57<(r:Int)))&&((r:Int) != 95)):=by
  unfold oddP
  have e1:((r:Int) != 95)=decide (r≠95):=by
   by_cases h:r=95
   · subst h;rfl
   · rw[decide_eq_true h];simpa using(by omega:¬(r:Int)=95)
  rw[e1];congr 2
  · congr 1
    · exact decide_eq_decide.2 (by omega)
    · exact decide_eq_decide.2 (by omega)
  · congr 1
    · exact decide_eq_decide.2 (by omega)
    · exact decide_eq_decide.2 (by omega)
 rw[hd];clear hd;go_enter Tryz.func82,Tryz.ntmps82;go_wp2_with fail
 all_goals go_ret
 all_goals (refine⟨?_,Below.refl _ _⟩;first|(congr 2;done)|(congr 2;simp only[Bool.and_eq_true,Bool.or_eq_true,Bool.eq_iff_iff,decide_eq_true_eq,bne_iff_ne,ne_eq];omega)|(congr 2;simp;omega))
theorem qHv (S:ByteArray) (w:World) (hs:S.size≤100000) :
    Calls Tryz.prog 38 #[.string S] w fun e w'=>e=.returned (.bool (isNm S.data.toList))∧Below w.heap.size w w':=by
 have hT:∀w,Calls Tryz.prog 80 #[.string S,.string ⟨#[97,98,99,100,101,102,103,104,105,106,107,108,109,110,111,112,113,114,115,116,117,118,119,120,121,122,48,49,50,51,52,53,54,55,56,57,95]⟩] w fun e w'=>e=.returned (.string ⟨(Lib.trimS S.data.toList (ByteArray.mk #[97,98,99,100,101,102,103,104,105,106,107,108,109,110,111,112,113,114,115,116,117,118,119,120,121,122,48,49,50,51,52,53,54,55,56,57,95]).data.toList).toArray⟩)∧Below w.heap.size w w':=fun w=>(Any.strings_Trim_laid Tryz.lays160 (by kernel_rfl) S ⟨#[97,98,99,100,101,102,103,104,105,106,107,108,109,110,111,112,113,114,115,116,117,118,119,120,121,122,48,49,50,51,52,53,54,55,56,57,95]⟩ w (by omega) (by decide) (ascii_of_all (by decide)))
 have hTr:Lib.trimS S.data.toList (ByteArray.mk #[97,98,99,100,101,102,103,104,105,106,107,108,109,110,111,112,113,114,115,116,117,118,119,120,121,122,48,49,50,51,52,53,54,55,56,57,95]).data.toList=Lib.trimS S.data.toList qQu:=rfl
 have hall:Lib.trimS S.data.toList qQu=[]↔S.data.toList.all qDg=true:=by
  rw[qS8];have:(fun c=>qQu.contains c)=qDg:=funext qV5;rw[this]
 obtain⟨L,hL⟩:∃L,Lib.trimS S.data.toList qQu=L:=⟨_,rfl⟩;rw[hL] at hall;simp only[hTr,hL] at hT;have HT:=hh_ hT;have HA:=hh_ hall;clear hT hTr hL hall;have hlen:S.data.toList.length=S.size:=by simp
 by_cases h0:S.size=0
 · have hn:isNm S.data.toList=false:=by unfold isNm;rw[hlen,h0];rfl
   have e1:S.toList=[]:=by rw[Lib.toList_data];exact List.eq_nil_of_length_eq_zero (by rw[hlen];exact h0)
   rw[hn];clear hn hlen;go_enter Tryz.func38,Tryz.ntmps38;go_wp2_with fail
   go_ret;exact⟨rfl,Below.refl _ _⟩
 have e1:¬S.toList=[]:=by rw[Lib.toList_data];intro e;rw[e] at hlen;simp at hlen;omega
 have h0':0<S.size:=by omega
 have e3:S.toList.isEmpty=false:=by rw[List.isEmpty_eq_false_iff];exact e1
 by_cases h1:32<S.size
 · have hn:isNm S.data.toList=false:=by unfold isNm;rw[hlen,decide_eq_false (by omega:¬S.size≤32)];simp
   have h1':(32:Int)<S.size:=by omega
   rw[hn];clear hn hlen;go_enter Tryz.func38,Tryz.ntmps38;go_wp2_with fail
   go_ret;exact⟨rfl,Below.refl _ _⟩
 have h1':¬(32:Int)<S.size:=by omega
 have hF:S.data.toList.getD 0 0=S[0]'h0':=by
  rw[List.getD_eq_getElem?_getD,List.getElem?_eq_getElem (by rw[hlen];exact h0')];rfl
 obtain⟨c,hc⟩:∃c,S[0]'h0'=c:=⟨_,rfl⟩;rw[hc] at hF
 have hin:c∈S.data.toList:=by
  rw[←hc];exact Array.mem_toList_iff.2 (Array.getElem_mem h0')
 by_cases h2:c.toNat<97
 · have hn:isNm S.data.toList=false:=by unfold isNm qCs;rw[hF,decide_eq_false (by omega:¬97≤c.toNat)];simp
   have h2':(c.toNat:Int)<97:=by omega
   rw[hn];clear hn hlen;go_enter Tryz.func38,Tryz.ntmps38;go_wp2_with fail
   go_ret;exact⟨rfl,Below.refl _ _⟩
 have h2':¬(c.toNat:Int)<97:=by omega
 by_cases h3:122<c.toNat
 · have hn:isNm S.data.toList=false:=by unfold isNm qCs;rw[hF,decide_eq_false (by omega:¬c.toNat≤122)];simp
   have h3':(122:Int)<c.toNat:=by omega
   rw[hn];clear hn hlen;go_enter Tryz.func38,Tryz.ntmps38;go_wp2_with fail
   go_ret;exact⟨rfl,Below.refl _ _⟩
 have h3':¬(122:Int)<c.toNat:=by omega
 by_cases h4:S.data.toList.all qDg=true
 · have hn:isNm S.data.toList=true:=by unfold isNm qCs;rw[hF,hlen,h4];simp;omega
   obtain rfl:L=[]:=HA.out.2 h4;have hC:=fun w=>Tryz.strings_ContainsFunc_grows 82 #[] (enters_of Tryz.func82 (by kernel_rfl) rfl) oddP S w (fun W x hx hb=>qY6 x W hx)
   have hI:Lib.idxFunc oddP true S= -1:=qP9 (fun c hc=>List.all_eq_true.1 h4 c hc) _ _;rw[hI] at hC;have HC:=hh_ hC;rw[hn];clear hn hlen hC hI h4;go_enter Tryz.func38,Tryz.ntmps38;go_wp2_with fail
   refine(HT.out _).mono ?_;rintro en w1 ⟨rfl,b1⟩;have B1:=hh_ b1;clear b1;go_wp2_with fail
   refine(HC.out _).mono ?_;rintro en w2 ⟨rfl,b2⟩;have B2:=hh_ (B1.out.trans (b2.mono B1.out.size));clear b2;go_wp2_with fail
   go_ret;exact⟨rfl,B2.out⟩
 · have hn:isNm S.data.toList=false:=by unfold isNm;simp only[Bool.not_eq_true] at h4;rw[h4];simp
   have hL2:¬L=[]:=fun e=>h4 (HA.out.1 e)
   have e2:¬(ByteArray.mk L.toArray).toList=[]:=by rw[Lib.toList_data];simpa using hL2
   have e4:(ByteArray.mk L.toArray).toList.isEmpty=false:=by rw[List.isEmpty_eq_false_iff];exact e2
   rw[hn];clear hn hlen h4 HA;go_enter Tryz.func38,Tryz.ntmps38;go_wp2_with fail
   refine(HT.out _).mono ?_;rintro en w1 ⟨rfl,b1⟩;have B1:=hh_ b1;clear b1;go_wp2_with fail
   go_ret;exact⟨rfl,B1.out⟩
end Go.Proofs.YtainiaighnjpfaaGreatDoor
