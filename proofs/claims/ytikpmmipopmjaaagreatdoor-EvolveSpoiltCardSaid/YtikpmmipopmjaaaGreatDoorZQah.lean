/- Evolve's laws: a schema read of a text. Evolve's laws: the examples' texts, read. Rows: whether two are the same; a row copied. Rows: lists held against each other and copied, by the statements' helpers. A region that draws its order, in which one operation writes into what another one has made (an append to a row of one's own), and whose last operation waits for all others. -/
import Derived.Test.YtikpmmipopmjaaaGreatDoorZQag
import Derived.Test.YtikpmmipopmjaaaGreatDoorZQn
import Derived.Test.YtikpmmipopmjaaaGreatDoorZQw
import Derived.Test.YtikpmmipopmjaaaGreatDoorZQq
import Derived.Test.YtikpmmipopmjaaaGreatDoorZQx
set_option linter.unusedVariables false
set_option linter.unusedSimpArgs false
namespace Go.Ms
open Go.RowKit Go.Lib
theorem Lay.off {W:World} {B:Nat} {A:Option Addr} {xs:List Value} (h:Lay W B A xs) {b i:Nat} {a1 a2:Option Addr} {n1 c1 n2 c2:Nat} {T:TypeId} (hb:W.heap[b]?=some (.cells #[.slice a1 n1 c1,.slice a2 n2 c2] T (0,0))) (hx:∀x∈xs,∀a n c,x≠.slice a n c) (y:Value):Lay (W.setCell ⟨b,i,none⟩ y) B A xs:=by
 intro j u hu
 obtain⟨g,o,e,hlt,hc⟩:=h j u hu;refine⟨g,o,e,hlt,?_⟩
 have hne:g≠b:=by
  rintro rfl
  simp[World.cell?,hb] at hc
  have hm:=List.mem_of_getElem? hu
  rcases hoj:o+j with _|_|k
  · rw[hoj] at hc;simp at hc;exact hx u hm _ _ _ hc.symm
  · rw[hoj] at hc;simp at hc;exact hx u hm _ _ _ hc.symm
  · rw[hoj] at hc;simp at hc
 have hk:(W.setCell ⟨b,i,none⟩ y).heap[g]?=W.heap[g]?:=Below.heap_setCell W ⟨b,i,none⟩ y g hne;unfold World.cell? at hc ⊢;simp only at hc ⊢;rw[hk];exact hc
theorem qD5 (l:List Co):∀x∈colV l,∀a n c,x≠.slice a n c:=by
 intro x hx a n c e
 obtain⟨d,_,hd⟩:=List.mem_flatMap.1 hx;subst e
 simp[coV] at hd
theorem qD6 (l:List Int):∀x∈intV l,∀a n c,x≠.slice a n c:=by
 intro x hx a n c e
 obtain⟨d,_,hd⟩:=List.mem_map.1 hx;subst e
 cases hd
end Go.Ms
namespace Go.Proofs.YtikpmmipopmjaaaGreatDoor
open Go.RowKit Go.Ms Go.Lib Go.Shelf Go.Rel
theorem qIm {w:World} {b:Nat} {x y:Value} {T:TypeId} (h:w.heap[b]?=some (.cells #[x,y] T (0,0))) (u v:Value):((w.setCell ⟨b,0,none⟩ u).setCell ⟨b,1,none⟩ v).heap[b]?=some (.cells #[u,v] T (0,0)):=qDd (two_set0 h u) v
set_option maxHeartbeats 1000000 in
theorem qL9 {S:ByteArray} {s:Sc} (hs:S.size≤1000) (h1:s.1.length≤100000) (h2:s.2.length≤100000) (hr:(Lib.replaceAll S.data.toList [47] [10]).length≤20000) (hp:qBb (Lib.replaceAll S.data.toList [47] [10])=(s.1,s.2,0,0)) (w:World) (hE:Env w) :
    Calls Tryz.prog 31 #[.string S] w fun e w'=> ∃r:SRef,(r.n≤r.c∧r.c≤maxLen∧r.m≤r.d∧r.d≤maxLen)∧e=.returned (.agg #[.slice r.a r.n r.c,.slice r.b r.m r.d])∧r.n=s.1.length∧r.m=s.2.length∧qBf w' w'.heap.size r s∧Below w.heap.size w w':=by
 obtain⟨X,hX⟩:∃X,X=w.alloc (.cells #[.slice none 0 0,.slice none 0 0] 25):=⟨_,rfl⟩
 have bX:Below w.heap.size w X:=by rw[hX];exact(Below.refl _ w).alloc (Nat.le_refl _) _
 have qX:X.heap[w.heap.size]?=some (.cells #[.slice none 0 0,.slice none 0 0] 25 (0,0)):=by rw[hX];exact qAf _ _
 obtain⟨m,hm⟩:=(hE.below bX).maxl;have hcb:=Lib.countB_le ⟨#[47]⟩ (by decide) S.size S (Nat.le_refl _)
 have cr:=Tryz.strings_ReplaceAll S ⟨#[47]⟩ ⟨#[10]⟩ m X (by omega) hm (by decide) (by
   have h2:(⟨#[10]⟩:ByteArray).size=1:=rfl
   rw[h2];omega)
 rw[show(⟨#[47]⟩:ByteArray).data.toList=[47] from rfl,show(⟨#[10]⟩:ByteArray).data.toList=[10] from rfl] at cr
 generalize Lib.replaceAll S.data.toList [47] [10]=L at cr hr hp
 have hpar:=fun (W:World) (hb:Below X.heap.size X W)=>qUu (S:=⟨L.toArray⟩) (w:=W) (D:=(s.1,s.2,0,0)) (by show L.toArray.size≤20000;rw[List.size_toArray];omega) ((hE.below bX).below hb) hp rfl rfl rfl
 have HR:=Lib.hid cr;have HP:=Lib.hid hpar;have BX:=Lib.hid bX;have QX:=Lib.hid qX
 clear cr hpar bX qX hm hcb hE hp
 go_enter Tryz.func31,Tryz.ntmps31
 go_wp2_with fail
 rw[←hX];clear hX;refine HR.out.mono ?_;rintro en w1 ⟨rfl,b1⟩
 have B1:=Lib.hid (BX.out.trans (b1.mono BX.out.size));have Q1:=Lib.hid (qAb QX.out b1);have HP1:=Lib.hid (HP.out w1 b1)
 clear b1
 go_wp2_with fail
 refine HP1.out.mono ?_;rintro en w2 ⟨A,B,c,d,hcp,rfl,l1,l2,b2⟩;have HC:=Lib.hid hcp;have q2:=qAb Q1.out b2;have q3:=qAe q2 (.cells #[.slice A s.1.length c,.slice B s.2.length d] 25);have f0:=qAa (i:=0) q3;have f1:=qAa (i:=1) q3;have y0:=cell_of_block (i:=0) q3 rfl;have y1:=cell_of_block (i:=1) q3 rfl
 have Q3:=Lib.hid q3;have B2:=Lib.hid (B1.out.trans (b2.mono B1.out.size));have L1:=Lib.hid l1;have L2:=Lib.hid l2
 clear b2 q2 q3 l1 l2 hcp
 go_wp2_with fail
 have B3:=B2.out.alloc B2.out.size (.cells #[.slice A s.1.length c,.slice B s.2.length d] 25);have bl:=(Below.refl w2.heap.size w2).alloc (Nat.le_refl _) (.cells #[.slice A s.1.length c,.slice B s.2.length d] 25);have hq4:=qIm Q3.out (.slice A s.1.length c) (.slice B s.2.length d);refine bodyPost_ret (results_cell_row (P:=Tryz.prog) rfl _ _ w.heap.size 25 _ (0,0) _ rfl hq4 Tryz.underlying25 rfl (by kernel_rfl)) rfl ?_;have q5:=Go.Ms.two_set0 Q3.out (.slice A s.1.length c)
 refine⟨⟨A,s.1.length,c,B,s.2.length,d⟩,HC.out,rfl,rfl,rfl,⟨rfl,rfl,h1,h2,?_,?_⟩,(B3.setCell (p:=⟨w.heap.size,0,none⟩) (Nat.le_refl _) _).setCell (p:=⟨w.heap.size,1,none⟩) (Nat.le_refl _) _⟩
 · simp only[World.size_setCell];exact(((L1.out.below bl).more bl.size).off Q3.out (qD5 _) _).off q5 (qD5 _) _
 · simp only[World.size_setCell];exact(((L2.out.below bl).more bl.size).off Q3.out (qD6 _) _).off q5 (qD6 _) _
theorem qCu {S:ByteArray} {s:Sc} (hs:S.size≤1000) (h1:s.1.length≤100000) (h2:s.2.length≤100000) (hr:(Lib.replaceAll S.data.toList [47] [10]).length≤20000) (hp:qBb (Lib.replaceAll S.data.toList [47] [10])=(s.1,s.2,0,0)) (w:World) (hE:Env w) :
    Calls Tryz.prog 31 #[.string S] w fun e w'=> ∃r:SRef,e=.returned (.agg #[.slice r.a r.n r.c,.slice r.b r.m r.d])∧r.n=s.1.length∧r.m=s.2.length∧qBf w' w'.heap.size r s∧Below w.heap.size w w':=
  (qL9 hs h1 h2 hr hp w hE).mono fun e w' ⟨r,_,h⟩=>⟨r,h⟩
end Go.Proofs.YtikpmmipopmjaaaGreatDoor
set_option linter.unusedSimpArgs false
namespace Go.Proofs.YtikpmmipopmjaaaGreatDoor
open Go.RowKit Go.Ms Go.Lib
def qEg (w:World) (s:Sc):Ending→World→Prop:=fun e w'=> ∃r:SRef,e=.returned (.agg #[.slice r.a r.n r.c,.slice r.b r.m r.d])∧r.n=s.1.length∧r.m=s.2.length∧qBf w' w'.heap.size r s∧Below w.heap.size w w'
theorem rp_0:Lib.replaceAll (ByteArray.data ⟨#[49,32,105,100,32,105,110,116,51,50,42,32,48,47,50,32,115,32,115,116,114,105,110,103,32,34,100,34,47]⟩).toList [47] [10]=[49,32,105,100,32,105,110,116,51,50,42,32,48,10,50,32,115,32,115,116,114,105,110,103,32,34,100,34,10]:=by kernel_rfl
theorem qWt (w:World) (hE:Env w):Calls Tryz.prog 31 #[.string ⟨#[49,32,105,100,32,105,110,116,51,50,42,32,48,47,50,32,115,32,115,116,114,105,110,103,32,34,100,34,47]⟩] w (qEg w eW0):=
  qCu (S:=⟨#[49,32,105,100,32,105,110,116,51,50,42,32,48,47,50,32,115,32,115,116,114,105,110,103,32,34,100,34,47]⟩) (s:=eW0) (by decide) (by decide) (by decide) (by rw[rp_0];decide) (by rw[rp_0];exact zCc) w hE
theorem rp_1:Lib.replaceAll (ByteArray.data ⟨#[49,32,105,100,32,105,110,116,54,52,42,32,48,47,52,32,110,32,105,110,116,54,52,63,32,110,117,108,108,47]⟩).toList [47] [10]=[49,32,105,100,32,105,110,116,54,52,42,32,48,10,52,32,110,32,105,110,116,54,52,63,32,110,117,108,108,10]:=by kernel_rfl
theorem qX4 (w:World) (hE:Env w):Calls Tryz.prog 31 #[.string ⟨#[49,32,105,100,32,105,110,116,54,52,42,32,48,47,52,32,110,32,105,110,116,54,52,63,32,110,117,108,108,47]⟩] w (qEg w eW1):=
  qCu (S:=⟨#[49,32,105,100,32,105,110,116,54,52,42,32,48,47,52,32,110,32,105,110,116,54,52,63,32,110,117,108,108,47]⟩) (s:=eW1) (by decide) (by decide) (by decide) (by rw[rp_1];decide) (by rw[rp_1];exact zCs) w hE
theorem rp_2:Lib.replaceAll (ByteArray.data ⟨#[49,32,105,100,32,105,110,116,51,50,42,32,48,47]⟩).toList [47] [10]=[49,32,105,100,32,105,110,116,51,50,42,32,48,10]:=by kernel_rfl
theorem qXn (w:World) (hE:Env w):Calls Tryz.prog 31 #[.string ⟨#[49,32,105,100,32,105,110,116,51,50,42,32,48,47]⟩] w (qEg w eW2):=
  qCu (S:=⟨#[49,32,105,100,32,105,110,116,51,50,42,32,48,47]⟩) (s:=eW2) (by decide) (by decide) (by decide) (by rw[rp_2];decide) (by rw[rp_2];exact zCp) w hE
theorem rp_3:Lib.replaceAll (ByteArray.data ⟨#[50,32,115,32,115,116,114,105,110,103,32,34,100,34,47]⟩).toList [47] [10]=[50,32,115,32,115,116,114,105,110,103,32,34,100,34,10]:=by kernel_rfl
theorem qXm (w:World) (hE:Env w):Calls Tryz.prog 31 #[.string ⟨#[50,32,115,32,115,116,114,105,110,103,32,34,100,34,47]⟩] w (qEg w eW3):=
  qCu (S:=⟨#[50,32,115,32,115,116,114,105,110,103,32,34,100,34,47]⟩) (s:=eW3) (by decide) (by decide) (by decide) (by rw[rp_3];decide) (by rw[rp_3];exact zCi) w hE
theorem rp_4:Lib.replaceAll (ByteArray.data ⟨#[49,32,105,100,32,105,110,116,51,50,42,32,48,47,50,32,116,32,115,116,114,105,110,103,32,34,100,34,47]⟩).toList [47] [10]=[49,32,105,100,32,105,110,116,51,50,42,32,48,10,50,32,116,32,115,116,114,105,110,103,32,34,100,34,10]:=by kernel_rfl
theorem qXf (w:World) (hE:Env w):Calls Tryz.prog 31 #[.string ⟨#[49,32,105,100,32,105,110,116,51,50,42,32,48,47,50,32,116,32,115,116,114,105,110,103,32,34,100,34,47]⟩] w (qEg w eW4):=
  qCu (S:=⟨#[49,32,105,100,32,105,110,116,51,50,42,32,48,47,50,32,116,32,115,116,114,105,110,103,32,34,100,34,47]⟩) (s:=eW4) (by decide) (by decide) (by decide) (by rw[rp_4];decide) (by rw[rp_4];exact zCg) w hE
theorem rp_5:Lib.replaceAll (ByteArray.data ⟨#[49,32,105,100,32,105,110,116,51,50,42,32,48,47,50,32,115,32,115,116,114,105,110,103,63,32,34,100,34,47]⟩).toList [47] [10]=[49,32,105,100,32,105,110,116,51,50,42,32,48,10,50,32,115,32,115,116,114,105,110,103,63,32,34,100,34,10]:=by kernel_rfl
theorem qXh (w:World) (hE:Env w):Calls Tryz.prog 31 #[.string ⟨#[49,32,105,100,32,105,110,116,51,50,42,32,48,47,50,32,115,32,115,116,114,105,110,103,63,32,34,100,34,47]⟩] w (qEg w eW5):=
  qCu (S:=⟨#[49,32,105,100,32,105,110,116,51,50,42,32,48,47,50,32,115,32,115,116,114,105,110,103,63,32,34,100,34,47]⟩) (s:=eW5) (by decide) (by decide) (by decide) (by rw[rp_5];decide) (by rw[rp_5];exact zBp) w hE
theorem rp_6:Lib.replaceAll (ByteArray.data ⟨#[49,32,105,100,32,105,110,116,51,50,42,32,48,47,50,32,115,32,115,116,114,105,110,103,32,34,101,34,47]⟩).toList [47] [10]=[49,32,105,100,32,105,110,116,51,50,42,32,48,10,50,32,115,32,115,116,114,105,110,103,32,34,101,34,10]:=by kernel_rfl
theorem qWu (w:World) (hE:Env w):Calls Tryz.prog 31 #[.string ⟨#[49,32,105,100,32,105,110,116,51,50,42,32,48,47,50,32,115,32,115,116,114,105,110,103,32,34,101,34,47]⟩] w (qEg w eW6):=
  qCu (S:=⟨#[49,32,105,100,32,105,110,116,51,50,42,32,48,47,50,32,115,32,115,116,114,105,110,103,32,34,101,34,47]⟩) (s:=eW6) (by decide) (by decide) (by decide) (by rw[rp_6];decide) (by rw[rp_6];exact zB2) w hE
theorem rp_7:Lib.replaceAll (ByteArray.data ⟨#[50,32,115,32,115,116,114,105,110,103,42,32,34,34,47]⟩).toList [47] [10]=[50,32,115,32,115,116,114,105,110,103,42,32,34,34,10]:=by kernel_rfl
theorem qWi (w:World) (hE:Env w):Calls Tryz.prog 31 #[.string ⟨#[50,32,115,32,115,116,114,105,110,103,42,32,34,34,47]⟩] w (qEg w eW7):=
  qCu (S:=⟨#[50,32,115,32,115,116,114,105,110,103,42,32,34,34,47]⟩) (s:=eW7) (by decide) (by decide) (by decide) (by rw[rp_7];decide) (by rw[rp_7];exact zB6) w hE
theorem rp_8:Lib.replaceAll (ByteArray.data ⟨#[49,32,97,32,98,111,111,108,32,102,97,108,115,101,47,50,32,115,32,115,116,114,105,110,103,42,32,34,34,47]⟩).toList [47] [10]=[49,32,97,32,98,111,111,108,32,102,97,108,115,101,10,50,32,115,32,115,116,114,105,110,103,42,32,34,34,10]:=by kernel_rfl
theorem qWn (w:World) (hE:Env w):Calls Tryz.prog 31 #[.string ⟨#[49,32,97,32,98,111,111,108,32,102,97,108,115,101,47,50,32,115,32,115,116,114,105,110,103,42,32,34,34,47]⟩] w (qEg w eW8):=
  qCu (S:=⟨#[49,32,97,32,98,111,111,108,32,102,97,108,115,101,47,50,32,115,32,115,116,114,105,110,103,42,32,34,34,47]⟩) (s:=eW8) (by decide) (by decide) (by decide) (by rw[rp_8];decide) (by rw[rp_8];exact zCk) w hE
end Go.Proofs.YtikpmmipopmjaaaGreatDoor
namespace Go.Proofs.YtikpmmipopmjaaaGreatDoor
open Go.RowKit Go.Ms Go.Lib
theorem qQf (u v:Bool) (a b:Int) (S T:ByteArray) (w:World) :
    (Op.equalIn 10000 57 (.agg #[.bool u,.int .i64 a,.string S]) (.agg #[.bool v,.int .i64 b,.string T])).run Tryz.prog w=.ok (decide ((u,a,S)=(v,b,T))) w:=by
 have q1:S.toList=T.toList↔S=T:=by
  rw[Lib.toList_data,Lib.toList_data];exact⟨fun h=>by rw[qB8 (s:=S) rfl,qB8 (s:=T) rfl,h],fun h=>by rw[h]⟩
 by_cases h0:u=v <;> by_cases h1:a=b <;> by_cases h2:S=T
 all_goals
  simp[go_sem,Tryz.underlying57,q1,h0,h1,h2]
end Go.Proofs.YtikpmmipopmjaaaGreatDoor
namespace Go.Ms
open Go.RowKit Go.Lib
end Go.Ms
namespace Go.Proofs.YtikpmmipopmjaaaGreatDoor
open Go.RowKit Go.Ms Go.Lib
set_option maxRecDepth 100000 in
set_option maxHeartbeats 1000000 in
theorem qDq (w:World) (A B:Option Addr) (n cap m capm:Nat) (xs ys:List Cl) (hn':n≤maxLen) (hm':m≤maxLen) (hn:n=xs.length) (hm:m=ys.length) (hA:Lay w w.heap.size A (rowV xs)) (hB:Lay w w.heap.size B (rowV ys)) :
    Calls Tryz.prog 19 #[.slice A n cap,.slice B m capm] w fun e w'=>e=.returned (.bool (decide (xs=ys)))∧Below w.heap.size w w':=by
 unfold maxLen at hn' hm'
 by_cases hnm:n=m
 · subst hnm
   have HA:=Lib.hid hA;have HB:=Lib.hid hB;have HN:=Lib.hid hn;have HM:=Lib.hid hm
   clear hA hB hn hm
   go_enter Tryz.func19,Tryz.ntmps19
   go_wp2_with fail
   go_loopw [5] (fun id wr=> ∃k:Nat,k≤n∧id=.int .i64 k∧Below w.heap.size w wr∧xs.take k=ys.take k) (fun id _=>n-(RowKit.intOf id).toNat)
   case atStart=>exact⟨0,by omega,rfl,Below.refl _ _,rfl⟩
   case round=>
    obtain⟨k,hk,rfl,hb,hr⟩:=hrel;have HR:=Lib.hid hr;clear hr
    by_cases hlk:k<n
    · have hki:(k:Int)<n:=by omega
      obtain⟨c,hc⟩:∃c,xs[k]?=some c:=⟨_,List.getElem?_eq_getElem (by rw[←HN.out];omega)⟩;obtain⟨d,hd⟩:∃c,ys[k]?=some c:=⟨_,List.getElem?_eq_getElem (by rw[←HM.out];omega)⟩;obtain⟨g,o,rfl,hg,h1,h2,h3⟩:=HA.out.cl hc;obtain⟨g',o',rfl,hg',h4,h5,h6⟩:=HB.out.cl hd;have g1:=(hb.cell hg).trans h1;have g2:=(hb.cell hg).trans h2;have g3:=(hb.cell hg).trans h3;have g4:=(hb.cell hg').trans h4;have g5:=(hb.cell hg').trans h5;have g6:=(hb.cell hg').trans h6;clear h1 h2 h3 h4 h5 h6;have HB:=Lib.hid hb;clear hb
      have HC:=Lib.hid hc;have HD:=Lib.hid hd
      clear hc hd;obtain⟨u,nn,S⟩:=c;obtain⟨v,mm,T⟩:=d;simp only at g1 g2 g3 g4 g5 g6
      have he:=fun w=>qQf u v nn mm S T w
      have hst:xs.take (k+1)=ys.take (k+1)↔(u,nn,S)=(v,mm,T):=by
       rw[List.take_add_one,List.take_add_one,HC.out,HD.out,HR.out]
       simp
      have HST:=Lib.hid hst;clear hst
      by_cases hcd:(u,nn,S)=(v,mm,T)
      · rw[decide_eq_true hcd] at he;have HCD:=Lib.hid hcd;clear hcd
        go_wp2_with fail
        go_quiet (fail)
        go_wp2_with fail
        go_roundw
        case rel=>exact⟨k+1,by omega,by go_num,qAc HB.out _,HST.out.2 HCD.out⟩
        case measure=>simp[RowKit.intOf];omega
      · rw[decide_eq_false hcd] at he
        have hne:decide (xs=ys)=false:=by
         apply decide_eq_false
         intro e
         exact hcd (HST.out.1 (by rw[e]))
        have HNE:=Lib.hid hne;clear hcd hne
        go_wp2_with fail
        go_quiet (fail)
        go_wp2_with fail
        go_ret
        exact⟨by rw[HNE.out];rfl,qAc HB.out _⟩
    · have hki:¬(k:Int)<n:=by omega
      have hkn:k=n:=by omega
      have heq:decide (xs=ys)=true:=by
       apply decide_eq_true
       have:=HR.out;rw[hkn,List.take_of_length_le (by have:=HN.out;omega),List.take_of_length_le (by have:=HM.out;omega)] at this;exact this
      have HEQ:=Lib.hid heq;have HB:=Lib.hid hb;clear heq hkn hb
      go_wp2_with fail
      go_ret
      exact⟨by rw[HEQ.out];rfl,HB.out⟩
 · have hne:decide (xs=ys)=false:=by
     apply decide_eq_false
     intro e
     rw[e] at hn;omega
   have h1:((n:Int) != m)=true:=by simp;omega
   have h2:(n != m)=true:=by simpa using hnm
   rw[hne];clear hne hnm hA hB hn hm
   go_enter Tryz.func19,Tryz.ntmps19
   go_wp2_with fail
   go_ret
   exact⟨rfl,Below.refl _ _⟩
end Go.Proofs.YtikpmmipopmjaaaGreatDoor
set_option linter.unusedSimpArgs false
namespace Go.Rel
open Go Go.RowKit
section
variable {P:Program} {md:Region.Mode} {l:Array Oper} {a0:Act} {w0:World} {prs:Nat→Value→World→Prop} {o:Oper} {ka ks:Nat} {Eff:World→World→Prop}
def qPx (md:Region.Mode) (l:Array Oper) (ka ks:Nat):Bool:=(List.range l.size).all fun i=>i==ka||(match l[i]? with
 |none=>true
 |some o=>o.after.toList.all fun e=> !Region.binds md e||e.on != ks)
def looksAt (md:Region.Mode) (l:Array Oper) (ka ks:Nat):Bool:=match l[ka]? with
 |none=>false
 |some o=>o.guard.isNone&&o.after.toList.any fun e=>Region.binds md e&&e.on==ks
def qJw (md:Region.Mode) (l:Array Oper) (i ka:Nat):Bool:=match l[i]? with
 |none=>false
 |some o=>o.after.toList.any fun e=>Region.binds md e&&e.on==ka
structure InvO (md:Region.Mode) (l:Array Oper) (a0:Act) (w0:World) (prs:Nat→Value→World→Prop) (ka ks:Nat) (listed:Array Bool) (a:Act) (w:World):Prop where
  size:a.tmps.size=a0.tmps.size
  defers:a.defers=a0.defers
  base:∀t,(∀i,listed.getD i false=true→qAn l i≠some t)→a.tmps[t]?=a0.tmps[t]?
  claim:∀i d,i≠ks→listed.getD i false=true→qAn l i=some d→prs i (a.eval (.tmp d)) w
  own:∀d,listed.getD ks false=true→listed.getD ka false=false→qAn l ks=some d→prs ks (a.eval (.tmp d)) w
  clos:∀j x,listed.getD j false=true→l[j]?=some x→∀e∈x.after,Region.binds md e=true→listed.getD e.on false=true
  bel:Below w0.heap.size w0 w
theorem InvO.put {listed:Array Bool} {a:Act} {w w':World} {i:Nat} {v:Value} (hg:good md l a0.tmps.size=true) (hl:listed.size=l.size) (hi:l[i]?=some o) (h:InvO md l a0 w0 prs ka ks listed a w)
    (hb:Below w0.heap.size w0 w') (hde:∀e∈o.after,Region.binds md e=true→listed.getD e.on false=true) (hcl:∀j v,j≠ks→j≠i→listed.getD j false=true→prs j v w→prs j v w') (hown:∀v,ka≠i→listed.getD ka false=false→prs ks v w→prs ks v w') (hp:prs i v w'):InvO md l a0 w0 prs ka ks (listed.setIfInBounds i true) (a.put o.dst v) w':=by
 obtain⟨d,hd,hdl,hdis,_⟩:=qD9 hg hi
 have hil:i<listed.size:=by rw[hl];exact(Array.getElem?_eq_some_iff.1 hi).1
 have hdi:qAn l i=some d:=by unfold qAn;rw[hi];exact hd
 have hother:∀j e,j≠i→qAn l j=some e→(a.put o.dst v).eval (.tmp e)=a.eval (.tmp e):=fun j e hji he=>by
  rw[hd];exact qCx (fun x=>hdis j hji (by rw[he,x]))
 have hsame:(a.put o.dst v).eval (.tmp d)=v:=by rw[hd];exact eval_put_same (by rw[h.size];exact hdl)
 refine⟨by rw[hd];simp[Act.put,h.size],by rw[hd];exact h.defers,fun t ht=>?_,fun j e hjs hj he=>?_,fun e hk hna he=>?_,fun j x hj hx e he hbe=>?_,hb⟩
 · have h1:d≠t:=fun e=>ht i ((qBn hil).2 (.inl rfl)) (by rw[hdi,e])
   rw[←h.base t fun j hj=>ht j ((qBn hil).2 (.inr hj)),hd]
   simp[Act.put,Array.getElem?_setIfInBounds_ne h1]
 · by_cases hji:j=i
   · subst hji;rw[hdi] at he
     cases he
     rw[hsame];exact hp
   · rw[hother j e hji he];have hlj:=((qBn hil).1 hj).resolve_left hji;exact hcl j _ hjs hji hlj (h.claim j e hjs hlj he)
 · by_cases hki:ks=i
   · subst hki;rw[hdi] at he
     cases he
     rw[hsame];exact hp
   · have hlk:=((qBn hil).1 hk).resolve_left hki
     have hkai:ka≠i:=fun e=>by
      subst e;have:=(qBn (listed:=listed) (i:=ka) (j:=ka) hil).2 (.inl rfl);rw[this] at hna
      cases hna
     have hna2:listed.getD ka false=false:=by
      cases hq:listed.getD ka false with
      |false=>rfl
      |true=>rw[(qBn hil).2 (.inr hq)] at hna;cases hna
     rw[hother ks e hki he];exact hown _ hkai hna2 (h.own e hlk hna2 he)
 · refine(qBn hil).2 (.inr ?_)
   by_cases hji:j=i
   · subst hji;rw[hi] at hx
     cases hx
     exact hde e he hbe
   · exact h.clos j x (((qBn hil).1 hj).resolve_left hji) hx e he hbe
theorem qPz (hg:good md l a0.tmps.size=true) (hgi:qEw l=true) (hw:qGs md l.size o=true) (hno:o.guard=none) (h1o:qPx md l ka ks=true) (hlk:looksAt md l ka ks=true)
    (hp:∀k x,k≠ka→l[k]?=some x→Prem P md l a0 w0 prs k x) (hE:∀i v w w',i≠ks→i≠ka→qJw md l i ka=false→prs i v w→Eff w w'→prs i v w') (hS:∀v w w',prs ka v w→Below w.heap.size w w'→prs ka v w')
    (hka:∀x,l[ka]?=some x→∀(ev:Operand→Value) (w:World),At md l a0 w0 prs x ev w→qCq P (fun v w'=>Eff w w'∧Below w0.heap.size w0 w'∧prs ka v w') ((execOp ev x).run P w)) {Q:Exit→Act→World→Prop}
    (hQ:∀(listed:Array Bool) a w,(∀i,i<l.size→listed.getD i false=true)→InvO md l a0 w0 prs ka ks listed a w→o.wp P a w (fun a w=>Q .normal a w) Q) :
    ∀(fuel:Nat) (listed:Array Bool) (a:Act) (w:World),listed.size=l.size→left listed=fuel→InvO md l a0 w0 prs ka ks listed a w→wpAny P md (l.push o) Q (fuel+1) (listed.push false) a w:=by
 unfold qGs at hw;simp only[Bool.and_eq_true] at hw
 have hon:∀e∈o.after,Region.binds md e=true→e.on<l.size:=fun e he hb=>by
  have:=List.all_eq_true.1 hw.2 e (Array.mem_toList_iff.2 he)
  simpa[hb] using this
 have hwa:∀k,k<l.size→∃e∈o.after,Region.binds md e=true∧e.on=k:=fun k hk=>by
  have:=List.all_eq_true.1 hw.1 k (List.mem_range.2 hk);obtain⟨e,he,h2⟩:=List.any_eq_true.1 this;simp only[Bool.and_eq_true,beq_iff_eq] at h2;exact⟨e,Array.mem_toList_iff.1 he,h2⟩
 have hnk:∀i x,i≠ka→l[i]?=some x→∀e∈x.after,Region.binds md e=true→e.on≠ks:=fun i x hi hx e he hb h=>by
  unfold qPx at h1o;have:=List.all_eq_true.1 h1o i (List.mem_range.2 (Array.getElem?_eq_some_iff.1 hx).1);rw[hx] at this;simp only[Bool.or_eq_true,beq_iff_eq] at this;have:=List.all_eq_true.1 (this.resolve_left hi) e (Array.mem_toList_iff.2 he)
  simp[hb,h] at this
 have hSt:∀k x,l[k]?=some x→∀v w w',prs k v w→Below w.heap.size w w'→prs k v w':=fun k x hx=>by
  by_cases e:k=ka
  · subst e;exact hS
  · exact(hp k x e hx).1
 intro fuel
 induction fuel with
 | zero=>
  intro listed a w hl h0 hI
  have hall:∀i,i<l.size→listed.getD i false=true:=by
   intro i hi
   have hil:i<listed.size:=by omega
   unfold left at h0;have:=List.countP_eq_zero.1 h0 (listed[i]) (Array.mem_toList_iff.2 (Array.getElem_mem hil))
   simp[hil]
   simpa using this
  have hn:(l.push o)[l.size]?=some o:=by simp
  have hend:∀j,j≤l.size→((listed.push false).setIfInBounds l.size true).getD j false=true:=by
   intro j hj
   rw[qBn (by simp;omega)]
   by_cases hjn:j=l.size
   · exact .inl hjn
   · exact .inr (by rw[qBv (by omega)];exact hall j (by omega))
  refine⟨fun hr=>?_,fun i hi=>?_⟩
  · exfalso
    have:l.size∈Region.ready md (l.push o) (listed.push false):=by
     rw[mem_ready];refine⟨by rw[←hl];simp,o,hn,fun e he hb=>?_⟩;have h2:=hon e he hb;rw[qBv (by omega)];exact hall _ h2
    rw[hr] at this
    cases this
  · obtain⟨hu,x,hx,hdep⟩:=mem_ready.1 hi
    have hin:i=l.size:=by
     have h1:=(Array.getElem?_eq_some_iff.1 hx).1;rw[Array.size_push] at h1
     by_cases h2:i<l.size
     · exfalso
       have h3:=hall i h2;rw[qBv (by omega)] at hu
       have hil:i<listed.size:=by omega
       simp[hil] at hu h3
       rw[h3] at hu
       cases hu
     · omega
    subst hin;unfold wpOp;rw[hn]
    simp only
    rw[if_pos (by unfold Region.wanted;rw[hno])];refine .inl (Oper.wp_mono (fun a w h=>⟨?_,h⟩) (hQ listed a w hall hI))
    apply List.eq_nil_iff_forall_not_mem.2
    intro j hj
    obtain⟨h1,y,hy,_⟩:=mem_ready.1 hj;have hjl:=(Array.getElem?_eq_some_iff.1 hy).1;rw[Array.size_push] at hjl;have h2:=hend j (by omega)
    have hjs:j<((listed.push false).setIfInBounds l.size true).size:=by simp;omega
    simp only[Array.getD_eq_getD_getElem?,Array.getElem?_eq_getElem hjs,Option.getD_some] at h1 h2;rw[h1] at h2
    cases h2
 | succ fuel ih=>
  intro listed a w hl h0 hI
  obtain⟨u,hul,huf⟩:∃i,i<l.size∧listed.getD i false=false:=by
   unfold left at h0
   have hpos:0<listed.toList.countP (· ==false):=by omega
   obtain⟨b,hb,hbf⟩:=List.countP_pos_iff.1 hpos;obtain⟨i,hi,hib⟩:=List.getElem_of_mem hb
   have hil:i<listed.size:=by simpa using hi
   refine⟨i,by omega,?_⟩
   have:listed[i]=b:=by simpa using hib
   simp[hil,this]
   simpa using hbf
  refine⟨fun hr=>?_,fun i hi=>?_⟩
  · exfalso
    have h1:=qGr hg hl hul huf;obtain⟨j,hj⟩:=List.exists_mem_of_ne_nil _ h1;obtain⟨h2,x,hx,hd⟩:=mem_ready.1 hj;have hjl:=(Array.getElem?_eq_some_iff.1 hx).1
    have:j∈Region.ready md (l.push o) (listed.push false):=by
     rw[mem_ready];refine⟨by rw[qBv (by omega)];exact h2,x,by rw[Array.getElem?_push_lt hjl];rw[Array.getElem?_eq_getElem hjl] at hx;exact hx,fun e he hb=>?_⟩;obtain⟨_,_,_,_,hlt⟩:=qD9 hg hx;have:=hlt e he hb;rw[qBv (by omega)];exact hd e he hb
    rw[hr] at this
    cases this
  · obtain ⟨hu,x,hx,hdep⟩:=mem_ready.1 hi;have hxs:=(Array.getElem?_eq_some_iff.1 hx).1;rw[Array.size_push] at hxs
    have hil:i<l.size:=by
     by_cases h2:i<l.size
     · exact h2
     · exfalso
       have hin:i=l.size:=by omega
       subst hin
       have hxo:x=o:=by
        have:(l.push o)[l.size]?=some o:=by simp
        rw[this] at hx;exact(Option.some.inj hx).symm
       subst hxo;obtain⟨e,he,hb,hek⟩:=hwa u hul;have h3:=hdep e he hb;rw[hek,qBv (by omega),huf] at h3
       cases h3
    have hx':l[i]?=some x:=by rw[Array.getElem?_push_lt hil] at hx;rw[Array.getElem?_eq_getElem hil];exact hx
    have hils:i<listed.size:=by omega
    have hu':listed.getD i true=false:=by rw[qBv hils] at hu;exact hu
    have hdl:∀e∈x.after,Region.binds md e=true→listed.getD e.on false=true:=fun e he hb=>by
     obtain⟨_,_,_,_,hlt⟩:=qD9 hg hx';have h4:=hdep e he hb;rw[qBv (by have:=hlt e he hb;omega)] at h4;exact h4
    have hbase:∀t,qQe l t=false→a.eval (.tmp t)=a0.eval (.tmp t):=fun t ht=>by
     have:=hI.base t fun j _ hd=>by rw[qG0 hd] at ht;cases ht
     simp[Act.eval,this]
    unfold wpOp;rw[hx]
    simp only
    rw[qKe hgi hx']
    by_cases hia:i=ka
    · subst hia;unfold looksAt at hlk;rw[hx'] at hlk;simp only[Bool.and_eq_true] at hlk;obtain⟨hgn,hlo⟩:=hlk
      have hgn2:x.guard=none:=by simpa using hgn
      obtain⟨e0,he0,he1⟩:=List.any_eq_true.1 hlo;simp only[Bool.and_eq_true,beq_iff_eq] at he1
      have hks:listed.getD ks false=true:=by rw[←he1.2];exact hdl e0 (Array.mem_toList_iff.1 he0) he1.1
      have hna:listed.getD i false=false:=by
       simp[hils] at hu' ⊢
       exact hu'
      have hnw:∀j,listed.getD j false=true→qJw md l j i=false:=fun j hlj=>by
       unfold qJw
       cases hq:l[j]? with
       |none=>rfl
       |some y=>
        simp only
        rw[List.any_eq_false]
        intro e he hbe
        simp only[Bool.and_eq_true,beq_iff_eq] at hbe;have:=hI.clos j y hlj hq e (Array.mem_toList_iff.1 he) hbe.1;rw[hbe.2,hna] at this
        cases this
      have hwt:qAv l a.eval x=true:=by unfold qAv Region.wanted;rw[hgn2]
      rw[if_pos hwt]
      have hAt:At md l a0 w0 prs x a.eval w:=⟨hI.bel,hbase,fun _=>rfl,fun _=>rfl,fun _=>rfl,fun k e hk hb d hd=>by
       have hel:=hdl e (Array.mem_of_getElem? hk) hb
       by_cases hes:e.on=ks
       · rw[hes] at hd ⊢;exact hI.own d hks hna hd
       · exact hI.claim e.on d hes hel hd⟩
      refine .inl (qD3 (qCm (fun v w' h=>?_) (hka x hx' a.eval w hAt)));rw[qNd hils];refine ih _ _ _ (by simpa using hl) (by have:=qG2 hils hu';omega) (hI.put hg hl hx' h.2.1 hdl (fun j v hjs hji hlj hj=>hE j v _ _ hjs hji (hnw j hlj) hj h.1) (fun v hne _ _=>absurd rfl hne) h.2.2)
    · have hprem:=(hp i x hia hx').2 a.eval w hI.bel (fun t ht=>hbase t ht) (fun _=>rfl) (fun _=>rfl) (fun _=>rfl) (fun k e hk hb d hd=>hI.claim e.on d (hnk i x hia hx' e (Array.mem_of_getElem? hk) hb) (hdl e (Array.mem_of_getElem? hk) hb) hd)
      have hstep:∀v w',Below w.heap.size w w'→prs i v w'→wpAny P md (l.push o) Q (fuel+1) ((listed.push false).setIfInBounds i true) (a.put x.dst v) w':=fun v w' hb hv=>by
       rw[qNd hils];refine ih _ _ _ (by simpa using hl) (by have:=qG2 hils hu';omega) (hI.put hg hl hx' (hI.bel.trans (hb.mono hI.bel.size)) hdl (fun j v hjs hji hlj hj=>?_) (fun v _ _ hv=>?_) hv)
       · have hjl:j<l.size:=by
           by_cases h:j<l.size
           · exact h
           · have:¬j<listed.size:=by omega
             simp[this] at hlj
         exact hSt j _ (Array.getElem?_eq_getElem hjl) _ _ _ hj hb
       · have hkl:ks<l.size∨¬ks<l.size:=Nat.lt_or_ge _ _ |>.imp id Nat.not_lt.2
         rcases hkl with hkl|hkl
         · exact hSt ks _ (Array.getElem?_eq_getElem hkl) _ _ _ hv hb
         · exfalso
           unfold looksAt at hlk
           cases hq:l[ka]? with
           |none=>rw[hq] at hlk;cases hlk
           |some y=>
            rw[hq] at hlk;simp only[Bool.and_eq_true] at hlk;obtain⟨e0,he0,he1⟩:=List.any_eq_true.1 hlk.2;simp only[Bool.and_eq_true,beq_iff_eq] at he1;obtain⟨_,_,_,_,hlt⟩:=qD9 hg hq;have h5:=hlt e0 (Array.mem_toList_iff.1 he0) he1.1;have h6:=(Array.getElem?_eq_some_iff.1 hq).1;rw[he1.2] at h5;omega
      split
      · rename_i hw'
        rw[if_pos hw'] at hprem;exact .inl (qD3 (qCm (fun v w' h=>hstep v w' h.1 h.2) hprem))
      · rename_i hw'
        rw[if_neg hw'] at hprem;exact hstep _ _ (Below.refl _ _) hprem
end
def qVj (P:Program) (md:Region.Mode) (ops:Array Oper) (a0:Act) (w0:World) (prs:Nat→Value→World→Prop) (ka:Nat):Nat→List Oper→Prop
  |_,[]=>True
  |i,o::rest=>(i≠ka→Prem P md ops a0 w0 prs i o)∧qVj P md ops a0 w0 prs ka (i+1) rest
theorem qOv {P:Program} {md:Region.Mode} {ops:Array Oper} {a0:Act} {w0:World} {prs:Nat→Value→World→Prop} {ka:Nat}:∀(l:List Oper) (i:Nat),qVj P md ops a0 w0 prs ka i l→∀k o,l[k]?=some o→i+k≠ka→Prem P md ops a0 w0 prs (i+k) o
  |[],_,_,k,o,h,_=>by simp at h
  |o::r,i,h,0,o',h',hne=>by
   have h':o=o':=by simpa using h'
   subst h';exact h.1 hne
  |o::r,i,h,k+1,o',h',hne=>by
   have h3:=qOv r (i+1) h.2 k o' (by simpa using h') (by omega)
   have e:i+1+k=i+(k+1):=by omega
   rw[e] at h3;exact h3
def StabE (Eff:World→World→Prop) (p:Value→World→Prop):Prop:= ∀v w w',p v w→Eff w w'→p v w'
def qZv (md:Region.Mode) (ops:Array Oper) (Eff:World→World→Prop) (ka ks:Nat):Nat→List (Value→World→Prop)→Prop
  |_,[]=>True
  |i,p::r=>(i=ks∨i=ka∨qJw md ops i ka=true∨StabE Eff p)∧qZv md ops Eff ka ks (i+1) r
theorem qRx {md:Region.Mode} {ops:Array Oper} {Eff:World→World→Prop} {ka ks:Nat}:∀(l:List (Value→World→Prop)) (i:Nat),qZv md ops Eff ka ks i l→∀k,i+k≠ks→i+k≠ka→qJw md ops (i+k) ka=false→StabE Eff (sel l k)
  |[],_,_,k,_,_,_=>fun _ _ _ _ _=>trivial
  |p::r,i,h,0,hne,hna,hw=>by
   rcases h.1 with e|e|e|e
   · exact absurd e hne
   · exact absurd e hna
   · rw[show i+0=i from rfl] at hw;rw[hw] at e;cases e
   · exact e
  |p::r,i,h,k+1,hne,hna,hw=>qRx r (i+1) h.2 k (by omega) (by omega) (by rw[show i+1+k=i+(k+1) by omega];exact hw)
theorem qHr {Eff:World→World→Prop} (X:Value):StabE Eff (isV X):=fun _ _ _ h _=>h
theorem qNm {P:Program} {id:Nat} {Q:Exit→Act→World→Prop} {l:List Oper} {o:Oper} (ps ps':List (Value→World→Prop)) (ka ks:Nat) (Eff:World→World→Prop) {a0:Act} {w0:World} (hm:P.follows .mixedOrders=true) (hg:good .any l.toArray a0.tmps.size=true)
    (hgi:qEw l.toArray=true) (hw:qGs .any l.toArray.size o=true) (h1o:qPx .any l.toArray ka ks=true) (hlk:looksAt .any l.toArray ka ks=true) (hno:o.guard=none) (hps:ps.set ks (fun _ _=>True)=ps')
    (hE:qZv .any l.toArray Eff ka ks 0 ps) (hS:Stable (sel ps ka)) (hka:∀x,l[ka]?=some x→∀(ev:Operand→Value) (w:World),At .any l.toArray a0 w0 (sel ps) x ev w→qCq P (fun v w'=>Eff w w'∧Below w0.heap.size w0 w'∧sel ps ka v w') ((execOp ev x).run P w))
    (hp:qVj P .any l.toArray a0 w0 (sel ps) ka 0 l) (hend:∀w,Below w0.heap.size w0 w→qAq (sel ps') w (fun a=>o.wp P a w (fun a w=>Q .normal a w) Q) 0 l a0):(Code.region id (l.toArray.push o) true).wp P Q a0 w0:=by
 subst hps;refine wp_region_any hm ?_
 have hpa:∀k o,k≠ka→l.toArray[k]?=some o→Prem P .any l.toArray a0 w0 (sel ps) k o:=fun k o hne h=>by
  have:=qOv l 0 hp k o (by simpa using h) (by omega)
  rwa [Nat.zero_add] at this
 have hrep:Array.replicate (l.toArray.push o).size false=(Array.replicate l.toArray.size false).push false:=by
  rw[Array.size_push];exact Array.replicate_succ
 have hfuel:(l.toArray.push o).size=l.toArray.size+1:=Array.size_push _
 have hfa:∀i,(Array.replicate l.toArray.size false).getD i false=false:=fun i=>by
  by_cases h:i<l.length
  · simp[h]
  · simp[h]
 have hset:∀(k:Nat) (v:Value) (w:World),(k≠ks→sel ps k v w)→sel (ps.set ks (fun _ _=>True)) k v w:=by
  have gen:∀(ps:List (Value→World→Prop)) (ks k:Nat) (v:Value) (w:World),(k≠ks→sel ps k v w)→sel (ps.set ks (fun _ _=>True)) k v w:=by
   intro ps
   induction ps with
   |nil=>intro ks k v w h;exact trivial
   | cons p r ih=>
    intro ks k v w h
    cases ks with
    |zero=>
     cases k with
     |zero=>exact trivial
     |succ k=>exact h (by omega)
    |succ ks=>
     cases k with
     |zero=>exact h (by omega)
     |succ k=>exact ih ks k v w (fun hne=>h (by omega))
  exact gen ps ks
 rw[hrep,hfuel]
 refine qPz (ka:=ka) (ks:=ks) (Eff:=Eff) hg hgi hw hno h1o hlk hpa (fun i v w w' hi hi2 hi3 hv he=>by
  have:=qRx ps 0 hE i (by omega) (by omega) (by rw[Nat.zero_add];exact hi3)
  exact this v w w' hv he) hS (fun x hx=>hka x (by simpa using hx)) (fun listed a w hall hI=>?_) _ _ _ _ (by simp) ?_ ⟨rfl,rfl,fun _ _=>rfl,fun i d _ hi=>(by rw[hfa] at hi;cases hi),fun d hi=>(by rw[hfa] at hi;cases hi),fun j x hj=>(by rw[hfa] at hj;cases hj),⟨rfl,rfl,rfl,Nat.le_refl _,fun _ _=>rfl⟩⟩
 · have h := qC2 (fun i=>match qAn l.toArray i with|some d=>a.eval (.tmp d)|none=>undef) l 0 a0 (hend w hI.bel) (fun k hk=>?_)
   · have he :qIe (fun i=>match qAn l.toArray i with|some d=>a.eval (.tmp d)|none=>undef) 0 l a0=a:=by
       obtain⟨h1,h2⟩:=qDp (fun i=>match qAn l.toArray i with|some d=>a.eval (.tmp d)|none=>undef) l 0 a0;refine qId ?_ (h2.trans hI.defers.symm)
       apply Array.ext_getElem?
       intro t
       by_cases ht:t<a0.tmps.size
       · refine qEr _ t _ l 0 a0 ht (fun k o hk hd=>?_) ?_
         · have hdk:qAn l.toArray (0+k)=some t:=by unfold qAn;rw[Nat.zero_add];simp[hk,hd]
           rw[hdk]
           have hta:t<a.tmps.size:=by rw[hI.size];exact ht
           simp[Act.eval,hta]
         · by_cases hex:∃(k:Nat) (o:Oper),l[k]?=some o∧o.dst=some t
           · exact .inr hex
           · left
             refine(hI.base t fun j _ hd=>hex ?_).symm;unfold qAn at hd
             cases hoj:l.toArray[j]? with
             |none=>simp[hoj] at hd
             |some oj=>exact⟨j,oj,by simpa using hoj,by simpa[hoj] using hd⟩
       · rw[Array.getElem?_eq_none (by rw[h1];omega),Array.getElem?_eq_none (by rw[hI.size];omega)]
     rw[he] at h;exact h
   · rw[Nat.zero_add]
     refine hset k _ _ fun hne=>?_
     obtain⟨o,ho⟩:∃o,l.toArray[k]?=some o:=⟨_,Array.getElem?_eq_getElem (by simpa using hk)⟩;obtain⟨d,hd,_⟩:=qD9 hg ho
     have hdk:qAn l.toArray k=some d:=by unfold qAn;rw[ho];exact hd
     have:=hI.claim k d hne (hall k (by simpa using hk)) hdk;simp only[hdk];exact this
 · unfold left;rw[Array.toList_replicate,List.countP_replicate]
   simp
end Go.Rel
