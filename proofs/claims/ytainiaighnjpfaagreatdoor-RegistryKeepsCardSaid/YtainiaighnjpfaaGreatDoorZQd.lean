/- Words for memory of one's own: all blocks but one stand; a struct of three fields behind a pointer. Small facts for the walks. Cells: values, and what the functions of a kind do (those without strconv). Cells: reading bools; quoting. strings.Builder's writing methods at this dump (whose copyCheck lacks its panic's statement): after the shelf's own proofs of BuilderK and BuilderRune. -/
import Derived.Below
import Derived.Lib.OthersKept
import Derived.Deep.Draws
import Derived.Test.YtainiaighnjpfaaGreatDoorRows
import Derived.Test.YtainiaighnjpfaaGreatDoorShelfY
import Derived.Test.YtainiaighnjpfaaGreatDoorZQa
import Derived.WalkKit
import Derived.WalkSpells
import Derived.WalkLawsBesides
import Derived.Handy
import Derived.Outline
import Derived.Laws.BytesArg
import Derived.Lib.Hide
import Derived.Deep.QuietTactic
import Derived.BigQuiet
import Derived.Test.YtainiaighnjpfaaGreatDoorZQc
import Derived.Deep.RegionLaw
import Derived.Shelf.Strings.BuilderK
import Derived.Shelf.Utf8.AppendRune
set_option linter.unusedVariables false
namespace Go.Ms
open Go.RowKit Go.Lib
structure Kept (R:Nat) (w w':World):Prop where
  os:w'.os=w.os
  tape:w'.tape=w.tape
  output:w'.output=w.output
  size:w.heap.size≤w'.heap.size
  block:∀k,k<w.heap.size→k≠R→w'.heap[k]?=w.heap[k]?
namespace Kept
variable {R B:Nat} {a w w':World}
theorem refl (R:Nat) (w:World):Kept R w w:=⟨rfl,rfl,rfl,Nat.le_refl _,fun _ _ _=>rfl⟩
theorem trans (h:Kept R a w) (k:Kept R w w'):Kept R a w':=
  ⟨k.os.trans h.os,k.tape.trans h.tape,k.output.trans h.output,Nat.le_trans h.size k.size,fun i hi hr=>(k.block i (Nat.lt_of_lt_of_le hi h.size) hr).trans (h.block i hi hr)⟩
theorem of_below (h:Below w.heap.size w w'):Kept R w w':=⟨h.os,h.tape,h.output,h.size,fun k hk _=>h.block k hk⟩
theorem drewN (h:Kept R a w) (n:Nat):Kept R a (w.drewN n):=⟨h.os,h.tape,h.output,h.size,h.block⟩
theorem drew (h:Kept R a w):Kept R a w.drew:=⟨h.os,h.tape,h.output,h.size,h.block⟩
theorem alloc (h:Kept R a w) (o:Obj):Kept R a (w.alloc o):=
  h.trans (of_below ((Below.refl _ w).alloc (Nat.le_refl _) o))
theorem setCell (h:Kept R a w) {p:Addr} (hp:p.block=R) (u:Value):Kept R a (w.setCell p u):=
  h.trans ⟨rfl,rfl,rfl,by simp[World.setCell],fun k _ hk=>Below.heap_setCell _ _ _ _ (by omega)⟩
theorem below (h:Kept R w w') (hR:B≤R) (hB:B≤w.heap.size):Below B w w':=⟨h.os,h.tape,h.output,h.size,fun k hk=>h.block k (by omega) (by omega)⟩
end Kept
theorem qAc {B:Nat} {a w:World} (h:Below B a w) (n:Nat):Below B a (w.drewN n):=⟨h.os,h.tape,h.output,h.size,h.block⟩
def Tri (T b:Nat) (x y z:Value) (w:World):Prop:=w.heap[b]?=some (.cells #[x,y,z] T (0,0))
namespace Tri
variable {T b R B:Nat} {x y z u:Value} {w w':World}
theorem lt (h:Tri T b x y z w):b<w.heap.size:=by
 rcases Nat.lt_or_ge b w.heap.size with hl|hg
 · exact hl
 · unfold Tri at h;rw[Array.getElem?_eq_none hg] at h;cases h
theorem c0 (h:Tri T b x y z w):w.cell? ⟨b,0,none⟩=some x:=by rw[Lib.cell_of_heap h];rfl
theorem c1 (h:Tri T b x y z w):w.cell? ⟨b,1,none⟩=some y:=by rw[Lib.cell_of_heap h];rfl
theorem c2 (h:Tri T b x y z w):w.cell? ⟨b,2,none⟩=some z:=by rw[Lib.cell_of_heap h];rfl
theorem fr (h:Tri T b x y z w) (i:Nat):w.frozen? ⟨b,i,none⟩=false:=Lib.frozen_of_heap h i
theorem set1 (h:Tri T b x y z w) (u:Value):Tri T b x u z (w.setCell ⟨b,1,none⟩ u):=by
 unfold Tri at *; simp[World.setCell,Array.getElem?_modify,h]
theorem set2 (h:Tri T b x y z w) (u:Value):Tri T b x y u (w.setCell ⟨b,2,none⟩ u):=by
 unfold Tri at *; simp[World.setCell,Array.getElem?_modify,h]
theorem drew (h:Tri T b x y z w):Tri T b x y z w.drew:=h
theorem drewN (h:Tri T b x y z w) (n:Nat):Tri T b x y z (w.drewN n):=h
theorem alloc (h:Tri T b x y z w) (o:Obj):Tri T b x y z (w.alloc o):=(Below.heap_alloc w o b h.lt).trans h
theorem below (h:Tri T b x y z w) (hb:Below B w w') (hB:b<B):Tri T b x y z w':=(hb.block b hB).trans h
theorem kept (h:Tri T b x y z w) (hb:Kept R w w') (hB:b≠R):Tri T b x y z w':=(hb.block b h.lt hB).trans h
theorem others {e:TypeId} {b':Nat} (h:Tri T b x y z w) (hb:OthersKept e (some b') w w') (hB:b≠b') (hT:T≠e):Tri T b x y z w':=
  hb b _ h (by intro e1;exact hB (Option.some.inj e1)) (by intro c fz e1;injection e1 with _ e2;exact hT e2)
end Tri
structure RdP (T b:Nat) (s:ByteArray) (p:Nat) (e:Int) (v:Value) (w:World) (en:Ending) (w':World):Prop where
  ret:en=.returned v
  tri:Tri T b (.string s) (.int .i64 p) (.int .i64 e) w'
  kept:Kept b w w'
theorem qJj {T e:TypeId} {B b:Nat} {bs:List Value} {w w':World} (h:IsBuilderF T e B b bs w) (hk:∀(k:Nat) (c:Array Value) (t:TypeId) (fz:Nat×Nat),w.heap[k]?=some (Obj.cells c t fz)→(t=T∨t=e)→w'.heap[k]?=w.heap[k]?) :
    IsBuilderF T e B b bs w':=by
 have one:∀p,BuilderAtF T e B b p bs w→BuilderAtF T e B b p bs w':=by
  intro p ⟨hB,v,hb,hown,hne⟩
  refine⟨hB,v,(hk b _ _ _ hb (.inl rfl)).trans hb,⟨hown.1,?_⟩,hne⟩
  rcases hown.2 with hn|⟨g,cap,cur,fz,hv,hbg,hg,rest⟩
  · exact .inl hn
  · exact .inr ⟨g,cap,cur,fz,hv,hbg,(hk g _ _ _ hg (.inr rfl)).trans hg,rest⟩
 exact h.elim (fun x=>.inl (one _ x)) (fun x=>.inr (one _ x))
theorem qJi {T e:TypeId} {B b R:Nat} {bs:List Value} {w w':World} (h:IsBuilderF T e B b bs w) (hk:Kept R w w') {T':Nat} {x y z:Value} (hR:Tri T' R x y z w) (h1:T'≠T) (h2:T'≠e):IsBuilderF T e B b bs w':=by
 refine qJj h (fun k c t fz hc ht=>?_);have hlt:k<w.heap.size:=(Array.getElem?_eq_some_iff.1 hc).1;refine hk.block k hlt (fun e1=>?_);subst e1;unfold Tri at hR;rw[hc] at hR
 injection hR with hR
 injection hR with _ e2
 rcases ht with rfl|rfl
 · exact h1 e2.symm
 · exact h2 e2.symm
theorem qO2 {T e:TypeId} {B b:Nat} {bs:List Value} {w w':World} (h:IsBuilderF T e B b bs w) (hk:Below w.heap.size w w'):IsBuilderF T e B b bs w':=
  qJj h (fun k _ _ _ hc _=>hk.block k (Array.getElem?_eq_some_iff.1 hc).1)
end Go.Ms
namespace Go.Proofs.YtainiaighnjpfaaGreatDoor
open Go.RowKit Go.Ms Go.Lib
theorem qGq (s:ByteArray) (k:Nat) (h:k<s.size):s[k]'h=s.data.toList.getD k 0:=by
 cases s with
 |mk d=>
  have:k<d.size:=h
  simp[List.getD_eq_getElem?_getD,this]
  rfl
theorem ext_list (s:ByteArray) (a b:Nat):(s.extract a b).data.toList=(s.data.toList.take b).drop a:=by
 rw[Lib.extract_data,List.drop_take]
def Tabs (w:World):Prop:=Lib.Utf8Tabs 1 2 w
theorem qI0 {w:World} (h:Tabs w) (n:Nat):Tabs (w.drewN n):=h
theorem qCm {w w':World} (h:Tabs w) (hb:Below w.heap.size w w'):Tabs w':=Utf8Tabs_below h hb
theorem qBt {s:ByteArray} {l:Bs} (h:s.data.toList=l):s=⟨l.toArray⟩:=by
 subst h;cases s;simp
end Go.Proofs.YtainiaighnjpfaaGreatDoor
namespace Go.Ms
open Go.Lib
end Go.Ms
namespace Go.Proofs.YtainiaighnjpfaaGreatDoor
open Go.RowKit Go.Ms Go.Lib
theorem qAx {w:World} {p:Addr} {v:Value} (h:w.cell? p=some v):p.block<w.heap.size:=by
 unfold World.cell? at h
 rcases Nat.lt_or_ge p.block w.heap.size with h1|h1
 · exact h1
 · simp[Array.getElem?_eq_none h1] at h
theorem qJr (l:Bs):(⟨l.toArray⟩:ByteArray).size=l.length:=List.size_toArray
theorem qMg (l:Bs):(⟨l.toArray⟩:ByteArray).toList=l:=by rw[Lib.toList_data]
theorem qGa (a b:Nat) (lo hi n:Int) (nu:Bool) (s:Bs) (w:World) (ha:w.cell? ⟨a,0,none⟩=some (.int .i64 lo)) (hb:w.cell? ⟨b,0,none⟩=some (.int .i64 hi)) :
    Calls Tryz.prog 145 #[.agg #[.bool nu,.int .i64 n,.string ⟨s.toArray⟩],.pointer (some ⟨a,0,none⟩),.pointer (some ⟨b,0,none⟩)] w fun e w'=>e=.returned (.bool (decide (s=[])&&decide (lo≤n)&&decide (n≤hi)))∧Below w.heap.size w w':=by
 have hla:=qAx ha;have hlb:=qAx hb
 cases s with
 |cons x r=>
  have e1:(⟨(x::r).toArray⟩:ByteArray).toList.isEmpty=false:=by rw[qMg];rfl
  have e2:¬(⟨(x::r).toArray⟩:ByteArray).toList=[]:=by rw[qMg];simp
  have hd:(decide (x::r=[])&&decide (lo≤n)&&decide (n≤hi))=false:=by simp
  rw[hd];clear hd
  generalize (⟨(x::r).toArray⟩:ByteArray)=S at *
  go_enter Tryz.func145,Tryz.ntmps145
  go_wp2
  go_ret
  exact⟨rfl,(Below.refl _ _).alloc (Nat.le_refl _) _⟩
 |nil=>
  by_cases h1:lo≤n
  · by_cases h2:n≤hi
    · have hd:(decide (([]:Bs)=[])&&decide (lo≤n)&&decide (n≤hi))=true:=by simp[h1,h2]
      rw[hd];clear hd
      go_enter Tryz.func145,Tryz.ntmps145
      go_wp2
      go_ret
      exact⟨rfl,(Below.refl _ _).alloc (Nat.le_refl _) _⟩
    · have hd:(decide (([]:Bs)=[])&&decide (lo≤n)&&decide (n≤hi))=false:=by simp[h2]
      rw[hd];clear hd
      go_enter Tryz.func145,Tryz.ntmps145
      go_wp2
      go_ret
      exact⟨rfl,(Below.refl _ _).alloc (Nat.le_refl _) _⟩
  · have hd:(decide (([]:Bs)=[])&&decide (lo≤n)&&decide (n≤hi))=false:=by simp[h1]
    rw[hd];clear hd
    go_enter Tryz.func145,Tryz.ntmps145
    go_wp2
    go_ret
    exact⟨rfl,(Below.refl _ _).alloc (Nat.le_refl _) _⟩
theorem qKe (n:Int) (nu:Bool) (s:Bs) (w:World) (hs:s.length≤100000) :
    Calls Tryz.prog 146 #[.agg #[.bool nu,.int .i64 n,.string ⟨s.toArray⟩]] w fun e w'=>e=.returned (.bool (decide (n=0)&&decide (s.length≤1024)))∧Below w.heap.size w w':=by
 have hz:=qJr s
 generalize (⟨s.toArray⟩:ByteArray)=S at *
 generalize s.length=L at *
 subst hz
 by_cases h1:n=0
 · subst h1
   by_cases h2:S.size≤1024
   · have h2':(S.size:Int)≤1024:=by omega
     rw[decide_eq_true h2]
     go_enter Tryz.func146,Tryz.ntmps146
     go_wp2
     go_ret
     exact⟨rfl,(Below.refl _ _).alloc (Nat.le_refl _) _⟩
   · have h2':¬(S.size:Int)≤1024:=by omega
     rw[decide_eq_false h2]
     go_enter Tryz.func146,Tryz.ntmps146
     go_wp2
     go_ret
     exact⟨rfl,(Below.refl _ _).alloc (Nat.le_refl _) _⟩
 · have h1':(n==0)=false:=by simpa using h1
   rw[decide_eq_false h1]
   go_enter Tryz.func146,Tryz.ntmps146
   go_wp2
   go_ret
   exact⟨rfl,(Below.refl _ _).alloc (Nat.le_refl _) _⟩
theorem qQf (n:Int) (nu:Bool) (s:Bs) (w:World) :
    Calls Tryz.prog 147 #[.agg #[.bool nu,.int .i64 n,.string ⟨s.toArray⟩]] w fun e w'=>e=.returned (.string ⟨(formatBool (n==1)).toArray⟩)∧Below w.heap.size w w':=by
 generalize (⟨s.toArray⟩:ByteArray)=S at *
 go_enter Tryz.func147,Tryz.ntmps147
 go_wp2_with (go_at_call 148;refine(Tryz.strconv_FormatBool _ _).mono ?_;rintro e w' ⟨rfl,rfl⟩)
 go_ret
 exact⟨rfl,(Below.refl _ _).alloc (Nat.le_refl _) _⟩
end Go.Proofs.YtainiaighnjpfaaGreatDoor
namespace Go.Proofs.YtainiaighnjpfaaGreatDoor
open Go.RowKit Go.Ms Go.Lib
def qT7:Bs:=[116,114,117,101]
theorem qO3 (S:ByteArray) (w:World) :
    Calls Tryz.prog 149 #[.string S] w fun e w'=>e=.returned (.agg #[.bool false,.int .i64 (if S.data.toList=qT7 then 1 else 0),.string ⟨#[]⟩])∧Below w.heap.size w w':=by
 by_cases h:S.data.toList=qT7
 · rw[if_pos h];obtain rfl:S=⟨#[116,114,117,101]⟩:=qBt h
   go_enter Tryz.func149,Tryz.ntmps149
   go_wp2
   exact bodyPost_ret (v:=.agg #[.bool false,.int .i64 1,.string ⟨#[]⟩]) (by simp[results,Tryz.results149,go_sem]) rfl ⟨rfl,(Below.refl _ _).alloc (Nat.le_refl _) _⟩
 · rw[if_neg h]
   have h1:(S.toList==[116,114,117,101])=false:=by rw[Lib.toList_data];simpa[qT7] using h
   clear h
   go_enter Tryz.func149,Tryz.ntmps149
   go_wp2
   exact bodyPost_ret (v:=.agg #[.bool false,.int .i64 0,.string ⟨#[]⟩]) (by simp[results,Tryz.results149,go_sem]) rfl ⟨rfl,(Below.refl _ _).alloc (Nat.le_refl _) _⟩
end Go.Proofs.YtainiaighnjpfaaGreatDoor
namespace Go.Proofs.YtainiaighnjpfaaGreatDoor
open Go.RowKit Go.Lib
theorem qOn:(Tryz.prog.info? 190).map (·.size)=some 2:=by kernel_rfl
theorem qS9:liesAt Tryz.prog Tryz.prog.depth 190 (2/Tryz.prog.cellsOf 190) 0 190 1=true:=by kernel_rfl
theorem infoByte:(Tryz.prog.info? 5).map (fun i=>(i.zero,i.size,i.bytes))=some (some (.int .u8 0),1,1):=by kernel_rfl
set_option maxRecDepth 100000 in
set_option maxHeartbeats 1000000 in
theorem qIs (b:Nat) (w:World) (h0:w.cell? ⟨b,0,none⟩=some (.pointer (some ⟨b,0,none⟩))) :
    Calls Tryz.prog 177 #[.pointer (some ⟨b,0,none⟩)] w fun e w'=>e=.returned (.tuple #[])∧w'=w:=by
 obtain⟨j,hj,_⟩:=Option.map_eq_some_iff.1 qOn
 go_enter Tryz.func177,Tryz.ntmps177
 go_wp2
 rw[Lib.run_neq_ptr_same w _ Tryz.underlying187 hj]
 go_wp2
 go_end0
 exact⟨rfl,rfl⟩
set_option maxRecDepth 100000 in
set_option maxHeartbeats 1000000 in
theorem qH3 (b:Nat) (w:World) (h0:w.cell? ⟨b,0,none⟩=some (.pointer none)) (hsh:w.shape? b=some (190,2)) (hfz:w.frozen? ⟨b,0,none⟩=false) :
    Calls Tryz.prog 177 #[.pointer (some ⟨b,0,none⟩)] w fun e w'=>e=.returned (.tuple #[])∧w'=w.setCell ⟨b,0,none⟩ (.pointer (some ⟨b,0,none⟩)):=by
 obtain⟨j,hj,hjs⟩:=Option.map_eq_some_iff.1 qOn
 go_enter Tryz.func177,Tryz.ntmps177
 go_wp2
 rw[Lib.run_to_unsafe w ⟨b,0,none⟩ Tryz.underlying187 Tryz.underlying67 hj (by rw[hjs];decide) hsh (Nat.zero_lt_succ 1)];simp only[Result.andThen];rw[Oper.upon_value]
 go_wp2
 rw[run_callFunc_extern Tryz.func214 (by kernel_rfl) (by kernel_rfl) (by kernel_rfl) (e:=Extern.AbiNoEscape.same) (by kernel_rfl)];rw[Lib.run_noEscape];simp only[Result.andThen];rw[Oper.upon_value]
 go_wp2
 rw[Lib.run_from_unsafe w ⟨b,0,none⟩ Tryz.underlying67 Tryz.underlying187 hj hsh qS9];simp only[Result.andThen];rw[Oper.upon_value]
 go_wp2
 go_end0
 exact⟨rfl,rfl⟩
theorem qHa (B b:Nat) (bs:List Value) (w:World) (h:IsBuilderF 190 5 B b bs w) :
    Calls Tryz.prog 177 #[.pointer (some ⟨b,0,none⟩)] w fun e w'=>e=.returned (.tuple #[])∧(BuilderAtF 190 5 B b (.pointer (some ⟨b,0,none⟩)) bs w'∧Below B w w'∧OthersKept 5 (some b) w w'):=by
 rcases h with h|h
 · refine(qH3 b w h.cell0 h.shape h.frozen0).mono ?_;rintro e w' ⟨rfl,rfl⟩;exact⟨rfl,h.used _,(Below.refl B w).setCell (p:=⟨b,0,none⟩) h.1 _,(OthersKept.refl _ _ w).setCell ⟨b,0,none⟩ rfl _⟩
 · refine(qIs b w h.cell0).mono ?_;rintro e w' ⟨rfl,rfl⟩;exact⟨rfl,h,Below.refl B _,OthersKept.refl _ _ _⟩
set_option maxHeartbeats 2000000 in
theorem qLe (B b:Nat) (bs:List Value) (c:Int) (w:World) (h:IsBuilderF 190 5 B b bs w) (hlen:bs.length+1≤140737488355328) (hBw:B≤w.heap.size) :
    Calls Tryz.prog 201 #[.pointer (some ⟨b,0,none⟩),.int .u8 c] w fun e w'=>e=.returned .nilIface∧(IsBuilderF 190 5 B b (bs++[.int .u8 c]) w'∧Below B w w'∧OthersKept 5 (some b) w w'):=by
 obtain⟨i0,hi,hz0,hz1,hz2⟩:=info_parts infoByte
 go_enter Tryz.func201,Tryz.ntmps201
 go_wp2_with (go_at_call 177;refine(qHa B b bs _ h).mono ?_)
 rintro e w1 ⟨rfl,h1,hb1,hk1⟩;obtain⟨hB,v,hbk,hown,hne⟩:=h1
 have c0:w1.cell? ⟨b,0,none⟩=some (.pointer (some ⟨b,0,none⟩)):=by rw[Lib.cell_of_heap hbk];rfl
 have c1:w1.cell? ⟨b,1,none⟩=some v:=by rw[Lib.cell_of_heap hbk];rfl
 go_wp2_with (at_builtin;refine wpList_append_ownF _ rfl _ _ 188 rfl B 5 i0 (.int .u8 0) 1 1 Tryz.underlying188 hi hz0 hz1 hz2 rfl (by decide) _ _ _ rfl (hown.alloc _) ⟨w1.heap.size,0,none⟩ 1 1 [.int .u8 c] rfl rfl ?c1 ?c2 ?c3 ?c4 ?c5 ?_)
 case c1=>
  intro j u hj
  match j,hj with
  |0,hj=>simp at hj;subst hj;simp[Addr.add]
 case c2=>intro u hu;simp at hu;subst hu;rfl
 case c3=>unfold maxLen;omega
 case c4=>omega
 case c5=>have:=hb1.size;simp;omega
 intro v' w2 hown' hgrow _
 have hlt:b<w1.heap.size:=by
  rcases Nat.lt_or_ge b w1.heap.size with h'|h'
  · exact h'
  · simp[Array.getElem?_eq_none h'] at hbk
 have hb2:w2.heap[b]?=some (.cells #[.pointer (some ⟨b,0,none⟩),v] 190 (0,0)):=by
  rw[hgrow.block b (by simp;omega) (fun e=>hne e.symm),Lib.alloc_old w1 _ b hlt];exact hbk
 have d0:w2.cell? ⟨b,0,none⟩=some (.pointer (some ⟨b,0,none⟩)):=by rw[Lib.cell_of_heap hb2];rfl
 have d1:w2.cell? ⟨b,1,none⟩=some v:=by rw[Lib.cell_of_heap hb2];rfl
 have f1:w2.frozen? ⟨b,1,none⟩=false:=Lib.frozen_of_heap hb2 1
 obtain⟨g,cap,rfl⟩:∃g cap,v'=.slice (some ⟨g,0,none⟩) (bs.length+1) cap:=by
  rcases hown'.2 with⟨_,h0⟩|⟨g,cap,cur,fz,hv,_⟩
  · omega
  · exact⟨g,cap,hv⟩
 go_wp2
 go_ret
 refine⟨rfl,.inr ?_,?_,((hk1.alloc _).grown hgrow (Lib.ownsRowF_kind (hown.alloc _))).setCell ⟨b,1,none⟩ rfl _⟩
 · exact Lib.BuilderAtF.put (T:=190) (e:=5) hB hb2 (bs':=bs++[.int .u8 c]) (by simpa using hown') (by decide)
 · exact((hb1.alloc (by have:=hb1.size;omega) _).grown hgrow (by have:=hb1.size;simp;omega) (fun k hk=>(hown.lt k hk).1)).setCell (p:=⟨b,1,none⟩) hB _
set_option maxHeartbeats 2000000 in
theorem qG1 (B b:Nat) (bs:List Value) (s:ByteArray) (w:World) (h:IsBuilderF 190 5 B b bs w) (hlen:bs.length+s.size≤140737488355328) (hBw:B≤w.heap.size) :
    Calls Tryz.prog 131 #[.pointer (some ⟨b,0,none⟩),.string s] w fun e w'=>e=.returned (.tuple #[.int .i64 s.size,.nilIface])∧(IsBuilderF 190 5 B b (bs++Lib.strCells s) w'∧Below B w w'∧OthersKept 5 (some b) w w'):=by
 obtain⟨i0,hi,hz0,hz1,hz2⟩:=info_parts infoByte
 go_enter Tryz.func131,Tryz.ntmps131
 go_wp2_with (go_at_call 177;refine(qHa B b bs _ h).mono ?_)
 rintro e w1 ⟨rfl,h1,hb1,hk1⟩;obtain⟨hB,v,hbk,hown,hne⟩:=h1
 have c0:w1.cell? ⟨b,0,none⟩=some (.pointer (some ⟨b,0,none⟩)):=by rw[Lib.cell_of_heap hbk];rfl
 have c1:w1.cell? ⟨b,1,none⟩=some v:=by rw[Lib.cell_of_heap hbk];rfl
 go_wp2_with (at_builtin;refine Lib.wpList_append_own_stringF _ rfl _ _ 188 9 rfl B 5 i0 Tryz.underlying188 Tryz.underlying9 hi hz0 hz1 hz2 _ _ _ rfl hown s rfl ?c3 ?c4 ?c5 ?_)
 case c3=>unfold maxLen;omega
 case c4=>omega
 case c5=>have:=hb1.size;omega
 intro v' w2 hown' hgrow _
 have hlt:b<w1.heap.size:=by
  rcases Nat.lt_or_ge b w1.heap.size with h'|h'
  · exact h'
  · simp[Array.getElem?_eq_none h'] at hbk
 have hb2:w2.heap[b]?=some (.cells #[.pointer (some ⟨b,0,none⟩),v] 190 (0,0)):=by
  rw[hgrow.block b hlt (fun e=>hne e.symm)];exact hbk
 have d0:w2.cell? ⟨b,0,none⟩=some (.pointer (some ⟨b,0,none⟩)):=by rw[Lib.cell_of_heap hb2];rfl
 have d1:w2.cell? ⟨b,1,none⟩=some v:=by rw[Lib.cell_of_heap hb2];rfl
 have f1:w2.frozen? ⟨b,1,none⟩=false:=Lib.frozen_of_heap hb2 1
 obtain⟨ao,n',cap,rfl⟩:∃ao n' cap,v'=.slice ao n' cap:=by
  rcases hown'.2 with⟨hv,_⟩|⟨g,cap,cur,fz,hv,_⟩
  · exact⟨_,_,_,hv⟩
  · exact⟨_,_,_,hv⟩
 go_wp2
 go_ret2
 refine⟨rfl,.inr ?_,?_,(hk1.grown hgrow (Lib.ownsRowF_kind hown)).setCell ⟨b,1,none⟩ rfl _⟩
 · exact Lib.BuilderAtF.put (T:=190) (e:=5) hB hb2 (bs':=bs++Lib.strCells s) (by simpa[Lib.strCells_length] using hown') (by decide)
 · exact(hb1.grown hgrow (by have:=hb1.size;omega) (fun k hk=>(hown.lt k hk).1)).setCell (p:=⟨b,1,none⟩) hB _
set_option maxHeartbeats 4000000 in
theorem qPh (B b:Nat) (bs:List Value) (r:Int) (hr0: -2147483648≤r) (hr1:r≤2147483647) (w:World) (h:IsBuilderF 190 5 B b bs w) (hlen:bs.length+4≤140737488355328) (hBw:B≤w.heap.size) :
    Calls Tryz.prog 228 #[.pointer (some ⟨b,0,none⟩),.int .i32 r] w fun e w'=>e=.returned (.tuple #[.int .i64 (runeCells r).length,.nilIface])∧(IsBuilderF 190 5 B b (bs++runeCells r) w'∧Below B w w'∧OthersKept 5 (some b) w w'):=by
 have hk4:=runeCells_le r
 go_enter Tryz.func228,Tryz.ntmps228
 go_wp2_with (go_at_call 177;refine(qHa B b bs _ h).mono ?_)
 rintro e w1 ⟨rfl,h1,hb1,hk1⟩;obtain⟨hB,v,hbk,hown,hne⟩:=h1
 obtain⟨ao,cap,rfl⟩:∃ao cap,v=.slice ao bs.length cap:=by
  rcases hown.2 with⟨hv,h0⟩|⟨g,cap,cur,fz,hv,_⟩
  · exact⟨none,0,by rw[hv,h0]⟩
  · exact⟨_,_,hv⟩
 have c0:w1.cell? ⟨b,0,none⟩=some (.pointer (some ⟨b,0,none⟩)):=by rw[Lib.cell_of_heap hbk];rfl
 have c1:w1.cell? ⟨b,1,none⟩=some (.slice ao bs.length cap):=by rw[Lib.cell_of_heap hbk];rfl
 go_wp2_with (go_at_call 246;refine(Tryz.utf8_AppendRune_row B _ bs.length bs r hr0 hr1 _ hown hlen (by have:=hb1.size;omega)).mono ?_)
 rintro e w2 ⟨v',rfl,hown',o,hgrow⟩
 have hlt:b<w1.heap.size:=by
  rcases Nat.lt_or_ge b w1.heap.size with h'|h'
  · exact h'
  · simp[Array.getElem?_eq_none h'] at hbk
 have hb2:w2.heap[b]?=some (.cells #[.pointer (some ⟨b,0,none⟩),.slice ao bs.length cap] 190 (0,0)):=by
  rw[hgrow.block b (by simp;omega) (fun e=>hne e.symm),Lib.alloc_old w1 _ b hlt];exact hbk
 have d0:w2.cell? ⟨b,0,none⟩=some (.pointer (some ⟨b,0,none⟩)):=by rw[Lib.cell_of_heap hb2];rfl
 have d1:w2.cell? ⟨b,1,none⟩=some (.slice ao bs.length cap):=by rw[Lib.cell_of_heap hb2];rfl
 have f1:w2.frozen? ⟨b,1,none⟩=false:=Lib.frozen_of_heap hb2 1
 obtain⟨g,cap',rfl⟩:∃g cap',v'=.slice (some ⟨g,0,none⟩) (bs.length+(runeCells r).length) cap':=by
  rcases hown'.2 with⟨_,h0⟩|⟨g,cap',cur,fz,hv,_⟩
  · omega
  · exact⟨g,cap',hv⟩
 go_wp2
 go_ret2
 refine⟨?_,.inr ?_,?_,((hk1.alloc _).grown hgrow (Lib.ownsRowF_kind (hown.alloc _))).setCell ⟨b,1,none⟩ rfl _⟩
 · have e:((bs.length:Int)+((runeCells r).length:Int)-(bs.length:Int))=((runeCells r).length:Int):=by omega
   simp[e]
 · exact Lib.BuilderAtF.put (T:=190) (e:=5) hB hb2 (bs':=bs++runeCells r) (by simpa using hown') (by decide)
 · exact((hb1.alloc (by have:=hb1.size;omega) _).grown hgrow (by have:=hb1.size;simp;omega) (fun k hk=>(hown.lt k hk).1)).setCell (p:=⟨b,1,none⟩) hB _
end Go.Proofs.YtainiaighnjpfaaGreatDoor
namespace Go.Proofs.YtainiaighnjpfaaGreatDoor
open Go.RowKit Go.Ms Go.Lib
theorem qVn (s:ByteArray):qC8 s.data.toList=if (decodeGo s).1=65533∧(decodeGo s).2<2 then (0,0,false) else ((decodeGo s).1,(decodeGo s).2,true):=by
 unfold qC8 decodeGo decodeL
 have hs:(⟨s.data.toList.toArray⟩:ByteArray)=s:=by cases s;simp
 rw[hs]
 by_cases h:s.size=0
 · have:s.data.toList=[]:=List.eq_nil_of_length_eq_zero (by rw[←Lib.size_eq];exact h);rw[if_pos this,if_pos h,if_pos ⟨rfl,by decide⟩]
 · have:s.data.toList≠[]:=by intro e;apply h;rw[Lib.size_eq,e];rfl
   rw[if_neg this,if_neg h]
set_option maxHeartbeats 400000 in
theorem qRr (s:ByteArray) (w:World) (hT:Tabs w) :
    Calls Tryz.prog 249 #[.string s] w fun e w'=>e=.returned (.tuple #[.int .i32 (qC8 s.data.toList).1,.int .i64 (qC8 s.data.toList).2.1,.bool (qC8 s.data.toList).2.2])∧Below w.heap.size w w':=by
 have cd:=Tryz.utf8_DecodeRuneInString s w hT;rw[qVn]
 generalize (decodeGo s).1=r at *
 generalize (decodeGo s).2=n at *
 by_cases h:r=65533∧n<2
 · obtain⟨rfl,hn⟩:=h
   have hn':(n:Int)<2:=by omega
   rw[if_pos ⟨rfl,hn⟩]
   go_enter Tryz.func249,Tryz.ntmps249
   go_wp2_with (go_at_call 132;refine cd.mono ?_;rintro e w' ⟨rfl,hb⟩)
   go_ret3
   exact⟨rfl,hb⟩
 · rw[if_neg h]
   by_cases hr:r=65533
   · have hn':¬(n:Int)<2:=by omega
     subst hr
     go_enter Tryz.func249,Tryz.ntmps249
     go_wp2_with (go_at_call 132;refine cd.mono ?_;rintro e w' ⟨rfl,hb⟩)
     go_ret3
     exact⟨rfl,hb⟩
   · have hr':((r:Int)==65533)=false:=by simp;omega
     go_enter Tryz.func249,Tryz.ntmps249
     go_wp2_with (go_at_call 132;refine cd.mono ?_;rintro e w' ⟨rfl,hb⟩)
     go_ret3
     exact⟨rfl,hb⟩
theorem qH9 (s:ByteArray) (w:World) (hs:s.size≤9223372036854775807) (hT:Tabs w) :
    Calls Tryz.prog 157 #[.string s] w fun e w'=>e=.returned (.bool (validD s.data.toList))∧Below w.heap.size w w':=by
 go_enter Tryz.func157,Tryz.ntmps157
 go_wp2_with (go_at_call 197;refine(Tryz.utf8_ValidString _ _ hs hT).mono ?_;rintro e w' ⟨rfl,hb⟩)
 go_ret
 exact⟨rfl,hb⟩
set_option maxHeartbeats 400000 in
theorem qBe (b:Nat) (s:ByteArray) (p:Nat) (e x:Int) (w:World) (h:Tri 263 b (.string s) (.int .i64 p) (.int .i64 e) w) :
    Calls Tryz.prog 230 #[.pointer (some ⟨b,0,none⟩),.int .i64 x] w (RdP 263 b s p (qBv e x) (.tuple #[]) w):=by
 have c2:=h.c2;have f2:=h.fr 2
 by_cases he:e=0
 · subst he
   go_enter Tryz.func230,Tryz.ntmps230
   go_wp2
   go_end0
   exact⟨rfl,h.set2 _,(Kept.refl b w).setCell (p:=⟨b,2,none⟩) rfl _⟩
 · have he':(e==0)=false:=by simpa using he
   have hx:qBv e x=e:=by unfold qBv;rw[if_neg he]
   rw[hx];clear hx
   go_enter Tryz.func230,Tryz.ntmps230
   go_wp2
   go_end0
   exact⟨rfl,h,Kept.refl _ _⟩
set_option maxHeartbeats 400000 in
theorem qJa (b:Nat) (s:ByteArray) (p:Nat) (e:Int) (w:World) (hp:p≤s.size) (hs:s.size≤1000000) (h:Tri 263 b (.string s) (.int .i64 p) (.int .i64 e) w) :
    Calls Tryz.prog 247 #[.pointer (some ⟨b,0,none⟩)] w (RdP 263 b s (qAn s.data.toList p e).2.1 (qAn s.data.toList p e).2.2 (.int .u8 (qAn s.data.toList p e).1) w):=by
 have c0:=h.c0;have c1:=h.c1;have c2:=h.c2
 have f1:=h.fr 1;have f2:=h.fr 2
 have hl:s.data.toList.length=s.size:=by simp
 by_cases he:e=0
 · subst he
   by_cases hp2:p=s.size
   · have hz:((p:Int)==(s.size:Int))=true:=by simp;omega
     have hx:qAn s.data.toList p 0=(0,p,3):=by unfold qAn;rw[if_pos rfl,if_pos (by omega)]
     rw[hx];clear hx hl hp2
     go_enter Tryz.func247,Tryz.ntmps247
     go_wp2_with fail
     go_quiet (fail)
     go_wp2_with fail
     refine(qBe b s p 0 3 _ (by exact h)).mono ?_;rintro en w' ⟨rfl,h1,k1⟩
     go_wp2
     go_ret
     exact⟨rfl,h1,⟨k1.os,k1.tape,k1.output,k1.size,k1.block⟩⟩
   · have hz:((p:Int)==(s.size:Int))=false:=by simp;omega
     have hlt:p<s.size:=by omega
     have hlt2:(p:Int)<(s.size:Int):=by omega
     have hx:qAn s.data.toList p 0=(((bt s.data.toList p:Nat):Int),p+1,(0:Int)):=by unfold qAn;rw[if_pos rfl,if_neg (by omega)]
     have g0:(s[p]'hlt).toNat=bt s.data.toList p:=by rw[qGq];rfl
     have hb0:=qKn s.data.toList p;rw[hx]
     generalize bt s.data.toList p=x at *
     clear hx hl hp2
     go_enter Tryz.func247,Tryz.ntmps247
     go_wp2_with fail
     go_quiet (fail)
     go_wp2_with fail
     go_quiet (fail)
     go_wp2_with fail
     go_ret
     refine⟨rfl,?_,?_⟩
     · exact((h.drewN _).set1 (.int .i64 ((p+1:Nat):Int))).drewN _
     · exact(((Kept.refl b w).drewN _).setCell (p:=⟨b,1,none⟩) rfl _).drewN _
 · have he':(e==0)=false:=by simpa using he
   have he2:(e != 0)=true:=by simpa using he
   have hx:qAn s.data.toList p e=(0,p,e):=by unfold qAn;rw[if_neg he]
   rw[hx];clear hx
   go_enter Tryz.func247,Tryz.ntmps247
   go_wp2
   go_ret
   exact⟨rfl,h,Kept.refl _ _⟩
theorem qR0:∀c:Fin 256,hexv ((c.val:Nat):Int)=if Lib.indexByte [48,49,50,51,52,53,54,55,56,57,97,98,99,100,101,102] (bits .or .u8 ((c.val:Nat):Int) 32).toNat.toUInt8<0∨((c.val:Nat):Int)<48∨(57<((c.val:Nat):Int)∧((c.val:Nat):Int)<65) then 16 else Lib.indexByte [48,49,50,51,52,53,54,55,56,57,97,98,99,100,101,102] (bits .or .u8 ((c.val:Nat):Int) 32).toNat.toUInt8:=by
 decide +kernel
theorem qQ3:∀c:Fin 256,Lib.indexByte [48,49,50,51,52,53,54,55,56,57,97,98,99,100,101,102] (bits .or .u8 ((c.val:Nat):Int) 32).toNat.toUInt8<16:=by
 decide +kernel
set_option maxHeartbeats 400000 in
theorem qI8 (b:Nat) (s:ByteArray) (p:Nat) (e c:Int) (w:World) (hp:p≤s.size) (hs:s.size≤1000000) (h:Tri 263 b (.string s) (.int .i64 p) (.int .i64 e) w) :
    Calls Tryz.prog 229 #[.pointer (some ⟨b,0,none⟩),.int .u8 c] w (RdP 263 b s (qA2 s.data.toList c p e).1 (qA2 s.data.toList c p e).2 (.tuple #[]) w):=by
 have ct:=qJa b s p e w hp hs h;obtain⟨g,hg⟩:∃g,(qAn s.data.toList p e).1=g:=⟨_,rfl⟩;rw[hg] at ct
 by_cases hc:g=c
 · have hx:qA2 s.data.toList c p e=((qAn s.data.toList p e).2.1,(qAn s.data.toList p e).2.2):=by unfold qA2;rw[hg,if_pos hc]
   rw[hx];subst hc;clear hx hg
   go_enter Tryz.func229,Tryz.ntmps229
   go_wp2_with (go_at_call 247;refine ct.mono ?_;rintro en w' ⟨rfl,h1,k1⟩)
   go_end0
   exact⟨rfl,h1,k1⟩
 · have hx:qA2 s.data.toList c p e=((qAn s.data.toList p e).2.1,qBv (qAn s.data.toList p e).2.2 41):=by unfold qA2;rw[hg,if_neg hc]
   rw[hx]
   have hc2:(g != c)=true:=by simpa using hc
   have hc3:(g==c)=false:=by simpa using hc
   clear hx hg hc
   go_enter Tryz.func229,Tryz.ntmps229
   go_wp2_with (go_at_call 247;refine ct.mono ?_;rintro en w' ⟨rfl,h1,k1⟩)
   refine(qBe b s _ _ 41 _ h1).mono ?_;rintro en w2 ⟨rfl,h2,k2⟩
   go_wp2_with fail
   go_end0
   exact⟨rfl,h2,k1.trans k2⟩
set_option maxHeartbeats 400000 in
theorem qF1 (b:Nat) (s:ByteArray) (p:Nat) (e:Int) (w:World) (hp:p≤s.size) (hs:s.size≤1000000) (h:Tri 263 b (.string s) (.int .i64 p) (.int .i64 e) w) :
    Calls Tryz.prog 259 #[.pointer (some ⟨b,0,none⟩)] w (RdP 263 b s (qAs s.data.toList p e).2.1 (qAs s.data.toList p e).2.2 (.int .i64 (qAs s.data.toList p e).1) w):=by
 have ct:=qJa b s p e w hp hs h;obtain⟨g,hg⟩:∃g,(qAn s.data.toList p e).1=g:=⟨_,rfl⟩;have hb:=qKp s.data.toList p e;rw[hg] at ct hb;have hix:=qR0 ⟨g.toNat,by omega⟩
 have hgn:((g.toNat:Nat):Int)=g:=by omega
 have hlt:=qQ3 ⟨g.toNat,by omega⟩;simp only[hgn] at hix hlt
 have ci:=fun w=>Tryz.strings_IndexByte ⟨#[48,49,50,51,52,53,54,55,56,57,97,98,99,100,101,102]⟩ (bits .or .u8 g 32) w
 obtain⟨k,hk⟩:∃k,Lib.indexByte [48,49,50,51,52,53,54,55,56,57,97,98,99,100,101,102] (bits .or .u8 g 32).toNat.toUInt8=k:=⟨_,rfl⟩;simp only[hk] at ci hix hlt;have Hix:=Lib.hid hix;have Hg:=Lib.hid hg;have Ci:=Lib.hid ci;clear hix hk hgn hg ci
 have no:hexv g=16→qAs s.data.toList p e=(0,(qAn s.data.toList p e).2.1,qBv (qAn s.data.toList p e).2.2 41):=fun hh=>by unfold qAs;rw[Hg.out,if_pos hh]
 have yes:¬hexv g=16→qAs s.data.toList p e=(hexv g,(qAn s.data.toList p e).2.1,(qAn s.data.toList p e).2.2):=fun hh=>by unfold qAs;rw[Hg.out,if_neg hh]
 have hv:=qPc g
 by_cases hc:k<0∨g<48∨(57<g∧g<65)
 · have hh:=Hix.out;rw[if_pos hc] at hh;rw[no hh];clear yes no hh hv hlt
   by_cases c1:k<0
   · clear hc
     go_enter Tryz.func259,Tryz.ntmps259
     go_wp2_with (first|(go_at_call 247;refine ct.mono ?_;rintro en w' ⟨rfl,h1,k1⟩)|(go_at_call 120;refine(Ci.out _).mono ?_;rintro en w2 ⟨rfl,rfl⟩))
     refine(qBe b s _ _ 41 _ h1).mono ?_;rintro en w2 ⟨rfl,h2,k2⟩
     go_wp2_with fail
     go_ret
     exact⟨rfl,h2,k1.trans k2⟩
   by_cases c2:g<48
   · clear hc
     go_enter Tryz.func259,Tryz.ntmps259
     go_wp2_with (first|(go_at_call 247;refine ct.mono ?_;rintro en w' ⟨rfl,h1,k1⟩)|(go_at_call 120;refine(Ci.out _).mono ?_;rintro en w2 ⟨rfl,rfl⟩))
     refine(qBe b s _ _ 41 _ h1).mono ?_;rintro en w2 ⟨rfl,h2,k2⟩
     go_wp2_with fail
     go_ret
     exact⟨rfl,h2,k1.trans k2⟩
   · have c3:57<g:=by omega
     have c4:g<65:=by omega
     clear hc
     go_enter Tryz.func259,Tryz.ntmps259
     go_wp2_with (first|(go_at_call 247;refine ct.mono ?_;rintro en w' ⟨rfl,h1,k1⟩)|(go_at_call 120;refine(Ci.out _).mono ?_;rintro en w2 ⟨rfl,rfl⟩))
     refine(qBe b s _ _ 41 _ h1).mono ?_;rintro en w2 ⟨rfl,h2,k2⟩
     go_wp2_with fail
     go_ret
     exact⟨rfl,h2,k1.trans k2⟩
 · have hh:=Hix.out;rw[if_neg hc] at hh
   have c1:¬k<0:=by omega
   have c2:¬g<48:=by omega
   have hk16:¬hexv g=16:=by omega
   rw[yes hk16,hh];clear yes no hh hv hk16 hlt
   by_cases c3:57<g
   · have c4:¬g<65:=by omega
     clear hc
     go_enter Tryz.func259,Tryz.ntmps259
     go_wp2_with (first|(go_at_call 247;refine ct.mono ?_;rintro en w' ⟨rfl,h1,k1⟩)|(go_at_call 120;refine(Ci.out _).mono ?_;rintro en w2 ⟨rfl,rfl⟩))
     go_ret
     exact⟨rfl,h1,k1⟩
   · clear hc
     go_enter Tryz.func259,Tryz.ntmps259
     go_wp2_with (first|(go_at_call 247;refine ct.mono ?_;rintro en w' ⟨rfl,h1,k1⟩)|(go_at_call 120;refine(Ci.out _).mono ?_;rintro en w2 ⟨rfl,rfl⟩))
     go_ret
     exact⟨rfl,h1,k1⟩
end Go.Proofs.YtainiaighnjpfaaGreatDoor
