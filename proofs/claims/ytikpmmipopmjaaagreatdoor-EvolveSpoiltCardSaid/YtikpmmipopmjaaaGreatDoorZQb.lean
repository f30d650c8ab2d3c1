/- Cells: values, and what the functions of a kind do (those without strconv). Cells: reading bools; quoting. strings.Builder's writing methods at this dump (whose copyCheck lacks its panic's statement): after the shelf's own proofs of BuilderK and BuilderRune. Quote's answer, as a plain function; runes gone over. -/
import Derived.Test.YtikpmmipopmjaaaGreatDoorZQa
import Derived.Deep.RegionLaw
import Derived.Test.YtikpmmipopmjaaaGreatDoorRows
import Derived.Test.YtikpmmipopmjaaaGreatDoorShelf
import Derived.WalkKit
import Derived.WalkSpells
import Derived.WalkLawsBesides
import Derived.Below
import Derived.Handy
import Derived.Shelf.Strings.BuilderK
import Derived.Shelf.Utf8.AppendRune
import Derived.Lib.ValidU
set_option linter.unusedVariables false
namespace Go.Ms
open Go.Lib
end Go.Ms
namespace Go.Proofs.YtikpmmipopmjaaaGreatDoor
open Go.RowKit Go.Ms Go.Lib
theorem qAi {w:World} {p:Addr} {v:Value} (h:w.cell? p=some v):p.block<w.heap.size:=by
 unfold World.cell? at h
 rcases Nat.lt_or_ge p.block w.heap.size with h1|h1
 · exact h1
 · simp[Array.getElem?_eq_none h1] at h
theorem qM0 (l:Bs):(⟨l.toArray⟩:ByteArray).size=l.length:=List.size_toArray
theorem qRo (l:Bs):(⟨l.toArray⟩:ByteArray).toList=l:=by rw[Lib.toList_data]
theorem qIf (a b:Nat) (lo hi n:Int) (nu:Bool) (s:Bs) (w:World) (ha:w.cell? ⟨a,0,none⟩=some (.int .i64 lo)) (hb:w.cell? ⟨b,0,none⟩=some (.int .i64 hi)) :
    Calls Tryz.prog 120 #[.agg #[.bool nu,.int .i64 n,.string ⟨s.toArray⟩],.pointer (some ⟨a,0,none⟩),.pointer (some ⟨b,0,none⟩)] w fun e w'=>e=.returned (.bool (decide (s=[])&&decide (lo≤n)&&decide (n≤hi)))∧Below w.heap.size w w':=by
 have hla:=qAi ha;have hlb:=qAi hb
 cases s with
 |cons x r=>
  have e1:(⟨(x::r).toArray⟩:ByteArray).toList.isEmpty=false:=by rw[qRo];rfl
  have e2:¬(⟨(x::r).toArray⟩:ByteArray).toList=[]:=by rw[qRo];simp
  have hd:(decide (x::r=[])&&decide (lo≤n)&&decide (n≤hi))=false:=by simp
  rw[hd];clear hd
  generalize (⟨(x::r).toArray⟩:ByteArray)=S at *
  go_enter Tryz.func120,Tryz.ntmps120
  go_wp2
  go_ret
  exact⟨rfl,(Below.refl _ _).alloc (Nat.le_refl _) _⟩
 |nil=>
  by_cases h1:lo≤n
  · by_cases h2:n≤hi
    · have hd:(decide (([]:Bs)=[])&&decide (lo≤n)&&decide (n≤hi))=true:=by simp[h1,h2]
      rw[hd];clear hd
      go_enter Tryz.func120,Tryz.ntmps120
      go_wp2
      go_ret
      exact⟨rfl,(Below.refl _ _).alloc (Nat.le_refl _) _⟩
    · have hd:(decide (([]:Bs)=[])&&decide (lo≤n)&&decide (n≤hi))=false:=by simp[h2]
      rw[hd];clear hd
      go_enter Tryz.func120,Tryz.ntmps120
      go_wp2
      go_ret
      exact⟨rfl,(Below.refl _ _).alloc (Nat.le_refl _) _⟩
  · have hd:(decide (([]:Bs)=[])&&decide (lo≤n)&&decide (n≤hi))=false:=by simp[h1]
    rw[hd];clear hd
    go_enter Tryz.func120,Tryz.ntmps120
    go_wp2
    go_ret
    exact⟨rfl,(Below.refl _ _).alloc (Nat.le_refl _) _⟩
theorem qO8 (n:Int) (nu:Bool) (s:Bs) (w:World) (hs:s.length≤100000) :
    Calls Tryz.prog 121 #[.agg #[.bool nu,.int .i64 n,.string ⟨s.toArray⟩]] w fun e w'=>e=.returned (.bool (decide (n=0)&&decide (s.length≤1024)))∧Below w.heap.size w w':=by
 have hz:=qM0 s
 generalize (⟨s.toArray⟩:ByteArray)=S at *
 generalize s.length=L at *
 subst hz
 by_cases h1:n=0
 · subst h1
   by_cases h2:S.size≤1024
   · have h2':(S.size:Int)≤1024:=by omega
     rw[decide_eq_true h2]
     go_enter Tryz.func121,Tryz.ntmps121
     go_wp2
     go_ret
     exact⟨rfl,(Below.refl _ _).alloc (Nat.le_refl _) _⟩
   · have h2':¬(S.size:Int)≤1024:=by omega
     rw[decide_eq_false h2]
     go_enter Tryz.func121,Tryz.ntmps121
     go_wp2
     go_ret
     exact⟨rfl,(Below.refl _ _).alloc (Nat.le_refl _) _⟩
 · have h1':(n==0)=false:=by simpa using h1
   rw[decide_eq_false h1]
   go_enter Tryz.func121,Tryz.ntmps121
   go_wp2
   go_ret
   exact⟨rfl,(Below.refl _ _).alloc (Nat.le_refl _) _⟩
theorem qT6 (n:Int) (nu:Bool) (s:Bs) (w:World) :
    Calls Tryz.prog 122 #[.agg #[.bool nu,.int .i64 n,.string ⟨s.toArray⟩]] w fun e w'=>e=.returned (.string ⟨(formatBool (n==1)).toArray⟩)∧Below w.heap.size w w':=by
 generalize (⟨s.toArray⟩:ByteArray)=S at *
 go_enter Tryz.func122,Tryz.ntmps122
 go_wp2_with (go_at_call 123;refine(Tryz.strconv_FormatBool _ _).mono ?_;rintro e w' ⟨rfl,rfl⟩)
 go_ret
 exact⟨rfl,(Below.refl _ _).alloc (Nat.le_refl _) _⟩
end Go.Proofs.YtikpmmipopmjaaaGreatDoor
namespace Go.Proofs.YtikpmmipopmjaaaGreatDoor
open Go.RowKit Go.Ms Go.Lib
def zAc:Bs:=[116,114,117,101]
theorem qVe (S:ByteArray) (w:World) :
    Calls Tryz.prog 124 #[.string S] w fun e w'=>e=.returned (.agg #[.bool false,.int .i64 (if S.data.toList=zAc then 1 else 0),.string ⟨#[]⟩])∧Below w.heap.size w w':=by
 by_cases h:S.data.toList=zAc
 · rw[if_pos h];obtain rfl:S=⟨#[116,114,117,101]⟩:=qB8 h
   go_enter Tryz.func124,Tryz.ntmps124
   go_wp2
   exact bodyPost_ret (v:=.agg #[.bool false,.int .i64 1,.string ⟨#[]⟩]) (by simp[results,Tryz.results124,go_sem]) rfl ⟨rfl,(Below.refl _ _).alloc (Nat.le_refl _) _⟩
 · rw[if_neg h]
   have h1:(S.toList==[116,114,117,101])=false:=by rw[Lib.toList_data];simpa[zAc] using h
   clear h
   go_enter Tryz.func124,Tryz.ntmps124
   go_wp2
   exact bodyPost_ret (v:=.agg #[.bool false,.int .i64 0,.string ⟨#[]⟩]) (by simp[results,Tryz.results124,go_sem]) rfl ⟨rfl,(Below.refl _ _).alloc (Nat.le_refl _) _⟩
end Go.Proofs.YtikpmmipopmjaaaGreatDoor
namespace Go.Proofs.YtikpmmipopmjaaaGreatDoor
open Go.RowKit Go.Lib
theorem qUq:(Tryz.prog.info? 94).map (·.size)=some 2:=by kernel_rfl
theorem zAf:liesAt Tryz.prog Tryz.prog.depth 94 (2/Tryz.prog.cellsOf 94) 0 94 1=true:=by kernel_rfl
theorem infoByte:(Tryz.prog.info? 5).map (fun i=>(i.zero,i.size,i.bytes))=some (some (.int .u8 0),1,1):=by kernel_rfl
set_option maxRecDepth 100000 in
set_option maxHeartbeats 1000000 in
theorem qLo (b:Nat) (w:World) (h0:w.cell? ⟨b,0,none⟩=some (.pointer (some ⟨b,0,none⟩))) :
    Calls Tryz.prog 94 #[.pointer (some ⟨b,0,none⟩)] w fun e w'=>e=.returned (.tuple #[])∧w'=w:=by
 obtain⟨j,hj,_⟩:=Option.map_eq_some_iff.1 qUq
 go_enter Tryz.func94,Tryz.ntmps94
 go_wp2
 rw[Lib.run_neq_ptr_same w _ Tryz.underlying91 hj]
 go_wp2
 go_end0
 exact⟨rfl,rfl⟩
set_option maxRecDepth 100000 in
set_option maxHeartbeats 1000000 in
theorem qKk (b:Nat) (w:World) (h0:w.cell? ⟨b,0,none⟩=some (.pointer none)) (hsh:w.shape? b=some (94,2)) (hfz:w.frozen? ⟨b,0,none⟩=false) :
    Calls Tryz.prog 94 #[.pointer (some ⟨b,0,none⟩)] w fun e w'=>e=.returned (.tuple #[])∧w'=w.setCell ⟨b,0,none⟩ (.pointer (some ⟨b,0,none⟩)):=by
 obtain⟨j,hj,hjs⟩:=Option.map_eq_some_iff.1 qUq
 go_enter Tryz.func94,Tryz.ntmps94
 go_wp2
 rw[Lib.run_to_unsafe w ⟨b,0,none⟩ Tryz.underlying91 Tryz.underlying160 hj (by rw[hjs];decide) hsh (Nat.zero_lt_succ 1)];simp only[Result.andThen];rw[Oper.upon_value]
 go_wp2
 rw[run_callFunc_extern Tryz.func139 (by kernel_rfl) (by kernel_rfl) (by kernel_rfl) (e:=Extern.AbiNoEscape.same) (by kernel_rfl)];rw[Lib.run_noEscape];simp only[Result.andThen];rw[Oper.upon_value]
 go_wp2
 rw[Lib.run_from_unsafe w ⟨b,0,none⟩ Tryz.underlying160 Tryz.underlying91 hj hsh zAf];simp only[Result.andThen];rw[Oper.upon_value]
 go_wp2
 go_end0
 exact⟨rfl,rfl⟩
theorem qKp (B b:Nat) (bs:List Value) (w:World) (h:IsBuilderF 94 5 B b bs w) :
    Calls Tryz.prog 94 #[.pointer (some ⟨b,0,none⟩)] w fun e w'=>e=.returned (.tuple #[])∧(BuilderAtF 94 5 B b (.pointer (some ⟨b,0,none⟩)) bs w'∧Below B w w'∧OthersKept 5 (some b) w w'):=by
 rcases h with h|h
 · refine(qKk b w h.cell0 h.shape h.frozen0).mono ?_;rintro e w' ⟨rfl,rfl⟩;exact⟨rfl,h.used _,(Below.refl B w).setCell (p:=⟨b,0,none⟩) h.1 _,(OthersKept.refl _ _ w).setCell ⟨b,0,none⟩ rfl _⟩
 · refine(qLo b w h.cell0).mono ?_;rintro e w' ⟨rfl,rfl⟩;exact⟨rfl,h,Below.refl B _,OthersKept.refl _ _ _⟩
set_option maxHeartbeats 2000000 in
theorem qNt (B b:Nat) (bs:List Value) (c:Int) (w:World) (h:IsBuilderF 94 5 B b bs w) (hlen:bs.length+1≤140737488355328) (hBw:B≤w.heap.size) :
    Calls Tryz.prog 164 #[.pointer (some ⟨b,0,none⟩),.int .u8 c] w fun e w'=>e=.returned .nilIface∧(IsBuilderF 94 5 B b (bs++[.int .u8 c]) w'∧Below B w w'∧OthersKept 5 (some b) w w'):=by
 obtain⟨i0,hi,hz0,hz1,hz2⟩:=info_parts infoByte
 go_enter Tryz.func164,Tryz.ntmps164
 go_wp2_with (go_at_call 94;refine(qKp B b bs _ h).mono ?_)
 rintro e w1 ⟨rfl,h1,hb1,hk1⟩;obtain⟨hB,v,hbk,hown,hne⟩:=h1
 have c0:w1.cell? ⟨b,0,none⟩=some (.pointer (some ⟨b,0,none⟩)):=by rw[Lib.cell_of_heap hbk];rfl
 have c1:w1.cell? ⟨b,1,none⟩=some v:=by rw[Lib.cell_of_heap hbk];rfl
 go_wp2_with (at_builtin;refine wpList_append_ownF _ rfl _ _ 92 rfl B 5 i0 (.int .u8 0) 1 1 Tryz.underlying92 hi hz0 hz1 hz2 rfl (by decide) _ _ _ rfl (hown.alloc _) ⟨w1.heap.size,0,none⟩ 1 1 [.int .u8 c] rfl rfl ?c1 ?c2 ?c3 ?c4 ?c5 ?_)
 case c1=>
  intro j u hj
  match j,hj with
  |0,hj=>simp at hj;subst hj;simp[Addr.add]
 case c2=>intro u hu;simp at hu;subst hu;rfl
 case c3=>unfold maxLen;omega
 case c4=>omega
 case c5=>have:=hb1.size;simp;omega
 intro v' w2 hown' hgrow _
 have hlt:b<w1.heap.size:=by
  rcases Nat.lt_or_ge b w1.heap.size with h'|h'
  · exact h'
  · simp[Array.getElem?_eq_none h'] at hbk
 have hb2:w2.heap[b]?=some (.cells #[.pointer (some ⟨b,0,none⟩),v] 94 (0,0)):=by
  rw[hgrow.block b (by simp;omega) (fun e=>hne e.symm),Lib.alloc_old w1 _ b hlt];exact hbk
 have d0:w2.cell? ⟨b,0,none⟩=some (.pointer (some ⟨b,0,none⟩)):=by rw[Lib.cell_of_heap hb2];rfl
 have d1:w2.cell? ⟨b,1,none⟩=some v:=by rw[Lib.cell_of_heap hb2];rfl
 have f1:w2.frozen? ⟨b,1,none⟩=false:=Lib.frozen_of_heap hb2 1
 obtain⟨g,cap,rfl⟩:∃g cap,v'=.slice (some ⟨g,0,none⟩) (bs.length+1) cap:=by
  rcases hown'.2 with⟨_,h0⟩|⟨g,cap,cur,fz,hv,_⟩
  · omega
  · exact⟨g,cap,hv⟩
 go_wp2
 go_ret
 refine⟨rfl,.inr ?_,?_,((hk1.alloc _).grown hgrow (Lib.ownsRowF_kind (hown.alloc _))).setCell ⟨b,1,none⟩ rfl _⟩
 · exact Lib.BuilderAtF.put (T:=94) (e:=5) hB hb2 (bs':=bs++[.int .u8 c]) (by simpa using hown') (by decide)
 · exact((hb1.alloc (by have:=hb1.size;omega) _).grown hgrow (by have:=hb1.size;simp;omega) (fun k hk=>(hown.lt k hk).1)).setCell (p:=⟨b,1,none⟩) hB _
set_option maxHeartbeats 2000000 in
theorem qJp (B b:Nat) (bs:List Value) (s:ByteArray) (w:World) (h:IsBuilderF 94 5 B b bs w) (hlen:bs.length+s.size≤140737488355328) (hBw:B≤w.heap.size) :
    Calls Tryz.prog 68 #[.pointer (some ⟨b,0,none⟩),.string s] w fun e w'=>e=.returned (.tuple #[.int .i64 s.size,.nilIface])∧(IsBuilderF 94 5 B b (bs++Lib.strCells s) w'∧Below B w w'∧OthersKept 5 (some b) w w'):=by
 obtain⟨i0,hi,hz0,hz1,hz2⟩:=info_parts infoByte
 go_enter Tryz.func68,Tryz.ntmps68
 go_wp2_with (go_at_call 94;refine(qKp B b bs _ h).mono ?_)
 rintro e w1 ⟨rfl,h1,hb1,hk1⟩;obtain⟨hB,v,hbk,hown,hne⟩:=h1
 have c0:w1.cell? ⟨b,0,none⟩=some (.pointer (some ⟨b,0,none⟩)):=by rw[Lib.cell_of_heap hbk];rfl
 have c1:w1.cell? ⟨b,1,none⟩=some v:=by rw[Lib.cell_of_heap hbk];rfl
 go_wp2_with (at_builtin;refine Lib.wpList_append_own_stringF _ rfl _ _ 92 9 rfl B 5 i0 Tryz.underlying92 Tryz.underlying9 hi hz0 hz1 hz2 _ _ _ rfl hown s rfl ?c3 ?c4 ?c5 ?_)
 case c3=>unfold maxLen;omega
 case c4=>omega
 case c5=>have:=hb1.size;omega
 intro v' w2 hown' hgrow _
 have hlt:b<w1.heap.size:=by
  rcases Nat.lt_or_ge b w1.heap.size with h'|h'
  · exact h'
  · simp[Array.getElem?_eq_none h'] at hbk
 have hb2:w2.heap[b]?=some (.cells #[.pointer (some ⟨b,0,none⟩),v] 94 (0,0)):=by
  rw[hgrow.block b hlt (fun e=>hne e.symm)];exact hbk
 have d0:w2.cell? ⟨b,0,none⟩=some (.pointer (some ⟨b,0,none⟩)):=by rw[Lib.cell_of_heap hb2];rfl
 have d1:w2.cell? ⟨b,1,none⟩=some v:=by rw[Lib.cell_of_heap hb2];rfl
 have f1:w2.frozen? ⟨b,1,none⟩=false:=Lib.frozen_of_heap hb2 1
 obtain⟨ao,n',cap,rfl⟩:∃ao n' cap,v'=.slice ao n' cap:=by
  rcases hown'.2 with⟨hv,_⟩|⟨g,cap,cur,fz,hv,_⟩
  · exact⟨_,_,_,hv⟩
  · exact⟨_,_,_,hv⟩
 go_wp2
 go_ret2
 refine⟨rfl,.inr ?_,?_,(hk1.grown hgrow (Lib.ownsRowF_kind hown)).setCell ⟨b,1,none⟩ rfl _⟩
 · exact Lib.BuilderAtF.put (T:=94) (e:=5) hB hb2 (bs':=bs++Lib.strCells s) (by simpa[Lib.strCells_length] using hown') (by decide)
 · exact(hb1.grown hgrow (by have:=hb1.size;omega) (fun k hk=>(hown.lt k hk).1)).setCell (p:=⟨b,1,none⟩) hB _
set_option maxHeartbeats 4000000 in
theorem qT2 (B b:Nat) (bs:List Value) (r:Int) (hr0: -2147483648≤r) (hr1:r≤2147483647) (w:World) (h:IsBuilderF 94 5 B b bs w) (hlen:bs.length+4≤140737488355328) (hBw:B≤w.heap.size) :
    Calls Tryz.prog 184 #[.pointer (some ⟨b,0,none⟩),.int .i32 r] w fun e w'=>e=.returned (.tuple #[.int .i64 (runeCells r).length,.nilIface])∧(IsBuilderF 94 5 B b (bs++runeCells r) w'∧Below B w w'∧OthersKept 5 (some b) w w'):=by
 have hk4:=runeCells_le r
 go_enter Tryz.func184,Tryz.ntmps184
 go_wp2_with (go_at_call 94;refine(qKp B b bs _ h).mono ?_)
 rintro e w1 ⟨rfl,h1,hb1,hk1⟩;obtain⟨hB,v,hbk,hown,hne⟩:=h1
 obtain⟨ao,cap,rfl⟩:∃ao cap,v=.slice ao bs.length cap:=by
  rcases hown.2 with⟨hv,h0⟩|⟨g,cap,cur,fz,hv,_⟩
  · exact⟨none,0,by rw[hv,h0]⟩
  · exact⟨_,_,hv⟩
 have c0:w1.cell? ⟨b,0,none⟩=some (.pointer (some ⟨b,0,none⟩)):=by rw[Lib.cell_of_heap hbk];rfl
 have c1:w1.cell? ⟨b,1,none⟩=some (.slice ao bs.length cap):=by rw[Lib.cell_of_heap hbk];rfl
 go_wp2_with (go_at_call 201;refine(Tryz.utf8_AppendRune_row B _ bs.length bs r hr0 hr1 _ hown hlen (by have:=hb1.size;omega)).mono ?_)
 rintro e w2 ⟨v',rfl,hown',o,hgrow⟩
 have hlt:b<w1.heap.size:=by
  rcases Nat.lt_or_ge b w1.heap.size with h'|h'
  · exact h'
  · simp[Array.getElem?_eq_none h'] at hbk
 have hb2:w2.heap[b]?=some (.cells #[.pointer (some ⟨b,0,none⟩),.slice ao bs.length cap] 94 (0,0)):=by
  rw[hgrow.block b (by simp;omega) (fun e=>hne e.symm),Lib.alloc_old w1 _ b hlt];exact hbk
 have d0:w2.cell? ⟨b,0,none⟩=some (.pointer (some ⟨b,0,none⟩)):=by rw[Lib.cell_of_heap hb2];rfl
 have d1:w2.cell? ⟨b,1,none⟩=some (.slice ao bs.length cap):=by rw[Lib.cell_of_heap hb2];rfl
 have f1:w2.frozen? ⟨b,1,none⟩=false:=Lib.frozen_of_heap hb2 1
 obtain⟨g,cap',rfl⟩:∃g cap',v'=.slice (some ⟨g,0,none⟩) (bs.length+(runeCells r).length) cap':=by
  rcases hown'.2 with⟨_,h0⟩|⟨g,cap',cur,fz,hv,_⟩
  · omega
  · exact⟨g,cap',hv⟩
 go_wp2
 go_ret2
 refine⟨?_,.inr ?_,?_,((hk1.alloc _).grown hgrow (Lib.ownsRowF_kind (hown.alloc _))).setCell ⟨b,1,none⟩ rfl _⟩
 · have e:((bs.length:Int)+((runeCells r).length:Int)-(bs.length:Int))=((runeCells r).length:Int):=by omega
   simp[e]
 · exact Lib.BuilderAtF.put (T:=94) (e:=5) hB hb2 (bs':=bs++runeCells r) (by simpa using hown') (by decide)
 · exact((hb1.alloc (by have:=hb1.size;omega) _).grown hgrow (by have:=hb1.size;simp;omega) (fun k hk=>(hown.lt k hk).1)).setCell (p:=⟨b,1,none⟩) hB _
end Go.Proofs.YtikpmmipopmjaaaGreatDoor
namespace Go.Proofs.YtikpmmipopmjaaaGreatDoor
open Go.RowKit Go.Ms Go.Lib
theorem zCw (s:ByteArray):qDk s.data.toList=if (decodeGo s).1=65533∧(decodeGo s).2<2 then (0,0,false) else ((decodeGo s).1,(decodeGo s).2,true):=by
 unfold qDk decodeGo decodeL
 have hs:(⟨s.data.toList.toArray⟩:ByteArray)=s:=by cases s;simp
 rw[hs]
 by_cases h:s.size=0
 · have:s.data.toList=[]:=List.eq_nil_of_length_eq_zero (by rw[←Lib.size_eq];exact h);rw[if_pos this,if_pos h,if_pos ⟨rfl,by decide⟩]
 · have:s.data.toList≠[]:=by intro e;apply h;rw[Lib.size_eq,e];rfl
   rw[if_neg this,if_neg h]
set_option maxHeartbeats 400000 in
theorem qX2 (s:ByteArray) (w:World) (hT:Tabs w) :
    Calls Tryz.prog 204 #[.string s] w fun e w'=>e=.returned (.tuple #[.int .i32 (qDk s.data.toList).1,.int .i64 (qDk s.data.toList).2.1,.bool (qDk s.data.toList).2.2])∧Below w.heap.size w w':=by
 have cd:=Tryz.utf8_DecodeRuneInString s w hT;rw[zCw]
 generalize (decodeGo s).1=r at *
 generalize (decodeGo s).2=n at *
 by_cases h:r=65533∧n<2
 · obtain⟨rfl,hn⟩:=h
   have hn':(n:Int)<2:=by omega
   rw[if_pos ⟨rfl,hn⟩]
   go_enter Tryz.func204,Tryz.ntmps204
   go_wp2_with (go_at_call 110;refine cd.mono ?_;rintro e w' ⟨rfl,hb⟩)
   go_ret3
   exact⟨rfl,hb⟩
 · rw[if_neg h]
   by_cases hr:r=65533
   · have hn':¬(n:Int)<2:=by omega
     subst hr
     go_enter Tryz.func204,Tryz.ntmps204
     go_wp2_with (go_at_call 110;refine cd.mono ?_;rintro e w' ⟨rfl,hb⟩)
     go_ret3
     exact⟨rfl,hb⟩
   · have hr':((r:Int)==65533)=false:=by simp;omega
     go_enter Tryz.func204,Tryz.ntmps204
     go_wp2_with (go_at_call 110;refine cd.mono ?_;rintro e w' ⟨rfl,hb⟩)
     go_ret3
     exact⟨rfl,hb⟩
theorem qKw (s:ByteArray) (w:World) (hs:s.size≤9223372036854775807) (hT:Tabs w) :
    Calls Tryz.prog 132 #[.string s] w fun e w'=>e=.returned (.bool (validD s.data.toList))∧Below w.heap.size w w':=by
 go_enter Tryz.func132,Tryz.ntmps132
 go_wp2_with (go_at_call 160;refine(Tryz.utf8_ValidString _ _ hs hT).mono ?_;rintro e w' ⟨rfl,hb⟩)
 go_ret
 exact⟨rfl,hb⟩
set_option maxHeartbeats 400000 in
theorem qB3 (b:Nat) (s:ByteArray) (p:Nat) (e x:Int) (w:World) (h:Tri 201 b (.string s) (.int .i64 p) (.int .i64 e) w) :
    Calls Tryz.prog 186 #[.pointer (some ⟨b,0,none⟩),.int .i64 x] w (RdP 201 b s p (qCp e x) (.tuple #[]) w):=by
 have c2:=h.c2;have f2:=h.fr 2
 by_cases he:e=0
 · subst he
   go_enter Tryz.func186,Tryz.ntmps186
   go_wp2
   go_end0
   exact⟨rfl,h.set2 _,(Kept.refl b w).setCell (p:=⟨b,2,none⟩) rfl _⟩
 · have he':(e==0)=false:=by simpa using he
   have hx:qCp e x=e:=by unfold qCp;rw[if_neg he]
   rw[hx];clear hx
   go_enter Tryz.func186,Tryz.ntmps186
   go_wp2
   go_end0
   exact⟨rfl,h,Kept.refl _ _⟩
set_option maxHeartbeats 400000 in
theorem qM6 (b:Nat) (s:ByteArray) (p:Nat) (e:Int) (w:World) (hp:p≤s.size) (hs:s.size≤1000000) (h:Tri 201 b (.string s) (.int .i64 p) (.int .i64 e) w) :
    Calls Tryz.prog 202 #[.pointer (some ⟨b,0,none⟩)] w (RdP 201 b s (qAu s.data.toList p e).2.1 (qAu s.data.toList p e).2.2 (.int .u8 (qAu s.data.toList p e).1) w):=by
 have c0:=h.c0;have c1:=h.c1;have c2:=h.c2
 have f1:=h.fr 1;have f2:=h.fr 2
 have hl:s.data.toList.length=s.size:=by simp
 by_cases he:e=0
 · subst he
   by_cases hp2:p=s.size
   · have hz:((p:Int)==(s.size:Int))=true:=by simp;omega
     have hx:qAu s.data.toList p 0=(0,p,3):=by unfold qAu;rw[if_pos rfl,if_pos (by omega)]
     rw[hx];clear hx hl hp2
     go_enter Tryz.func202,Tryz.ntmps202
     go_wp2_with fail
     go_quiet (fail)
     go_wp2_with fail
     refine(qB3 b s p 0 3 _ (by exact h)).mono ?_;rintro en w' ⟨rfl,h1,k1⟩
     go_wp2
     go_ret
     exact⟨rfl,h1,⟨k1.os,k1.tape,k1.output,k1.size,k1.block⟩⟩
   · have hz:((p:Int)==(s.size:Int))=false:=by simp;omega
     have hlt:p<s.size:=by omega
     have hlt2:(p:Int)<(s.size:Int):=by omega
     have hx:qAu s.data.toList p 0=(((bt s.data.toList p:Nat):Int),p+1,(0:Int)):=by unfold qAu;rw[if_pos rfl,if_neg (by omega)]
     have g0:(s[p]'hlt).toNat=bt s.data.toList p:=by rw[qDg];rfl
     have hb0:=qEv s.data.toList p;rw[hx]
     generalize bt s.data.toList p=x at *
     clear hx hl hp2
     go_enter Tryz.func202,Tryz.ntmps202
     go_wp2_with fail
     go_quiet (fail)
     go_wp2_with fail
     go_quiet (fail)
     go_wp2_with fail
     go_ret
     refine⟨rfl,?_,?_⟩
     · exact((h.drewN _).set1 (.int .i64 ((p+1:Nat):Int))).drewN _
     · exact(((Kept.refl b w).drewN _).setCell (p:=⟨b,1,none⟩) rfl _).drewN _
 · have he':(e==0)=false:=by simpa using he
   have he2:(e != 0)=true:=by simpa using he
   have hx:qAu s.data.toList p e=(0,p,e):=by unfold qAu;rw[if_neg he]
   rw[hx];clear hx
   go_enter Tryz.func202,Tryz.ntmps202
   go_wp2
   go_ret
   exact⟨rfl,h,Kept.refl _ _⟩
theorem qWo:∀c:Fin 256,hexv ((c.val:Nat):Int)=if Lib.indexByte [48,49,50,51,52,53,54,55,56,57,97,98,99,100,101,102] (bits .or .u8 ((c.val:Nat):Int) 32).toNat.toUInt8<0∨((c.val:Nat):Int)<48∨(57<((c.val:Nat):Int)∧((c.val:Nat):Int)<65) then 16 else Lib.indexByte [48,49,50,51,52,53,54,55,56,57,97,98,99,100,101,102] (bits .or .u8 ((c.val:Nat):Int) 32).toNat.toUInt8:=by
 decide +kernel
theorem qXv:∀c:Fin 256,Lib.indexByte [48,49,50,51,52,53,54,55,56,57,97,98,99,100,101,102] (bits .or .u8 ((c.val:Nat):Int) 32).toNat.toUInt8<16:=by
 decide +kernel
set_option maxHeartbeats 400000 in
theorem qM9 (b:Nat) (s:ByteArray) (p:Nat) (e c:Int) (w:World) (hp:p≤s.size) (hs:s.size≤1000000) (h:Tri 201 b (.string s) (.int .i64 p) (.int .i64 e) w) :
    Calls Tryz.prog 185 #[.pointer (some ⟨b,0,none⟩),.int .u8 c] w (RdP 201 b s (qBi s.data.toList c p e).1 (qBi s.data.toList c p e).2 (.tuple #[]) w):=by
 have ct:=qM6 b s p e w hp hs h;obtain⟨g,hg⟩:∃g,(qAu s.data.toList p e).1=g:=⟨_,rfl⟩;rw[hg] at ct
 by_cases hc:g=c
 · have hx:qBi s.data.toList c p e=((qAu s.data.toList p e).2.1,(qAu s.data.toList p e).2.2):=by unfold qBi;rw[hg,if_pos hc]
   rw[hx];subst hc;clear hx hg
   go_enter Tryz.func185,Tryz.ntmps185
   go_wp2_with (go_at_call 202;refine ct.mono ?_;rintro en w' ⟨rfl,h1,k1⟩)
   go_end0
   exact⟨rfl,h1,k1⟩
 · have hx:qBi s.data.toList c p e=((qAu s.data.toList p e).2.1,qCp (qAu s.data.toList p e).2.2 41):=by unfold qBi;rw[hg,if_neg hc]
   rw[hx]
   have hc2:(g != c)=true:=by simpa using hc
   have hc3:(g==c)=false:=by simpa using hc
   clear hx hg hc
   go_enter Tryz.func185,Tryz.ntmps185
   go_wp2_with (go_at_call 202;refine ct.mono ?_;rintro en w' ⟨rfl,h1,k1⟩)
   refine(qB3 b s _ _ 41 _ h1).mono ?_;rintro en w2 ⟨rfl,h2,k2⟩
   go_wp2_with fail
   go_end0
   exact⟨rfl,h2,k1.trans k2⟩
set_option maxHeartbeats 400000 in
theorem qHw (b:Nat) (s:ByteArray) (p:Nat) (e:Int) (w:World) (hp:p≤s.size) (hs:s.size≤1000000) (h:Tri 201 b (.string s) (.int .i64 p) (.int .i64 e) w) :
    Calls Tryz.prog 215 #[.pointer (some ⟨b,0,none⟩)] w (RdP 201 b s (qA3 s.data.toList p e).2.1 (qA3 s.data.toList p e).2.2 (.int .i64 (qA3 s.data.toList p e).1) w):=by
 have ct:=qM6 b s p e w hp hs h;obtain⟨g,hg⟩:∃g,(qAu s.data.toList p e).1=g:=⟨_,rfl⟩;have hb:=qN2 s.data.toList p e;rw[hg] at ct hb;have hix:=qWo ⟨g.toNat,by omega⟩
 have hgn:((g.toNat:Nat):Int)=g:=by omega
 have hlt:=qXv ⟨g.toNat,by omega⟩;simp only[hgn] at hix hlt
 have ci:=fun w=>Tryz.strings_IndexByte ⟨#[48,49,50,51,52,53,54,55,56,57,97,98,99,100,101,102]⟩ (bits .or .u8 g 32) w
 obtain⟨k,hk⟩:∃k,Lib.indexByte [48,49,50,51,52,53,54,55,56,57,97,98,99,100,101,102] (bits .or .u8 g 32).toNat.toUInt8=k:=⟨_,rfl⟩;simp only[hk] at ci hix hlt;have Hix:=Lib.hid hix;have Hg:=Lib.hid hg;have Ci:=Lib.hid ci;clear hix hk hgn hg ci
 have no:hexv g=16→qA3 s.data.toList p e=(0,(qAu s.data.toList p e).2.1,qCp (qAu s.data.toList p e).2.2 41):=fun hh=>by unfold qA3;rw[Hg.out,if_pos hh]
 have yes:¬hexv g=16→qA3 s.data.toList p e=(hexv g,(qAu s.data.toList p e).2.1,(qAu s.data.toList p e).2.2):=fun hh=>by unfold qA3;rw[Hg.out,if_neg hh]
 have hv:=qT4 g
 by_cases hc:k<0∨g<48∨(57<g∧g<65)
 · have hh:=Hix.out;rw[if_pos hc] at hh;rw[no hh];clear yes no hh hv hlt
   by_cases c1:k<0
   · clear hc
     go_enter Tryz.func215,Tryz.ntmps215
     go_wp2_with (first|(go_at_call 202;refine ct.mono ?_;rintro en w' ⟨rfl,h1,k1⟩)|(go_at_call 99;refine(Ci.out _).mono ?_;rintro en w2 ⟨rfl,rfl⟩))
     refine(qB3 b s _ _ 41 _ h1).mono ?_;rintro en w2 ⟨rfl,h2,k2⟩
     go_wp2_with fail
     go_ret
     exact⟨rfl,h2,k1.trans k2⟩
   by_cases c2:g<48
   · clear hc
     go_enter Tryz.func215,Tryz.ntmps215
     go_wp2_with (first|(go_at_call 202;refine ct.mono ?_;rintro en w' ⟨rfl,h1,k1⟩)|(go_at_call 99;refine(Ci.out _).mono ?_;rintro en w2 ⟨rfl,rfl⟩))
     refine(qB3 b s _ _ 41 _ h1).mono ?_;rintro en w2 ⟨rfl,h2,k2⟩
     go_wp2_with fail
     go_ret
     exact⟨rfl,h2,k1.trans k2⟩
   · have c3:57<g:=by omega
     have c4:g<65:=by omega
     clear hc
     go_enter Tryz.func215,Tryz.ntmps215
     go_wp2_with (first|(go_at_call 202;refine ct.mono ?_;rintro en w' ⟨rfl,h1,k1⟩)|(go_at_call 99;refine(Ci.out _).mono ?_;rintro en w2 ⟨rfl,rfl⟩))
     refine(qB3 b s _ _ 41 _ h1).mono ?_;rintro en w2 ⟨rfl,h2,k2⟩
     go_wp2_with fail
     go_ret
     exact⟨rfl,h2,k1.trans k2⟩
 · have hh:=Hix.out;rw[if_neg hc] at hh
   have c1:¬k<0:=by omega
   have c2:¬g<48:=by omega
   have hk16:¬hexv g=16:=by omega
   rw[yes hk16,hh];clear yes no hh hv hk16 hlt
   by_cases c3:57<g
   · have c4:¬g<65:=by omega
     clear hc
     go_enter Tryz.func215,Tryz.ntmps215
     go_wp2_with (first|(go_at_call 202;refine ct.mono ?_;rintro en w' ⟨rfl,h1,k1⟩)|(go_at_call 99;refine(Ci.out _).mono ?_;rintro en w2 ⟨rfl,rfl⟩))
     go_ret
     exact⟨rfl,h1,k1⟩
   · clear hc
     go_enter Tryz.func215,Tryz.ntmps215
     go_wp2_with (first|(go_at_call 202;refine ct.mono ?_;rintro en w' ⟨rfl,h1,k1⟩)|(go_at_call 99;refine(Ci.out _).mono ?_;rintro en w2 ⟨rfl,rfl⟩))
     go_ret
     exact⟨rfl,h1,k1⟩
end Go.Proofs.YtikpmmipopmjaaaGreatDoor
namespace Go.Ms
open Go.Lib
theorem qPr (s:ByteArray) (pos:Nat):Utf8.decode s pos=decodeL (s.data.toList.drop pos):=by
 rw[decode_at,qIk]
 have hg:∀k,s.get! k=s.data.toList.getD k 0:=by
  intro k
  have hs:s=⟨s.data.toList.toArray⟩:=by cases s;simp
  have key:∀s':ByteArray,s'=⟨s.data.toList.toArray⟩→s'.get! k=s.data.toList.getD k 0:=fun s' h=>by rw[h];exact get!_list _ _
  exact key s hs
 simp only[hg,bt,List.length_drop,Array.length_toList,ByteArray.size_data,List.getD_eq_getElem?_getD,List.getElem?_drop,Nat.add_zero]
def esc2 (r:Int):Option Int:=
  if r=34 then some 34 else if r=92 then some 92 else if r=8 then some 98 else if r=12 then some 102 else if r=10 then some 110 else if r=13 then some 114 else if r=9 then some 116 else none
def hexd (n:Nat):UInt8:=if n<10 then (48+n).toUInt8 else (87+n).toUInt8
def qb (c:UInt8):Bs:=
  match esc2 c.toNat with
  |some x=>[92,x.toNat.toUInt8]
  |none=>if c.toNat<32 then [92,117,48,48,hexd (c.toNat/16),hexd (c.toNat%16)] else [c]
def qMa (l:Bs):Bs:=34::(l.flatMap qb++[34])
theorem qMt:∀(n:Nat) (l:Bs),l.length≤n→validGoD n l=validD l:=by
 intro n
 induction n using Nat.strongRecOn with
 | ind n ih=>
  intro l hl
  cases n with
  |zero=>
   have:l=[]:=List.eq_nil_of_length_eq_zero (by omega)
   subst this;rfl
  | succ n=>
   cases l with
   |nil=>rfl
   |cons a t=>
    unfold validD;simp only[List.length_cons,validGoD];have hw:=decodeL_width (a::t)
    have h2:((a::t).drop (decodeL (a::t)).2).length≤t.length:=by simp;omega
    rw[ih n (by omega) _ (by simp at hl h2 ⊢;omega)]
    by_cases hn:t.length=n
    · rw[hn,ih n (by omega) _ (by rw[←hn];exact h2)]
    · rw[ih t.length (by simp at hl;omega) _ h2]
theorem qS9 (l:Bs) (h:l≠[]):validD l=if (decodeL l).1=65533∧(decodeL l).2=1 then false else validD (l.drop (decodeL l).2):=by
 obtain⟨a,t,rfl⟩:=List.exists_cons_of_ne_nil h;have hw:=decodeL_width (a::t)
 show validGoD (a::t).length (a::t)=_
 simp only[List.length_cons,validGoD];rw[qMt _ _ (by simp;omega)];rfl
theorem qMd (l:Bs) (h:l≠[]):validD l=if (qDk l).2.2=true then validD (l.drop (qDk l).2.1) else false:=by
 rw[qS9 l h];have hw:=decodeL_width l;unfold qDk;rw[if_neg h]
 by_cases hc:(decodeL l).1=65533∧(decodeL l).2<2
 · rw[if_pos hc,if_pos ⟨hc.1,by omega⟩];simp
 · rw[if_neg hc,if_neg (by omega)];simp
theorem qQl (l:Bs) (h:l≠[]) (hv:validD l=true):∃r:Int,qB9 r=true∧qDk l=(r.toNat,(encodeRune r).length,true)∧l=encodeRune r++l.drop (encodeRune r).length∧validD (l.drop (encodeRune r).length)=true:=by
 rw[qMd l h] at hv
 rcases qDl l with e|⟨r,h1,h2,h3⟩
 · rw[e] at hv;simp at hv
 · refine⟨r,h1,h2,h3,?_⟩;rw[h2] at hv
   simpa using hv
theorem qW5 (l:Bs) (r:Int) (h:l≠[]) (h2:qDk l=(r.toNat,(encodeRune r).length,true)):decodeL l=(r.toNat,(encodeRune r).length):=by
 unfold qDk at h2;rw[if_neg h] at h2
 split at h2
 · simp at h2
 · simp only[Prod.mk.injEq] at h2;exact Prod.ext h2.1 h2.2.1
set_option maxRecDepth 100000 in
theorem qZz (c:UInt8) (h:128≤c.toNat):qb c=[c]:=by
 unfold qb esc2;simp only[show ¬((c.toNat:Int)=34) by omega,show ¬((c.toNat:Int)=92) by omega,show ¬((c.toNat:Int)=8) by omega,show ¬((c.toNat:Int)=12) by omega,show ¬((c.toNat:Int)=10) by omega,show ¬((c.toNat:Int)=13) by omega,show ¬((c.toNat:Int)=9) by omega,if_false];rw[if_neg (by omega)]
theorem qFg {r:Int} (h0:0≤r) (h1:r≤127):encodeRune r=[r.toNat.toUInt8]:=by
 unfold encodeRune;rw[encodeRuneZ_one h0 h1];rfl
theorem qRq {r:Int} (h:qB9 r=true) (h1:128≤r):∀c∈encodeRune r,128≤c.toNat:=by
 rw[qA5] at h
 have key:∀x:Int,x∈encodeRuneZ r→128≤x:=by
  intro x hx
  by_cases c1:r≤2047
  · rw[encodeRuneZ_two (by omega) c1] at hx;simp at hx;omega
  by_cases c2:r≤65535
  · rw[encodeRuneZ_three (by omega)] at hx;simp at hx;omega
  · rw[encodeRuneZ_four (by omega) (by omega)] at hx;simp at hx;omega
 intro c hc
 unfold encodeRune at hc;rw[List.mem_map] at hc;obtain⟨x,hx,rfl⟩:=hc;have:=key x hx;have:=encodeRuneZ_byte r x hx;rw[qA0 (by omega) (by omega)];omega
theorem qUb:∀l:Bs,(∀c∈l,128≤c.toNat)→l.flatMap qb=l:=by
 intro l h
 induction l with
 |nil=>rfl
 |cons a t ih=>rw[List.flatMap_cons,qZz a (h a (by simp)),ih (fun c hc=>h c (by simp[hc]))];rfl
theorem qL6 {r:Int} (h0:0≤r) (h1:r≤127):((r.toNat.toUInt8).toNat:Int)=r:=qL0 h0 (by omega)
theorem zC3 {r x:Int} (h:qB9 r=true) (hx:esc2 r=some x):(encodeRune r).flatMap qb=[92,x.toNat.toUInt8]:=by
 have hr:0≤r∧r≤127:=by
  rw[qA5] at h;unfold esc2 at hx
  repeat' split at hx
  all_goals first|omega|(cases hx)
 rw[qFg hr.1 hr.2];simp only[List.flatMap_cons,List.flatMap_nil,List.append_nil,qb];rw[qL6 hr.1 hr.2,hx]
theorem zDb {r:Int} (h0:0≤r) (hx:esc2 r=none) (h1:r<32):(encodeRune r).flatMap qb=[92,117,48,48,hexd (r.toNat/16),hexd (r.toNat%16)]:=by
 rw[qFg h0 (by omega)];simp only[List.flatMap_cons,List.flatMap_nil,List.append_nil,qb];rw[qL6 h0 (by omega),hx]
 have e:(r.toNat.toUInt8).toNat=r.toNat:=by have:=qL6 h0 (by omega:r≤127);omega
 simp only[e];rw[if_pos (by omega)]
theorem qZk {r:Int} (h:qB9 r=true) (hx:esc2 r=none) (h1:¬r<32):(encodeRune r).flatMap qb=encodeRune r:=by
 by_cases c:r≤127
 · rw[qFg (by omega) c];simp only[List.flatMap_cons,List.flatMap_nil,List.append_nil,qb];rw[qL6 (by omega) c,hx]
   have e:(r.toNat.toUInt8).toNat=r.toNat:=by have:=qL6 (by omega:0≤r) c;omega
   simp only[e];rw[if_neg (by omega)]
 · exact qUb _ (qRq h (by omega))
end Go.Ms
