/- Registries: New, look, find, Last, Get, Chain, Move. Registries: New, Get, Chain, Subjects. Registries: Get, Chain, Subjects. Registries: Chain. Registries: what Add's inner function needs. -/
import Derived.Test.YtainiaighnjpfaaGreatDoorZQc
import Derived.Test.YtainiaighnjpfaaGreatDoorZQab
import Derived.Test.YtainiaighnjpfaaGreatDoorZQac
import Derived.Shelf.SlIter.Nil
import Derived.Shelf.SortM.Plain
import Derived.Shelf.SortM.SortNone
import Derived.Sort.KeysCollected
import Derived.Test.YtainiaighnjpfaaGreatDoorZQp
import Derived.Test.YtainiaighnjpfaaGreatDoorZQx
import Derived.Test.YtainiaighnjpfaaGreatDoorZQs
import Derived.Test.YtainiaighnjpfaaGreatDoorZQt
set_option linter.unusedVariables false
set_option linter.unusedSimpArgs false
namespace Go.Ms
open Go.RowKit Go.Lib Go.Maps
section
variable {tS tC tI:TypeId} {v:Value} {rs:List SRef} {ss:List Sc} {w W W':World}
end
end Go.Ms
namespace Go.Proofs.YtainiaighnjpfaaGreatDoor
open Go.RowKit Go.Ms Go.Lib Go.Maps Go.WideMaps
abbrev RgL (g:Nat) (G:Rg) (W:World):Prop:=qKu Tryz.prog 9 87 71 g G W
abbrev RgA (g sp mb:Nat) (D:DataW Value) (G:Rg) (W:World):Prop:=RgAt Tryz.prog 9 87 71 g sp mb D G W
theorem qEd:Keyed Tryz.prog 9:=string_keyed Tryz.underlying9
theorem qPq (w:World):(zeroValue 36).run Tryz.prog w=.ok (.slice none 0 0) w:=by kernel_rfl
theorem qOl (S:ByteArray) (hs:S.size≤100000):keyOf Tryz.prog 9 (.string S)=some (.string S.data.toList):=keyOf_string_mk Tryz.underlying9 (by unfold maxLen;omega)
theorem qK6 {ops:Array Oper} {rest:List Oper} {o:Oper} {a:Act} {Q:Exit→Act→World→Prop} (w:World) (hg:o.guard=none) (m x:Operand) (hop:o.op=Op.lookup 85 m x true) (mb n:Nat) (D:DataW Value)
    (hm:a.eval m=.map (some mb)) (hown:w.ownsMap Tryz.prog 9 qCj mb n D) (S:ByteArray) (hx:a.eval x=.string S) (hS:S.size≤100000) {v:Value} (hv:D.atKey (.string S.data.toList) (.held (.slice none 0 0))=.held v) {b:Bool} (hb:Maps.has D (.string S.data.toList)=b)
    (hK:wpList Tryz.prog ops Q rest (a.put o.dst (.tuple #[v,.bool b])) w):wpList Tryz.prog ops Q (o::rest) a w:=
  wpList_lookup_own_ok w hg m x _ hop 9 36 qEd Tryz.underlying85 qCj (qPq w) (.held (.slice none 0 0)) [] rfl mb n D hm hown _ _ hx (qOl S hS) (fun v' ps hv'=>by
   unfold qCj at hv';rw[hv] at hv';simp only[Option.some.injEq,Prod.mk.injEq,DataW.held.injEq] at hv';rw[hv'.1,hb]
   exact hK)
theorem qMy (g sp mb:Nat) (w:World) (hg:w.heap[g]?=some (.cells #[.pointer (some ⟨sp,0,none⟩)] 71 (0,0))) (hs:w.heap[sp]?=some (.cells #[.map (some mb)] 87 (0,0))) :
    Calls Tryz.prog 79 #[.pointer (some ⟨g,0,none⟩)] w fun e w'=>e=.returned (.pointer (some ⟨sp,0,none⟩))∧w'=w:=by
 have hl:=qIc (P:=Tryz.prog) Tryz.func108 (by kernel_rfl) (by kernel_rfl) (by kernel_rfl) (by kernel_rfl) (cell_of_block (i:=0) hg rfl);have hcv:=qDs (P:=Tryz.prog) (src:=67) (dst:=63) Tryz.underlying67 Tryz.underlying63 hs Nat.zero_lt_one (by kernel_rfl) (by kernel_rfl);clear hg hs
 go_enter Tryz.func79,Tryz.ntmps79
 go_wp2_with fail
 go_ret
 exact⟨rfl,rfl⟩
theorem qEi (g sp mb:Nat) (D:DataW Value) (G:Rg) (w:World) (h:RgA g sp mb D G w) :
    Calls Tryz.prog 37 #[.pointer (some ⟨g,0,none⟩)] w fun e w'=>e=.returned (.pointer (some ⟨sp,0,none⟩))∧w'=w:=by
 have hl:=qMy g sp mb w h.box h.snap;have HL:=Lib.hid hl;clear hl h
 go_enter Tryz.func37,Tryz.ntmps37
 go_wp2_with fail
 refine HL.out.mono ?_;rintro e w' ⟨rfl,hw⟩;rw[hw];clear hw
 go_wp2_with fail
 go_ret
 exact⟨rfl,rfl⟩
def qTv (w:World) (n:Nat) (E:Int) (ss:List Sc) (e:Ending) (w':World):Prop:=(∃A c rs,e=.returned (.tuple #[.slice A n c,.int .i64 E])∧qBl w w.heap.size A rs ss)∧w'=w
theorem qF5 (g:Nat) (G:Rg) (S:ByteArray) (w:World) (hS:S.size≤100000) (h:RgL g G w) :
    Calls Tryz.prog 43 #[.pointer (some ⟨g,0,none⟩),.string S] w (qTv w (rgAt G S.data.toList).length (if (qAq G S.data.toList).isSome=true then 0 else 130) (rgAt G S.data.toList)):=by
 obtain⟨sp,mb,D,ha⟩:=h;have hl:=qEi g sp mb D G w ha;have c0:=cell_of_block (i:=0) ha.snap rfl
 have HL:=Lib.hid hl;have HA:=Lib.hid ha;have HZ:=Lib.hid hS
 clear hl ha hS
 cases hk:qAq G S.data.toList with
 |none=>
  have hv:=HA.out.inn.no _ hk
  have hb:Maps.has D (.string S.data.toList)=false:=by rw[HA.out.inn.has,hk];rfl
  have hat:rgAt G S.data.toList=[]:=by unfold rgAt;rw[hk];rfl
  rw[hat]
  have HV:=Lib.hid hv;have HB:=Lib.hid hb
  clear hv hb hat hk
  go_enter Tryz.func43,Tryz.ntmps43
  go_wp2_with fail
  refine HL.out.mono ?_;rintro e w' ⟨rfl,hw⟩;rw[hw];clear hw
  go_wp2_with (at_lookup;refine qK6 w rfl _ _ rfl mb _ D rfl HA.out.map S rfl HZ.out HV.out HB.out ?_)
  go_ret2
  exact⟨⟨none,0,[],rfl,⟨rfl,fun j u hu=>by simp[scsV] at hu,fun i r s h=>by simp at h⟩⟩,rfl⟩
 |some l=>
  obtain⟨A,c,rs,hv,hl⟩:=HA.out.inn.at_ _ _ hk
  have hb:Maps.has D (.string S.data.toList)=true:=by rw[HA.out.inn.has,hk];rfl
  have hat:rgAt G S.data.toList=l:=by unfold rgAt;rw[hk];rfl
  rw[hat]
  have HV:=Lib.hid hv;have HB:=Lib.hid hb;have HY:=Lib.hid hl
  clear hv hb hat hk hl
  go_enter Tryz.func43,Tryz.ntmps43
  go_wp2_with fail
  refine HL.out.mono ?_;rintro e w' ⟨rfl,hw⟩;rw[hw];clear hw
  go_wp2_with (at_lookup;refine qK6 w rfl _ _ rfl mb _ D rfl HA.out.map S rfl HZ.out HV.out HB.out ?_)
  go_ret2
  exact⟨⟨A,c,rs,rfl,HY.out⟩,rfl⟩
theorem qBq (g:Nat) (G:Rg) (S:ByteArray) (w:World) (hS:S.size≤100000) (h:RgL g G w) :
    Calls Tryz.prog 21 #[.pointer (some ⟨g,0,none⟩),.string S] w fun e w'=>e=.returned (.int .i64 (rgAt G S.data.toList).length)∧w'=w:=by
 have hf:=qF5 g G S w hS h;have HF:=Lib.hid hf;clear hf hS h
 generalize (if (qAq G S.data.toList).isSome=true then (0:Int) else 130)=E at HF
 go_enter Tryz.func21,Tryz.ntmps21
 go_wp2_with fail
 refine HF.out.mono ?_;rintro e w' ⟨⟨A,c,rs,rfl,-⟩,hw⟩;rw[hw];clear hw
 go_wp2_with fail
 go_ret
 exact⟨rfl,rfl⟩
set_option maxRecDepth 100000 in
set_option maxHeartbeats 1000000 in
theorem qIq (g:Nat) (G:Rg) (S:ByteArray) (f t:Int) (C:Option Addr) (q qcap:Nat) (r:List Cl) (w:World) (hS:S.size≤100000) (h:RgL g G w) (hz:∀s∈rgAt G S.data.toList,ScSz s.1)
    (hf: -9223372036854775808≤f∧f≤9223372036854775807) (ht: -9223372036854775808≤t∧t≤9223372036854775807) (hr:qKo w C q r) (hE:Env w) :
    Calls Tryz.prog 14 #[.pointer (some ⟨g,0,none⟩),.string S,.int .i64 f,.int .i64 t,.slice C q qcap] w
      (qPs w (if (qAq G S.data.toList).isSome=true then (qCf (rgAt G S.data.toList) f t r).1 else []) (if (qAq G S.data.toList).isSome=true then (qCf (rgAt G S.data.toList) f t r).2 else 130)):=by
 have hfi:=qF5 g G S w hS h
 have hlen:(rgAt G S.data.toList).length≤64:=by
  obtain⟨_,_,_,ha⟩:=h
  by_cases e:rgAt G S.data.toList=[]
  · rw[e];exact Nat.zero_le _
  · exact ha.ok.few _ (qGy e)
 have hcar:=fun (A:Option Addr) (c:Nat) (rs:List SRef) (hl:qBl w w.heap.size A rs (rgAt G S.data.toList))=>qPx w A (rgAt G S.data.toList).length c rs (rgAt G S.data.toList) f t C q qcap r (by omega) hl.len.symm hl hz hf ht hr hE
 cases hk:(qAq G S.data.toList).isSome with
 |false=>
  rw[hk] at hfi;simp only[Bool.false_eq_true,if_false] at hfi ⊢;have HF:=Lib.hid hfi;clear hfi hcar h hr hE hz hk hlen hf ht hS
  go_enter Tryz.func14,Tryz.ntmps14
  go_wp2_with fail
  refine HF.out.mono ?_;rintro e w' ⟨⟨A,c,rs,rfl,-⟩,hw⟩;rw[hw];clear hw
  go_wp2_with fail
  go_ret2
  exact⟨_,rfl,World.ownsRow_nil _ _ _ _,Below.refl _ _⟩
 |true=>
  rw[hk] at hfi;simp only[if_true] at hfi ⊢
  have HF:=Lib.hid hfi;have HC:=Lib.hid hcar
  clear hfi hcar h hr hE hz hk hlen hf ht hS
  generalize (rgAt G S.data.toList).length=n at HF HC
  go_enter Tryz.func14,Tryz.ntmps14
  go_wp2_with fail
  refine HF.out.mono ?_;rintro e w' ⟨⟨A,c,rs,rfl,hl⟩,hw⟩;rw[hw];clear hw;have HL:=Lib.hid hl;clear hl
  go_wp2_with fail
  refine(HC.out A c rs HL.out).mono ?_;rintro e w1 ⟨v,rfl,ho,hb⟩
  have HO:=Lib.hid ho;have HB:=Lib.hid hb
  clear ho hb
  go_wp2_with fail
  go_ret2
  exact⟨v,rfl,HO.out,HB.out⟩
end Go.Proofs.YtainiaighnjpfaaGreatDoor
set_option linter.unusedSimpArgs false
namespace Go.Ms
open Go.RowKit Go.Lib Go.Maps
def qHj (G:Rg) (x:Bs) (v:Int):Sc×Int:=match qAq G x with
 |none=>(([],[]),130)
 |some l=>if v<1∨(l.length:Int)<v then (([],[]),131) else (l.getD (v-1).toNat zSc,0)
theorem qVx {W:World} {B1 B2:Nat} {eC eI:TypeId} {r:SRef} {s:Sc} (h1:qEq W B1 eC (.slice r.a r.n r.c) s.1) (h2:OwnI W B2 eI (.slice r.b r.m r.d) s.2) (hN:r.n=s.1.length) (hM:r.m=s.2.length) (n1:r.n≤100000) (n2:r.m≤100000):ScT eC eI W r s:=by
 unfold qEq at h1;unfold OwnI at h2;rw[←hN] at h1;rw[←hM] at h2;exact⟨⟨hN,hM,n1,n2,Lay.of_own h1 (Nat.le_refl _),Lay.of_own h2 (Nat.le_refl _)⟩,TyAt.own h1,TyAt.own h2⟩
theorem qR6 {D:DataW Value} {G:Rg} {W:World} {ss:List Bs} (ht:Tidy D) (hk:∀es,D=.map es→∀p∈es,∃x,p.1=.string x) (h:RgIn W D G) (up:G.Pairwise (fun p q=>p.1<q.1)) (hp:ss.Perm (strKeys D)) :
    ss.mergeSort (fun x y=>decide (x≤y))=G.map Prod.fst:=by
 obtain⟨es,rfl,hnd⟩:=ht;have hup:(G.map Prod.fst).Pairwise (· < ·):=List.pairwise_map.2 up;have hndG:(G.map Prod.fst).Nodup:=List.Pairwise.imp (fun {a b} (h:a<b) (e:a=b)=>List.lt_irrefl b (by rw[e] at h;exact h)) hup
 have hmem:∀x:Bs,Maps.has (.map es) (.string x)=true↔x∈G.map Prod.fst:=fun x=>by
  rw[h.has x]
  cases hl:qAq G x with
  |none=>
   have:=qH4.1 hl;simp only[Option.isSome_none,Bool.false_eq_true,false_iff]
   intro hx
   obtain⟨p,hp1,hp2⟩:=List.mem_map.1 hx;exact this p hp1 hp2
  |some l=>
   simp only[Option.isSome_some,true_iff];exact List.mem_map.2 ⟨_,qEg hl,rfl⟩
 have h1:(G.map Prod.fst).Perm (strKeys (.map es)):=perm_strKeys hnd (hk es rfl) hndG (fun x=>(hmem x).symm);rw[mergeSort_of_perm (hp.trans h1.symm)];exact List.mergeSort_of_pairwise (hup.imp fun hab=>by simp only[decide_eq_true_eq];exact List.le_of_lt hab)
end Go.Ms
namespace Go.Proofs.YtainiaighnjpfaaGreatDoor
open Go.RowKit Go.Ms Go.Lib Go.Maps Go.WideMaps
theorem qLw (g sp mb:Nat) (q:Option Addr) (w:World) (hg:w.heap[g]?=some (.cells #[.pointer q] 71 (0,0))) (hs:w.heap[sp]?=some (.cells #[.map (some mb)] 87 (0,0))) :
    Calls Tryz.prog 36 #[.pointer (some ⟨g,0,none⟩),.pointer (some ⟨sp,0,none⟩)] w fun e w'=>(∃v,e=.returned v)∧w'=w.setCell ⟨g,0,none⟩ (.pointer (some ⟨sp,0,none⟩)):=by
 have hst:=qHy (P:=Tryz.prog) Tryz.func78 (by kernel_rfl) (by kernel_rfl) (by kernel_rfl) (by kernel_rfl) (y:=some ⟨sp,0,none⟩) (cell_of_block (i:=0) hg rfl) (by simp[World.frozen?,hg]);have hcv:=run_convert_to_unsafe (P:=Tryz.prog) (src:=63) (dst:=67) Tryz.underlying63 Tryz.underlying67 (by kernel_rfl) (cell_of_block (i:=0) hs rfl);clear hg hs
 go_enter Tryz.func36,Tryz.ntmps36
 go_wp2_with fail
 go_end0
 exact⟨⟨_,rfl⟩,rfl⟩
theorem qKl (w:World):Calls Tryz.prog 9 #[] w fun e w'=> ∃g,e=.returned (.pointer (some ⟨g,0,none⟩))∧RgL g [] w'∧Below w.heap.size w w'∧w.heap.size≤g:=by
 have hmm:=@run_makeMap Tryz.prog;obtain⟨Y,hY⟩:∃Y,Y=((w.alloc (.cells #[.pointer none] 71)).alloc (.map #[] 0)).alloc (.cells #[.map (some (w.heap.size+1))] 87):=⟨_,rfl⟩;have hz:(w.alloc (.cells #[.pointer none] 71)).heap.size=w.heap.size+1:=World.size_alloc _ _
 have hz2:((w.alloc (.cells #[.pointer none] 71)).alloc (.map #[] 0)).heap.size=w.heap.size+2:=by rw[World.size_alloc,hz]
 have q0:Y.heap[w.heap.size]?=some (.cells #[.pointer none] 71 (0,0)):=by rw[hY];exact qAd (qAd (qAf w _) _) _
 have q2:Y.heap[w.heap.size+2]?=some (.cells #[.map (some (w.heap.size+1))] 87 (0,0)):=by
  have h:=qAf ((w.alloc (.cells #[.pointer none] 71)).alloc (.map #[] 0)) (.cells #[.map (some (w.heap.size+1))] 87);rw[hz2] at h;rw[hY];exact h
 have hm:Y.ownsMap Tryz.prog 9 qCj (w.heap.size+1) 0 (.map []:DataW Value):=by
  have e:=(World.ownsMap_made (H:=Value) (w.alloc (.cells #[.pointer none] 71)) Tryz.prog 9 qCj).alloc (.cells #[.map (some (w.heap.size+1))] 87);rw[hz] at e;rw[hY];exact e
 have bY:Below w.heap.size w Y:=by rw[hY];exact(((Below.refl _ w).alloc (Nat.le_refl _) _).alloc (by rw[hz];omega) _).alloc (by rw[hz2];omega) _
 have hst:=qLw w.heap.size (w.heap.size+2) (w.heap.size+1) none Y q0 q2
 have HST:=Lib.hid hst;have Q0:=Lib.hid q0;have Q2:=Lib.hid q2;have HM:=Lib.hid hm;have BY:=Lib.hid bY
 clear hst q0 q2 hm bY hz hz2
 go_enter Tryz.func9,Tryz.ntmps9
 go_wp2_with fail
 rw[←hY];clear hY;refine HST.out.mono ?_;rintro e w' ⟨⟨v,rfl⟩,hw⟩
 have hr:RgL w.heap.size [] w':=by
  rw[hw];refine⟨w.heap.size+2,w.heap.size+1,.map [],ms_one_set Q0.out _,qAi Q2.out (by omega) _,HM.out.setCell (by simp) _,RgIn.nil _,qGz⟩
 have hb:Below w.heap.size w w':=by
  rw[hw];exact BY.out.setCell (p:=⟨w.heap.size,0,none⟩) (Nat.le_refl _) _
 clear hw HST Q0 Q2 HM BY
 have HR:=Lib.hid hr;have HB:=Lib.hid hb
 clear hr hb
 go_wp2_with fail
 go_ret
 exact⟨_,rfl,HR.out,HB.out,Nat.le_refl _⟩
theorem qF8 (r:SRef) (s:Sc) (w:World) (h:qCi w w.heap.size r s):Calls Tryz.prog 19 #[.agg #[.slice r.a r.n r.c,.slice r.b r.m r.d]] w fun e w'=>
    ∃r':SRef,e=.returned (.agg #[.slice r'.a r'.n r'.c,.slice r'.b r'.m r'.d])∧Below w.heap.size w w'∧ScT 45 3 w' r' s∧qEq w' w.heap.size 45 (.slice r'.a r'.n r'.c) s.1∧OwnI w' w.heap.size 3 (.slice r'.b r'.m r'.d) s.2:=by
 refine(qM1 w r.a r.b r.n r.c r.m r.d s.1 s.2 h.nn h.mm h.n h.m h.la h.lb).mono ?_;rintro e w' ⟨A',c',B',d',rfl,h1,h2,hb⟩;exact⟨⟨A',r.n,c',B',r.m,d'⟩,rfl,hb,qVx h1 h2 h.n h.m h.nn h.mm,h1,h2⟩
def qUo (w:World) (s:Sc) (E:Int) (e:Ending) (w':World):Prop:= ∃r:SRef,e=.returned (.tuple #[.agg #[.slice r.a r.n r.c,.slice r.b r.m r.d],.int .i64 E])∧Below w.heap.size w w'∧ScT 45 3 w' r s∧qEq w' w.heap.size 45 (.slice r.a r.n r.c) s.1∧OwnI w' w.heap.size 3 (.slice r.b r.m r.d) s.2
theorem qLm (w w':World) (E:Int) (hb:Below w.heap.size w w'):qUo w ([],[]) E (.returned (.tuple #[.agg #[.slice none 0 0,.slice none 0 0],.int .i64 E])) w':=
  ⟨⟨none,0,0,none,0,0⟩,rfl,hb,⟨⟨rfl,rfl,Nat.zero_le _,Nat.zero_le _,fun j u hu=>by simp[colV] at hu,fun j u hu=>by simp[intV] at hu⟩,(fun g o e=>by cases e),(fun g o e=>by cases e)⟩,World.ownsRow_nil _ _ _ _,World.ownsRow_nil _ _ _ _⟩
end Go.Proofs.YtainiaighnjpfaaGreatDoor
set_option linter.unusedSimpArgs false
namespace Go.Proofs.YtainiaighnjpfaaGreatDoor
open Go.RowKit Go.Maps Go.Sort Go.Shelf Go.Proofs
theorem qN2 (m:Nat):AnyZ.SortsIn Tryz.prog Tryz.sorted53_ren Fence.wide m:=
  ⟨fun blk off cap ss W hH hblk hsz=>callsIn_wide.2 (AnyM.slices_Sort_string Tryz.sort92 blk off cap ss W hH hblk hsz),
   fun p cap W=>callsIn_wide.2 (AnyM.slices_Sort_string_none Tryz.sort92 p cap W)⟩
theorem qQh (mb:Option Nat) (W:World):CallsIn Fence.wide 5 Tryz.prog 54 #[.map mb] W fun e w'=>e=.returned (.func (.func 93) #[] #[.pointer (some ⟨W.heap.size,0,none⟩)])∧w'=W.alloc (.cells #[.map mb] 85):=
  AnyZ.keys_in Tryz.keys54 Fence.wide 5 trivial rfl mb W
set_option maxHeartbeats 1000000 in
theorem qLt {H:Type} (b nn:Nat) (D0:DataW H) (R:Value→Option (DataW H×List MemPlace)) (w:World) (hown:w.ownsMap Tryz.prog 9 R b nn D0) (hmax:Maps.size D0≤maxLen) (hbytes:Maps.size D0*16≤140737488355328) :
    CallsIn Fence.wide 5 Tryz.prog 53 #[.func (.func 93) #[] #[.pointer (some ⟨w.heap.size,0,none⟩)]] (w.alloc (.cells #[.map (some b)] 85)) fun e w'=> ∃(v:Value) (ss:List (List UInt8)),e=.returned v∧ss.Perm (strKeys D0)∧
      w'.ownsRow (w.alloc (.cells #[.map (some b)] 85)).heap.size 9 1 v ss.length ((ss.mergeSort (fun x y=>decide (x≤y))).map encStr)∧(v=.slice none 0 0↔ss=[])∧Below (w.alloc (.cells #[.map (some b)] 85)).heap.size (w.alloc (.cells #[.map (some b)] 85)) w':=by
 have hbl:=hown.lt
 have hseq:SeqGives Fence.wide 2 Tryz.prog 93 #[.pointer (some ⟨w.heap.size,0,none⟩)] encStr (fun ss=>ss.Perm (strKeys D0)) (Maps.size D0) (w.alloc (.cells #[.map (some b)] 85)):=
   AnyZ.keys_gives (ρ:=Tryz.keys54_ren) { Tryz.keys54 with } Fence.wide _ trivial rfl (by omega) w.heap.size b nn D0 _ (by simp) (by simp) (by
     obtain⟨es,clock,hb,Ft,hs,hD⟩:=hown
     exact⟨es,clock,(Below.heap_alloc _ _ b hbl).trans hb,Ft,hs,hD⟩)
 exact AnyZ.sorted_in Tryz.sorted53 Fence.wide 5 trivial trivial trivial trivial rfl (by omega) (qN2 _) (enters_of Tryz.func92 (by kernel_rfl) rfl) 93 #[.pointer (some ⟨w.heap.size,0,none⟩)] trivial (enters_of Tryz.func93 (by kernel_rfl) rfl) _ _ hmax hbytes _ hseq
end Go.Proofs.YtainiaighnjpfaaGreatDoor
namespace Go.Ms
open Go.RowKit Go.Lib Go.Maps
end Go.Ms
namespace Go.Proofs.YtainiaighnjpfaaGreatDoor
open Go.RowKit Go.Ms Go.Lib Go.Maps Go.WideMaps
theorem qMz {w:World} {b n:Nat} {D:DataW Value} (h:w.ownsMap Tryz.prog 9 qCj b n D):∀es,D=.map es→∀p∈es,∃x,p.1=.string x:=fun es e p hp=>by
 obtain⟨es',e',hk⟩:=h.keysOf;rw[e'] at e
 obtain rfl:es'=es:=by simpa using e
 obtain⟨v,hv⟩:=hk p hp;obtain⟨x,_,hx,_⟩:=Maps.keyOf_str Tryz.underlying9 hv;exact⟨x,hx⟩
def qVe (w:World) (N:List Bs) (e:Ending) (w':World):Prop:= ∃v,e=.returned v∧w'.ownsRow w.heap.size 9 1 v N.length (N.map encStr)∧Below w.heap.size w w'
set_option maxRecDepth 100000 in
theorem qBj (g:Nat) (G:Rg) (w:World) (h:RgL g G w) :
    Calls Tryz.prog 22 #[.pointer (some ⟨g,0,none⟩)] w (qVe w (G.map Prod.fst)):=by
 obtain⟨sp,mb,D,ha⟩:=h;have hl:=qEi g sp mb D G w ha;have c0:=cell_of_block (i:=0) ha.snap rfl;have hk:=(callsIn_wide (n:=5)).1 (qQh (some mb) w)
 have hz:Maps.size D≤16:=by rw[ha.inn.size];exact ha.ok.len
 have hs:=(callsIn_wide (n:=5)).1 (qLt mb G.length D qCj w ha.map (by unfold maxLen;omega) (by omega))
 have hn:=fun (ss:List Bs) (hp:ss.Perm (strKeys D))=>qR6 (ha.map.tidy qEd) (qMz ha.map) ha.inn ha.ok.up hp
 have HL:=Lib.hid hl;have HK:=Lib.hid hk;have HS:=Lib.hid hs;have HN:=Lib.hid hn
 clear hl hk hs hn hz ha
 go_enter Tryz.func22,Tryz.ntmps22
 go_wp2_with fail
 refine HL.out.mono ?_;rintro e w' ⟨rfl,hw⟩;rw[hw];clear hw
 go_wp2_with fail
 refine HK.out.mono ?_;rintro e w' ⟨rfl,hw⟩;rw[hw];clear hw
 go_wp2_with fail
 refine HS.out.mono ?_;rintro e w2 ⟨v,ss,rfl,hp,ho,-,hb⟩;have e1:=HN.out ss hp
 have e2:ss.length=(G.map Prod.fst).length:=by rw[←e1,List.length_mergeSort]
 have ho2:w2.ownsRow w.heap.size 9 1 v (G.map Prod.fst).length ((G.map Prod.fst).map encStr):=by
  rw[←e2,←e1];exact qB1 ho (by rw[World.size_alloc];omega)
 have hb2:Below w.heap.size w w2:=((Below.refl _ w).alloc (Nat.le_refl _) _).trans (hb.mono (by rw[World.size_alloc];omega))
 have HO:=Lib.hid ho2;have HB:=Lib.hid hb2
 clear ho ho2 hb hb2 hp e1 e2
 go_wp2_with fail
 go_ret
 exact⟨v,rfl,HO.out,HB.out⟩
set_option maxRecDepth 100000 in
set_option maxHeartbeats 1000000 in
theorem qHb (g:Nat) (G:Rg) (S:ByteArray) (v:Int) (w:World) (hS:S.size≤100000) (h:RgL g G w) (hv: -9223372036854775808≤v∧v≤9223372036854775807) :
    Calls Tryz.prog 20 #[.pointer (some ⟨g,0,none⟩),.string S,.int .i64 v] w (qUo w (qHj G S.data.toList v).1 (qHj G S.data.toList v).2):=by
 obtain⟨X,hX⟩:∃X,X=w.alloc (.cells #[.slice none 0 0,.slice none 0 0] 33):=⟨_,rfl⟩
 have bX:Below w.heap.size w X:=by rw[hX];exact(Below.refl _ w).alloc (Nat.le_refl _) _
 have qX:X.heap[w.heap.size]?=some (.cells #[.slice none 0 0,.slice none 0 0] 33 (0,0)):=by rw[hX];exact qAf _ _
 have hf:=qF5 g G S X hS (h.to bX)
 have hlen:(rgAt G S.data.toList).length≤64:=by
  obtain⟨_,_,_,ha⟩:=h
  by_cases e:rgAt G S.data.toList=[]
  · rw[e];exact Nat.zero_le _
  · exact ha.ok.few _ (qGy e)
 have x0:=cell_of_block (i:=0) (v:=.slice none 0 0) qX rfl;have x1:=cell_of_block (i:=1) (v:=.slice none 0 0) qX rfl;have f0:=qAb (i:=0) qX;have f1:=qAb (i:=1) qX;have q3:=qLf qX (.slice none 0 0) (.slice none 0 0);have b3:Below w.heap.size w ((X.setCell ⟨w.heap.size,0,none⟩ (.slice none 0 0)).setCell ⟨w.heap.size,1,none⟩ (.slice none 0 0)):=(bX.setCell (p:=⟨w.heap.size,0,none⟩) (Nat.le_refl _) _).setCell (p:=⟨w.heap.size,1,none⟩) (Nat.le_refl _) _;have z0:=cell_of_block (i:=0) (v:=.slice none 0 0) q3 rfl
 have z1:=cell_of_block (i:=1) (v:=.slice none 0 0) q3 rfl
 have B3:=Lib.hid b3;have BX:=Lib.hid bX;have QX:=Lib.hid qX
 clear b3 bX qX q3 h hS
 cases hk:qAq G S.data.toList with
 |none=>
  have ha:rgAt G S.data.toList=[]:=by unfold rgAt;rw[hk];rfl
  have hg:qHj G S.data.toList v=(([],[]),130):=by unfold qHj;rw[hk]
  rw[hg];rw[hk,ha] at hf;simp only[Option.isSome_none,Bool.false_eq_true,if_false] at hf;have HF:=Lib.hid hf;clear hf hk ha hg hlen
  go_enter Tryz.func20,Tryz.ntmps20
  go_wp2_with fail
  rw[←hX];clear hX;refine HF.out.mono ?_;rintro e w' ⟨⟨A,c,rs,rfl,-⟩,hw⟩;rw[hw];clear hw
  go_wp2_with fail
  refine bodyPost_ret (v:=.tuple #[.agg #[.slice none 0 0,.slice none 0 0],.int .i64 130]) ?_ rfl ?_
  · simp[results,Tryz.results20,Tryz.f20,go_sem,z0,z1]
  exact qLm _ _ _ B3.out
 |some l=>
  have ha:rgAt G S.data.toList=l:=by unfold rgAt;rw[hk];rfl
  rw[hk] at hf;rw[ha] at hf hlen;simp only[Option.isSome_some,if_true] at hf
  by_cases hr:v<1∨(l.length:Int)<v
  · have hg:qHj G S.data.toList v=(([],[]),131):=by unfold qHj;rw[hk];simp only;rw[if_pos hr]
    rw[hg];have HF:=Lib.hid hf;clear hf hk ha hg hlen
    generalize l.length=n at HF hr
    by_cases h1:v<1
    · clear hr
      go_enter Tryz.func20,Tryz.ntmps20
      go_wp2_with fail
      rw[←hX];clear hX;refine HF.out.mono ?_;rintro e w' ⟨⟨A,c,rs,rfl,-⟩,hw⟩;rw[hw];clear hw
      go_wp2_with fail
      refine bodyPost_ret (v:=.tuple #[.agg #[.slice none 0 0,.slice none 0 0],.int .i64 131]) ?_ rfl ?_
      · simp[results,Tryz.results20,Tryz.f20,go_sem,z0,z1]
      exact qLm _ _ _ B3.out
    · have h2:(n:Int)<v:=hr.resolve_left h1;clear hr
      go_enter Tryz.func20,Tryz.ntmps20
      go_wp2_with fail
      rw[←hX];clear hX;refine HF.out.mono ?_;rintro e w' ⟨⟨A,c,rs,rfl,-⟩,hw⟩;rw[hw];clear hw
      go_wp2_with fail
      refine bodyPost_ret (v:=.tuple #[.agg #[.slice none 0 0,.slice none 0 0],.int .i64 131]) ?_ rfl ?_
      · simp[results,Tryz.results20,Tryz.f20,go_sem,z0,z1]
      exact qLm _ _ _ B3.out
  · obtain⟨k,rfl⟩:∃k:Nat,v=(k:Int)+1:=⟨(v-1).toNat,by omega⟩
    have hkl:k<l.length:=by omega
    obtain⟨s,hs⟩:∃s,l[k]?=some s:=⟨_,List.getElem?_eq_getElem hkl⟩
    have hg:qHj G S.data.toList ((k:Int)+1)=(s,0):=by
     unfold qHj;rw[hk]
     simp only
     rw[if_neg hr,show((k:Int)+1-1).toNat=k by omega,List.getD_eq_getElem?_getD,hs];rfl
    rw[hg]
    have HF:=Lib.hid hf;have HS:=Lib.hid hs
    have h1:¬((k:Int)+1<1):=by omega
    have h2:¬((l.length:Int)<(k:Int)+1):=by omega
    have hw1:IntKind.i64.wrap ((k:Int)+1-1)=(k:Int):=by rw[show(k:Int)+1-1=k by omega];exact IntWalk.i64_in _ (by omega)
    have h3:(k:Int)<l.length:=by omega
    clear hf hk ha hg hr z0 z1 B3
    go_enter Tryz.func20,Tryz.ntmps20
    go_wp2_with fail
    rw[←hX];clear hX;refine HF.out.mono ?_;rintro e w' ⟨⟨A,c,rs,rfl,hl⟩,hw⟩;rw[hw];clear hw;obtain⟨r,hr⟩:∃r,rs[k]?=some r:=⟨_,List.getElem?_eq_getElem (by rw[hl.len];exact hkl)⟩;obtain⟨ga,oa,ea,ta⟩:=hl.at_ hr;subst ea;have hone:=hl.each k r s hr HS.out;have y0:=ta.c0;have y1:=ta.c1;have HO:=Lib.hid hone;clear hl ta hone hr
    go_wp2_with fail
    refine(qF8 r s X HO.out).mono ?_;rintro e w2 ⟨r',rfl,hb,ht,o1,o2⟩;have q2:=qAa QX.out hb;have u0:=cell_of_block (i:=0) (v:=.slice none 0 0) q2 rfl;have u1:=cell_of_block (i:=1) (v:=.slice none 0 0) q2 rfl;have g0:=qAb (i:=0) q2;have g1:=qAb (i:=1) q2;have q4:=qLf q2 (.slice r'.a r'.n r'.c) (.slice r'.b r'.m r'.d);have y2:=cell_of_block (i:=0) (v:=.slice r'.a r'.n r'.c) q4 rfl;have y3:=cell_of_block (i:=1) (v:=.slice r'.b r'.m r'.d) q4 rfl
    have b2:Below w.heap.size w ((w2.setCell ⟨w.heap.size,0,none⟩ (.slice r'.a r'.n r'.c)).setCell ⟨w.heap.size,1,none⟩ (.slice r'.b r'.m r'.d)):=((BX.out.trans (hb.mono BX.out.size)).setCell (p:=⟨w.heap.size,0,none⟩) (Nat.le_refl _) _).setCell (p:=⟨w.heap.size,1,none⟩) (Nat.le_refl _) _;have e1:=EffT.set q2 0 (.slice r'.a r'.n r'.c);have e2:=EffT.set (two_set0 q2 (.slice r'.a r'.n r'.c)) 1 (.slice r'.b r'.m r'.d)
    have n1:(45:TypeId)≠33:=by decide
    have n2:(3:TypeId)≠33:=by decide
    have ht2:=(ht.eff e1 n1 n2).eff e2 n1 n2;have hXz:w.heap.size<X.heap.size:=(Array.getElem?_eq_some_iff.1 QX.out).1;have o12:=qB1 (own_set' (own_set' o1 (i:=0) hXz (.slice r'.a r'.n r'.c)) (i:=1) hXz (.slice r'.b r'.m r'.d)) BX.out.size;have o22:=qB1 (own_set' (own_set' o2 (i:=0) hXz (.slice r'.a r'.n r'.c)) (i:=1) hXz (.slice r'.b r'.m r'.d)) BX.out.size
    have B2:=Lib.hid b2;have HT:=Lib.hid ht2;have O1:=Lib.hid o12;have O2:=Lib.hid o22
    clear hb ht o1 o2 q2 q4 b2 e1 e2 ht2 o12 o22 y0 y1 f0 f1 x0 x1
    go_wp2_with fail
    refine bodyPost_ret (v:=.tuple #[.agg #[.slice r'.a r'.n r'.c,.slice r'.b r'.m r'.d],.int .i64 0]) ?_ rfl ?_
    · simp[results,Tryz.results20,Tryz.f20,go_sem,y2,y3]
    exact⟨r',rfl,B2.out,HT.out,O1.out,O2.out⟩
end Go.Proofs.YtainiaighnjpfaaGreatDoor
set_option linter.unusedSimpArgs false
namespace Go.Proofs.YtainiaighnjpfaaGreatDoor
open Go.RowKit Go.Ms Go.Lib Go.Maps Go.WideMaps
end Go.Proofs.YtainiaighnjpfaaGreatDoor
set_option linter.unusedSimpArgs false
namespace Go.Ms
open Go.RowKit Go.Lib Go.Maps
theorem Lay.butM {W W':World} {B:Nat} {A:Option Addr} {xs:List Value} {g:Nat} {es:Array MapEntry} {k:Nat} (h:Lay W B A xs) (hg:W.grownBy W' (some g)) (hq:W.heap[g]?=some (.map es k)):Lay W' B A xs:=by
 intro j u hu
 obtain⟨b,o,e,hlt,hc⟩:=h j u hu;refine⟨b,o,e,hlt,?_⟩
 have hne:b≠g:=by
  rintro rfl
  simp[World.cell?,hq] at hc
 have hb:b<W.heap.size:=by
  unfold World.cell? at hc;simp only at hc
  cases hv:W.heap[b]? with
  |none=>rw[hv] at hc;cases hc
  |some o'=>exact(Array.getElem?_eq_some_iff.1 hv).1
 have hk:W'.heap[b]?=W.heap[b]?:=hg.block b hb (fun e=>hne (by cases e;rfl));unfold World.cell? at hc ⊢;simp only at hc ⊢;rw[hk];exact hc
theorem qBl.butM {W W':World} {A:Option Addr} {rs:List SRef} {ss:List Sc} {g:Nat} {es:Array MapEntry} {k:Nat} (h:qBl W W.heap.size A rs ss) (hg:W.grownBy W' (some g)) (hq:W.heap[g]?=some (.map es k)):qBl W' W'.heap.size A rs ss:=
  ⟨h.len,(h.lay.butM hg hq).more hg.size,fun i r s h1 h2=>⟨(h.each i r s h1 h2).n,(h.each i r s h1 h2).m,(h.each i r s h1 h2).nn,(h.each i r s h1 h2).mm,((h.each i r s h1 h2).la.butM hg hq).more hg.size,((h.each i r s h1 h2).lb.butM hg hq).more hg.size⟩⟩
theorem RgIn.butM {W W':World} {D:DataW Value} {G:Rg} {g:Nat} {es:Array MapEntry} {k:Nat} (h:RgIn W D G) (hg:W.grownBy W' (some g)) (hq:W.heap[g]?=some (.map es k)):RgIn W' D G:=
  ⟨h.size,h.has,h.no,fun x l e=>by obtain⟨A,c,rs,h1,h2⟩:=h.at_ x l e;exact⟨A,c,rs,h1,h2.butM hg hq⟩⟩
def qJc (B:Nat) (e:TypeId) (rs:List SRef) (n:Nat):Value→World→Prop:=fun v w=> ∃A c,v=.slice A n c∧w.ownsRow B e 2 (.slice A n c) n (scsV rs)
theorem qD9 (B:Nat) (e:TypeId) (rs:List SRef) (n:Nat):Go.Rel.Stable (qJc B e rs n):=fun v w w' ⟨A,c,h1,h2⟩ hb=>⟨A,c,h1,own_below h2 hb⟩
def qKz (tC tI:TypeId) (s:Sc):Value→World→Prop:=fun v w=> ∃r:SRef,v=.agg #[.slice r.a r.n r.c,.slice r.b r.m r.d]∧ScT tC tI w r s
theorem qFg (tC tI:TypeId) (s:Sc):Go.Rel.Stable (qKz tC tI s):=fun v w w' ⟨r,h1,h2⟩ hb=>⟨r,h1,h2.to hb⟩
def qQq (tS tC tI:TypeId) (s:Sc):Value→World→Prop:=fun v w=> ∃(g:Nat) (r:SRef),v=.slice (some ⟨g,0,none⟩) 1 1∧w.heap[g]?=some (.cells r.vs.toArray tS (0,0))∧ScT tC tI w r s
theorem qFj (tS tC tI:TypeId) (s:Sc):Go.Rel.Stable (qQq tS tC tI s):=fun v w w' ⟨g,r,h1,h2,h3⟩ hb=>⟨g,r,h1,qAa h2 hb,h3.to hb⟩
theorem qBl.snoc {W:World} {A:Option Addr} {rs:List SRef} {r:SRef} {L:List Sc} {s:Sc} (hl:rs.length=L.length) (hA:Lay W W.heap.size A (scsV (rs++[r]))) (he:∀(i:Nat) r s,rs[i]?=some r→L[i]?=some s→qCi W W.heap.size r s) (hr:qCi W W.heap.size r s):qBl W W.heap.size A (rs++[r]) (L++[s]):=by
 refine⟨by rw[List.length_append,List.length_append,hl];rfl,hA,fun i r' s' h1 h2=>?_⟩
 by_cases hi:i<rs.length
 · rw[List.getElem?_append_left hi] at h1;rw[List.getElem?_append_left (by rw[←hl];exact hi)] at h2;exact he i r' s' h1 h2
 · have h3:=(List.getElem?_eq_some_iff.1 h1).1;rw[List.length_append,List.length_singleton] at h3
   obtain rfl:i=rs.length:=by omega
   rw[List.getElem?_append_right (Nat.le_refl _),Nat.sub_self] at h1;rw[List.getElem?_append_right (by omega),hl,Nat.sub_self] at h2
   cases h1
   cases h2
   exact hr
theorem qUq {cs:List Co} {ks:List Int} (h:scOk cs ks=true):ScSz cs:=fun c hc=>by
 have h1:=(qFf _ _).1 h;obtain⟨j,hj⟩:=List.getElem?_of_mem hc;obtain⟨h2,h3⟩:=h1.co j c hj;have h4:=qGm (k:=c.2.2.1.1) (tn:=c.2.2.1.2) (nu:=c.2.2.2.1) (n:=c.2.2.2.2.1) (s:=c.2.2.2.2.2.data.toList) h3
 have h5:c.2.1.data.toList.length≤32:=by
  unfold isNm at h2;simp only[Bool.and_eq_true,decide_eq_true_eq] at h2;exact h2.1.1.2
 have e1:c.2.1.data.toList.length=c.2.1.size:=by simp
 have e2:c.2.2.2.2.2.data.toList.length=c.2.2.2.2.2.size:=by simp
 omega
theorem qRs {l:List Sc} (h:qAu l=0):∀s∈l,scOk s.1 s.2=true:=by
 unfold qAu at h
 split at h
 · cases h
 · split at h
   · rename_i h2
     intro s hs
     exact List.all_eq_true.1 h2 s hs
   · cases h
theorem qDq {P:Program} {w:World} {o:Oper} {a:Act} {K:Act→World→Prop} {Q:Exit→Act→World→Prop} (s x:Operand) (t:TypeId)
    (ho:o.op=.call { callee:=.builtin .append,args:=#[s,x],argTypes:=#[t,t] })
    (base:Nat) (e:TypeId) (i:TypeInfo) (z:Value) (size bytes:Nat) (ht:P.underlying t=some (.slice e)) (hi:P.info? e=some i) (hz:i.zero=some z)
    (hsize:i.size=size) (hby:i.bytes=bytes) (hzs:z.cells.size=size) (hsz:0<size)
    (v:Value) (n:Nat) (xs:List Value) (hs:a.eval s=v) (hown:w.ownsRow base e size v n xs) (B:Nat) (A:Option Addr) (m c:Nat) (news:List Value) (hx:a.eval x=.slice A m c) (hl:news.length=m*size) (hnews:Lay w B A news) (h1:∀u∈news,u.oneCell'=true)
    (h63:n+m≤maxLen) (hbytes:(n+m)*bytes≤140737488355328) (hbase:base≤w.heap.size)
    (h:∀v' w',w'.ownsRow base e size v' (n+m) (xs++news)→w.grownBy w' v.ownBlock→K (a.put o.dst v') w'):Oper.wp P o a w K Q:=by
 obtain⟨v',w',hr,h2,h3⟩:=qDd (P:=P) w base t o.type e i z size bytes ht hi hz hsize hby hzs hsz v n xs hown B A m c news hl hnews h1 h63 hbytes hbase;unfold Oper.wp execOp;simp only[ho,resolve,invoke,builtin,Sem.run_bind,Sem.run_pure,Result.andThen_ok,List.map_toArray,List.map_cons,List.map_nil,hs,hx,hr];exact h v' w' h2 h3
def qGi (P:Program) (tS tN:TypeId) (W:World) (G G':Rg) (n e:Int) (en:Ending) (w':World):Prop:=Below W.heap.size W w'∧((en=.returned (.tuple #[.pointer none,.int .i64 n,.int .i64 e])∧G'=G)∨
  ∃sp mb D,en=.returned (.tuple #[.pointer (some ⟨sp,0,none⟩),.int .i64 n,.int .i64 e])∧w'.heap[sp]?=some (.cells #[.map (some mb)] tN (0,0))∧w'.ownsMap P tS qCj mb G'.length D∧RgIn w' D G'∧RgOk G')
theorem qGi.same {P:Program} {tS tN:TypeId} {W w':World} {G:Rg} {n e:Int} (hb:Below W.heap.size W w'):qGi P tS tN W G G n e (.returned (.tuple #[.pointer none,.int .i64 n,.int .i64 e])) w':=⟨hb,.inl ⟨rfl,rfl⟩⟩
theorem qEl {G:Rg} {x:Bs} {s:Sc} (h1:isNm x=true) (h2:scOk s.1 s.2=true) (h3:s.2≠[]) :
    ((rgAt G x).getLast?=some s→qBf G x s=(G,((rgAt G x).length:Int),0))∧
    ((rgAt G x).getLast?≠some s→(rgAt G x).length=64∨(qAq G x=none∧G.length=16)→qBf G x s=(G,0,5))∧
    ((rgAt G x).getLast?≠some s→¬((rgAt G x).length=64∨(qAq G x=none∧G.length=16))→qAu (rgAt G x++[s])≠0→qBf G x s=(G,0,120))∧
    ((rgAt G x).getLast?≠some s→¬((rgAt G x).length=64∨(qAq G x=none∧G.length=16))→qAu (rgAt G x++[s])=0→qBf G x s=(qCh G x (rgAt G x++[s]),((rgAt G x).length:Int)+1,0)):=by
 have e1:¬(isNm x=false):=by rw[h1];decide
 have e2:¬(scOk s.1 s.2=false∨s.2=[]):=fun h=>h.elim (fun h=>by rw[h2] at h;cases h) h3
 unfold qBf;rw[if_neg e1,if_neg e2];exact⟨fun h=>if_pos h,fun h k=>by rw[if_neg h,if_pos k],fun h k j=>by rw[if_neg h,if_neg k,if_neg j],fun h k j=>by rw[if_neg h,if_neg k,if_pos j]⟩
end Go.Ms
namespace Go.Proofs.YtainiaighnjpfaaGreatDoor
open Go.RowKit Go.Ms Go.Lib Go.Maps Go.WideMaps Go.Rel
abbrev RgS (W:World) (G G':Rg) (n e:Int):Ending→World→Prop:=qGi Tryz.prog 9 87 W G G' n e
theorem qHr {W:World} {mb n:Nat} {D:DataW Value} (hown:W.ownsMap Tryz.prog 9 qCj mb n D) {S:ByteArray} (hS:S.size≤100000) {v:Value} (hv:D.atKey (.string S.data.toList) (.held (.slice none 0 0))=.held v) {b:Bool} (hb:Maps.has D (.string S.data.toList)=b) :
    (Instr.lookup 85 (.map (some mb)) (.string S) true).run Tryz.prog W=.ok (.tuple #[v,.bool b]) W:=by
 obtain⟨v',ps,hr,hv'⟩:=hown.look_ok (t:=85) (e:=36) qEd Tryz.underlying85 (qPq W) (zd:=.held (.slice none 0 0)) (zp:=[]) rfl (qOl S hS);unfold qCj at hv';rw[hv] at hv';simp only[Option.some.injEq,Prod.mk.injEq,DataW.held.injEq] at hv';rw[←hv'.1,←hb];exact hr
theorem qKt {W W':World} {mb n:Nat} {D:DataW Value} (hown:W.ownsMap Tryz.prog 9 qCj mb n D) (hb:Below W.heap.size W W') (hn:n<maxLen) {S:ByteArray} (hS:S.size≤100000) (v:Value) :
    ∃w',(Instr.mapUpdate 85 (.map (some mb)) (.string S) v).run Tryz.prog W'=.ok () w'∧w'.ownsMap Tryz.prog 9 qCj mb (n+1) (D.put (.string S.data.toList) (.held v))∧W'.grownBy w' (some mb):=
  (hown.kept (row:=none) ⟨hb.os,hb.tape,hb.output,hb.size,fun k hk _=>hb.block k hk⟩ (by simp)).update qEd Tryz.underlying85 hn (qOl S hS) (show qCj v=some (.held v,[]) from rfl)
end Go.Proofs.YtainiaighnjpfaaGreatDoor
