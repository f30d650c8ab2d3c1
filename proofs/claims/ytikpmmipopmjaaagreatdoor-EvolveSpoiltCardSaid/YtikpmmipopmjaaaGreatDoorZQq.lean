/- Lists in memory, copied; cells of one's own, written. -/
import Derived.Test.YtikpmmipopmjaaaGreatDoorZQn
import Derived.Test.YtikpmmipopmjaaaGreatDoorZQp
set_option linter.unusedVariables false
namespace Go.Ms
open Go.RowKit Go.Lib
def Ext (w:World) (B:Nat) (A:Option Addr) (xs:List Value):Prop:= ∀j u,xs[j]?=some u→∃a,A=some a∧a.block<B∧w.cell? (a.add j)=some u
theorem qOw (a:Addr) (n:Nat):(a.add n).block=a.block:=by unfold Addr.add;split <;> rfl
theorem Ext.keep {w w':World} {B:Nat} {A:Option Addr} {xs:List Value} (h:Ext w B A xs) (hb:Below B w w'):Ext w' B A xs:=fun j u hu=>by
 obtain⟨a,e,hl,hc⟩:=h j u hu;exact⟨a,e,hl,(hb.cell (by rw[qOw];exact hl)).trans hc⟩
theorem Ext.more {w:World} {B B':Nat} {A:Option Addr} {xs:List Value} (h:Ext w B A xs) (hB:B≤B'):Ext w B' A xs:=fun j u hu=>by
 obtain⟨a,e,hl,hc⟩:=h j u hu;exact⟨a,e,by omega,hc⟩
theorem Ext.take {w:World} {B:Nat} {A:Option Addr} {xs:List Value} (h:Ext w B A xs) (n:Nat):Ext w B A (xs.take n):=fun j u hu=>by
 refine h j u ?_;rw[List.getElem?_take] at hu
 split at hu
 · exact hu
 · cases hu
theorem Lay.ext {w:World} {B:Nat} {A:Option Addr} {xs:List Value} (h:Lay w B A xs):Ext w B A xs:=fun j u hu=>by
 obtain⟨g,o,e,hl,hc⟩:=h j u hu;exact⟨_,e,hl,by rw[Addr.add_lit];exact hc⟩
theorem Ext.none_len {w:World} {B:Nat} {xs:List Value} (h:Ext w B none xs):xs=[]:=by
 rcases xs with _|⟨x,t⟩
 · rfl
 · obtain⟨_,e,_⟩:=h 0 x rfl
   cases e
theorem Ext.src {P:Program} {w:World} {B size m c:Nat} {A:Option Addr} {xs:List Value} {tx e:TypeId} (h:Ext w B A xs) (hk:P.underlying tx=some (.slice e)) (hl:xs.length=m*size) (hs:0<size) (h1:∀u∈xs,u.oneCell'=true):Src P size tx (.slice A m c) m xs w:=by
 rcases A with _|a
 · have hx:=h.none_len;subst hx
   have h0:m=0:=by
    rcases Nat.eq_zero_or_pos m with h0|h0
    · exact h0
    · have:=Nat.mul_pos h0 hs;simp at hl;omega
   subst h0;exact Src.ofNil w hk c
 · refine Src.ofSlice w hk a m c xs hl (fun j u hu=>?_) h1;obtain⟨a',e,_,hc⟩:=h j u hu
   cases e
   exact hc
theorem qEn {P:Program} {w:World} {ops:Array Oper} {rest:List Oper} {o:Oper} {a:Act} {Q:Exit→Act→World→Prop} (hgd:o.guard=none) (s x:Operand) (t:TypeId)
    (ho:o.op=.call { callee:=.builtin .append,args:=#[s,x],argTypes:=#[t,t] })
    (base:Nat) (e:TypeId) (i:TypeInfo) (z:Value) (size bytes:Nat) (ht:P.underlying t=some (.slice e)) (hi:P.info? e=some i) (hz:i.zero=some z)
    (hsize:i.size=size) (hby:i.bytes=bytes) (hzs:z.cells.size=size) (hsz:0<size)
    (hs:a.eval s=.slice none 0 0) (B:Nat) (A:Option Addr) (m c:Nat) (news:List Value) (hx:a.eval x=.slice A m c) (hl:news.length=m*size) (hnews:Ext w B A news) (h1:∀u∈news,u.oneCell'=true)
    (h63:m≤maxLen) (hbytes:m*bytes≤140737488355328) (hbase:base≤w.heap.size)
    (h:∀v' w',w'.ownsRow base e size v' m news→Below w.heap.size w w'→wpList P ops Q rest (a.put o.dst v') w'):wpList P ops Q (o::rest) a w:=by
 refine wpList_plain hgd fun K' hK'=>?_
 obtain⟨v',w',hr,h2,h3⟩:=qDe (P:=P) w base t t o.type e i z size bytes ht hi hz hsize hby hzs hsz (.slice none 0 0) 0 [] (World.ownsRow_nil w base e size) (.slice A m c) m news (hnews.src ht hl hsz h1) (by omega) (by rw[Nat.zero_add];exact hbytes) hbase;unfold Oper.wp execOp;simp only[ho,resolve,invoke,builtin,Sem.run_bind,Sem.run_pure,Result.andThen_ok,List.map_toArray,List.map_cons,List.map_nil,hs,hx,hr];refine hK' _ _ (h v' w' (by simpa using h2) ((Below.refl _ _).grown h3 (Nat.le_refl _) (fun k hk=>by cases hk)))
end Go.Ms
namespace Go.Proofs.YtikpmmipopmjaaaGreatDoor
open Go.RowKit Go.Ms Go.Lib
theorem qFj:(Tryz.prog.info? 57).map (fun i=>(i.zero,i.size,i.bytes))=some (some (.agg #[.bool false,.int .i64 0,.string ⟨#[]⟩]),3,32):=by kernel_rfl
theorem qGz:(Tryz.prog.info? 3).map (fun i=>(i.zero,i.size,i.bytes))=some (some (.int .i64 0),1,8):=by kernel_rfl
theorem qU3 (w:World) (b i:Nat) (u:Value):w.grownBy (w.setCell ⟨b,i,none⟩ u) (some b):=
  ⟨rfl,rfl,rfl,by simp[World.setCell],fun k _ hk=>Below.heap_setCell w ⟨b,i,none⟩ u k (fun e=>hk (by rw[e]))⟩
theorem qGm {w:World} {B size n b i:Nat} {e:TypeId} {v:Value} {xs:List Value} (h:w.ownsRow B e size v n xs) (hb:b<B) (u:Value):(w.setCell ⟨b,i,none⟩ u).ownsRow B e size v n xs:=
  World.ownsRow.kept h (qU3 w b i u) (.inr (fun e=>by have:=(World.ownsRow.lt h b e).1;omega))
theorem qZj {w:World} {b:Nat} {x y z:Value} {T:TypeId} (h:w.heap[b]?=some (.cells #[x,y,z] T (0,0))) (p q r:Value):(((w.setCell ⟨b,0,none⟩ p).setCell ⟨b,1,none⟩ q).setCell ⟨b,2,none⟩ r).heap[b]?=some (.cells #[p,q,r] T (0,0)):=by
 simp[World.setCell,Array.getElem?_modify,h]
theorem qDm:(Tryz.prog.info? 59).map (fun i=>(i.zero,i.size,i.bytes))=some (some (.agg #[.int .i64 0,.string ⟨#[]⟩,.int .i64 0,.bool false,.bool false,.int .i64 0,.string ⟨#[]⟩]),7,72):=by kernel_rfl
set_option maxRecDepth 100000 in
theorem qF3 (w:World) (A:Option Addr) (n cap:Nat) (xs:List Value) (hn':n≤100000) (hn:xs.length=n*7) (hA:Ext w w.heap.size A xs) (h1:∀u∈xs,u.oneCell'=true) :
    Calls Tryz.prog 36 #[.slice A n cap] w fun e w'=> ∃v,e=.returned v∧w'.ownsRow w.heap.size 59 7 v n xs∧Below w.heap.size w w':=by
 obtain⟨i0,hi,hz0,hz1,hz2⟩:=info_parts qDm
 have HA:=Lib.hid hA;have HN:=Lib.hid hn;have H1:=Lib.hid h1
 clear hA hn h1
 go_enter Tryz.func36,Tryz.ntmps36
 go_wp2_with (at_builtin;refine qEn rfl (.tmp 4) (.tmp 5) _ rfl w.heap.size 59 i0 _ 7 72 Tryz.underlying22 hi hz0 hz1 hz2 rfl (by omega) rfl w.heap.size A n cap xs rfl HN.out HA.out H1.out (by unfold maxLen;omega) (by omega) (Nat.le_refl _) ?_;intro v1 w1 hown1 hb1)
 have HO:=Lib.hid hown1;have HB:=Lib.hid hb1
 clear hown1 hb1
 go_wp2_with fail
 go_ret
 exact⟨_,rfl,HO.out,HB.out⟩
set_option maxRecDepth 100000 in
theorem qJa (w:World) (A:Option Addr) (n cap:Nat) (l:List Int) (hn':n≤100000) (hn:l.length=n) (hA:Ext w w.heap.size A (intV l)) :
    Calls Tryz.prog 37 #[.slice A n cap] w fun e w'=> ∃v,e=.returned v∧OwnI w' w.heap.size 3 v l∧Below w.heap.size w w':=by
 obtain⟨i0,hi,hz0,hz1,hz2⟩:=info_parts qGz
 have HA:=Lib.hid hA;have HN:=Lib.hid hn
 clear hA hn
 go_enter Tryz.func37,Tryz.ntmps37
 go_wp2_with (at_builtin;refine qEn rfl (.tmp 4) (.tmp 5) _ rfl w.heap.size 3 i0 _ 1 8 Tryz.underlying23 hi hz0 hz1 hz2 rfl (by omega) rfl w.heap.size A n cap (intV l) rfl (by unfold intV;rw[List.length_map,HN.out,Nat.mul_one]) HA.out (qGx _) (by unfold maxLen;omega) (by omega) (Nat.le_refl _) ?_;intro v1 w1 hown1 hb1)
 have HO:=Lib.hid hown1;have HB:=Lib.hid hb1
 clear hown1 hb1
 go_wp2_with fail
 go_ret
 refine⟨_,rfl,?_,HB.out⟩;unfold OwnI;rw[HN.out];exact HO.out
end Go.Proofs.YtikpmmipopmjaaaGreatDoor
