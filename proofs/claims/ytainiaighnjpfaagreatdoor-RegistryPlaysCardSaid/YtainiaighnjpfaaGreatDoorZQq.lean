/- Rows: lists of one's own, appended to from a list that lies in memory. Lists in memory, copied; cells of one's own, written. -/
import Derived.Test.YtainiaighnjpfaaGreatDoorZQo
set_option maxRecDepth 100000
set_option linter.unusedVariables false
namespace Go.Ms
open Go.RowKit Go.Lib
theorem Lay.src {P:Program} {w:World} {B size m c:Nat} {A:Option Addr} {xs:List Value} {tx e:TypeId} (h:Lay w B A xs) (hk:P.underlying tx=some (.slice e)) (hl:xs.length=m*size) (hs:0<size) (hA:A=none→m=0) (h1:∀u∈xs,u.oneCell'=true):Src P size tx (.slice A m c) m xs w:=by
 rcases A with _|a
 · have h0:=hA rfl;subst h0;have hx:xs=[]:=List.eq_nil_of_length_eq_zero (by simpa using hl);subst hx;exact Src.ofNil w hk c
 · refine Src.ofSlice w hk a m c xs hl (fun j u hu=>?_) h1;obtain⟨g,o,e,_,hc⟩:=h j u hu;cases e;rw[Addr.add_lit];exact hc
theorem Lay.none_len {w:World} {B:Nat} {xs:List Value} (h:Lay w B none xs):xs=[]:=by
 rcases xs with _|⟨x,t⟩
 · rfl
 · obtain⟨_,_,e,_⟩:=h 0 x rfl;cases e
theorem qDa {P:Program} (w:World) (base:Nat) (t ty e:TypeId) (i:TypeInfo) (z:Value) (size bytes:Nat) (ht:P.underlying t=some (.slice e)) (hi:P.info? e=some i) (hz:i.zero=some z)
    (hsize:i.size=size) (hby:i.bytes=bytes) (hzs:z.cells.size=size) (hsz:0<size)
    (v:Value) (n:Nat) (xs:List Value) (hown:w.ownsRow base e size v n xs) (B:Nat) (A:Option Addr) (m c:Nat) (news:List Value) (hl:news.length=m*size) (hnews:Lay w B A news) (h1:∀u∈news,u.oneCell'=true)
    (h63:n+m≤maxLen) (hbytes:(n+m)*bytes≤140737488355328) (hbase:base≤w.heap.size) :
    ∃v' w',(Builtin.append_ #[t,t] ty #[v,.slice A m c]).run P w=.ok v' w'∧w'.ownsRow base e size v' (n+m) (xs++news)∧w.grownBy w' v.ownBlock:=by
 have hA:A=none→m=0:=fun h=>by
  subst h;have:=hnews.none_len;subst this;rcases Nat.eq_zero_or_pos m with h0|h0
  · exact h0
  · have:=Nat.mul_pos h0 hsz;simp at hl;omega
 exact qCu (P:=P) w base t t ty e i z size bytes ht hi hz hsize hby hzs hsz v n xs hown (.slice A m c) m news (hnews.src ht hl hsz hA h1) h63 hbytes hbase
theorem qAi {P:Program} {w:World} {ops:Array Oper} {rest:List Oper} {o:Oper} {a:Act} {Q:Exit→Act→World→Prop} (hgd:o.guard=none) (s x:Operand) (t:TypeId)
    (ho:o.op=.call { callee:=.builtin .append,args:=#[s,x],argTypes:=#[t,t] })
    (base:Nat) (e:TypeId) (i:TypeInfo) (z:Value) (size bytes:Nat) (ht:P.underlying t=some (.slice e)) (hi:P.info? e=some i) (hz:i.zero=some z)
    (hsize:i.size=size) (hby:i.bytes=bytes) (hzs:z.cells.size=size) (hsz:0<size)
    (v:Value) (n:Nat) (xs:List Value) (hs:a.eval s=v) (hown:w.ownsRow base e size v n xs) (B:Nat) (A:Option Addr) (m c:Nat) (news:List Value) (hx:a.eval x=.slice A m c) (hl:news.length=m*size) (hnews:Lay w B A news) (h1:∀u∈news,u.oneCell'=true)
    (h63:n+m≤maxLen) (hbytes:(n+m)*bytes≤140737488355328) (hbase:base≤w.heap.size)
    (h:∀v' w',w'.ownsRow base e size v' (n+m) (xs++news)→w.grownBy w' v.ownBlock→wpList P ops Q rest (a.put o.dst v') w'):wpList P ops Q (o::rest) a w:=by
 refine wpList_plain hgd fun K' hK'=>?_
 obtain⟨v',w',hr,h2,h3⟩:=qDa (P:=P) w base t o.type e i z size bytes ht hi hz hsize hby hzs hsz v n xs hown B A m c news hl hnews h1 h63 hbytes hbase;unfold Oper.wp execOp;simp only[ho,resolve,invoke,builtin,Sem.run_bind,Sem.run_pure,Result.andThen_ok,List.map_toArray,List.map_cons,List.map_nil,hs,hx,hr];exact hK' _ _ (h v' w' h2 h3)
theorem qI4 {P:Program} {w:World} {ops:Array Oper} {o:Oper} {a:Act} {K:Act→World→Prop} {Q:Exit→Act→World→Prop} {E:Prop} (hgd:o.guard=none) (s x:Operand) (t:TypeId)
    (ho:o.op=.call { callee:=.builtin .append,args:=#[s,x],argTypes:=#[t,t] })
    (base:Nat) (e:TypeId) (i:TypeInfo) (z:Value) (size bytes:Nat) (ht:P.underlying t=some (.slice e)) (hi:P.info? e=some i) (hz:i.zero=some z)
    (hsize:i.size=size) (hby:i.bytes=bytes) (hzs:z.cells.size=size) (hsz:0<size)
    (v:Value) (n:Nat) (xs:List Value) (hs:a.eval s=v) (hown:w.ownsRow base e size v n xs) (B:Nat) (A:Option Addr) (m c:Nat) (news:List Value) (hx:a.eval x=.slice A m c) (hl:news.length=m*size) (hnews:Lay w B A news) (h1:∀u∈news,u.oneCell'=true)
    (h63:n+m≤maxLen) (hbytes:(n+m)*bytes≤140737488355328) (hbase:base≤w.heap.size)
    (h:∀v' w',w'.ownsRow base e size v' (n+m) (xs++news)→w.grownBy w' v.ownBlock→K (a.put o.dst v') w') :
    if Region.wanted o (yielded ops a.tmps)=true then Oper.wp P o a w K Q else E:=by
 have hw:Region.wanted o (yielded ops a.tmps)=true:=by simp[Region.wanted,hgd]
 rw[if_pos hw];obtain⟨v',w',hr,h2,h3⟩:=qDa (P:=P) w base t o.type e i z size bytes ht hi hz hsize hby hzs hsz v n xs hown B A m c news hl hnews h1 h63 hbytes hbase;unfold Oper.wp execOp;simp only[ho,resolve,invoke,builtin,Sem.run_bind,Sem.run_pure,Result.andThen_ok,List.map_toArray,List.map_cons,List.map_nil,hs,hx,hr];exact h v' w' h2 h3
theorem qBs (w:World) (vs:List Value) (e:TypeId):Lay (w.alloc (.cells vs.toArray e)) (w.alloc (.cells vs.toArray e)).heap.size (some ⟨w.heap.size,0,none⟩) vs:=fun j u hu=>by
 refine⟨_,_,rfl,by simp,?_⟩;rw[Lib.cell_of_heap (heap_alloc_new w _)]
 simpa using hu
theorem qFw (l:List Cl):∀u∈rowV l,u.oneCell'=true:=by
 intro u hu;obtain⟨c,_,h⟩:=List.mem_flatMap.1 hu;simp only[clV,List.mem_cons,List.not_mem_nil,or_false] at h;rcases h with rfl|rfl|rfl <;> rfl
theorem qFk (l:List Int):∀u∈intV l,u.oneCell'=true:=by
 intro u hu;obtain⟨_,_,rfl⟩:=List.mem_map.1 hu;rfl
def OwnC (w:World) (B:Nat) (e:TypeId) (v:Value) (l:List Cl):Prop:=w.ownsRow B e 3 v l.length (rowV l)
def OwnI (w:World) (B:Nat) (e:TypeId) (v:Value) (l:List Int):Prop:=w.ownsRow B e 1 v l.length (intV l)
theorem qAf {w:World} {base size n:Nat} {e:TypeId} {v:Value} {xs:List Value} (h:w.ownsRow base e size v n xs):∃A c,v=.slice A n c∧n≤c∧c≤maxLen:=by
 rcases h.2 with⟨rfl,rfl⟩|⟨g,cap,cur,rfl,_,_,h1,h2,_⟩
 · exact⟨_,_,rfl,Nat.le_refl _,by unfold maxLen;omega⟩
 · exact⟨_,_,rfl,h1,h2⟩
theorem own_below {w w':World} {base size n:Nat} {e:TypeId} {v:Value} {xs:List Value} (h:w.ownsRow base e size v n xs) (hb:Below w.heap.size w w'):w'.ownsRow base e size v n xs:=
  World.ownsRow.kept h (row:=none) ⟨hb.os,hb.tape,hb.output,hb.size,fun k hk _=>hb.block k hk⟩ (by cases hv:v.ownBlock <;> simp)
theorem qAh {w0 w w':World} {B base size n:Nat} {e:TypeId} {v:Value} {xs:List Value} (h:w.ownsRow base e size v n xs) (hb:Below B w0 w) (hB:B≤w.heap.size) (hBb:B≤base) (hg:w.grownBy w' v.ownBlock):Below B w0 w':=
  hb.grown hg hB (fun k hk=>Nat.le_trans hBb (World.ownsRow.lt h k hk).1)
theorem qAv {w:World} {base base' size n:Nat} {e:TypeId} {v:Value} {xs:List Value} (h:w.ownsRow base e size v n xs) (hb:base'≤base):w.ownsRow base' e size v n xs:=by
 refine⟨h.1,h.2.imp id ?_⟩;rintro⟨g,cap,cur,h1,h2,h3⟩;exact⟨g,cap,cur,h1,Nat.le_trans hb h2,h3⟩
theorem OwnC.lay {w:World} {B:Nat} {e:TypeId} {A:Option Addr} {n c:Nat} {l:List Cl} (h:OwnC w B e (.slice A n c) l):n=l.length∧Lay w w.heap.size A (rowV l):=by
 unfold OwnC at h
 have hn:n=l.length:=by
  obtain⟨A',c',he,_⟩:=qAf h;injection he
 subst hn;exact⟨rfl,Lay.of_own h le_⟩
theorem OwnI.lay {w:World} {B:Nat} {e:TypeId} {A:Option Addr} {n c:Nat} {l:List Int} (h:OwnI w B e (.slice A n c) l):n=l.length∧Lay w w.heap.size A (intV l):=by
 unfold OwnI at h
 have hn:n=l.length:=by
  obtain⟨A',c',he,_⟩:=qAf h;injection he
 subst hn;exact⟨rfl,Lay.of_own h le_⟩
def Ext (w:World) (B:Nat) (A:Option Addr) (xs:List Value):Prop:= ∀j u,xs[j]?=some u→∃a,A=some a∧a.block<B∧w.cell? (a.add j)=some u
theorem qM5 (a:Addr) (n:Nat):(a.add n).block=a.block:=by unfold Addr.add;split <;> rfl
theorem Ext.keep {w w':World} {B:Nat} {A:Option Addr} {xs:List Value} (h:Ext w B A xs) (hb:Below B w w'):Ext w' B A xs:=fun j u hu=>by
 obtain⟨a,e,hl,hc⟩:=h j u hu;exact⟨a,e,hl,(hb.cell (by rw[qM5];exact hl)).trans hc⟩
theorem Ext.more {w:World} {B B':Nat} {A:Option Addr} {xs:List Value} (h:Ext w B A xs) (hB:B≤B'):Ext w B' A xs:=fun j u hu=>by
 obtain⟨a,e,hl,hc⟩:=h j u hu;exact⟨a,e,by omega,hc⟩
theorem Ext.take {w:World} {B:Nat} {A:Option Addr} {xs:List Value} (h:Ext w B A xs) (n:Nat):Ext w B A (xs.take n):=fun j u hu=>by
 refine h j u ?_;rw[List.getElem?_take] at hu;split at hu
 · exact hu
 · cases hu
theorem Lay.ext {w:World} {B:Nat} {A:Option Addr} {xs:List Value} (h:Lay w B A xs):Ext w B A xs:=fun j u hu=>by
 obtain⟨g,o,e,hl,hc⟩:=h j u hu;exact⟨_,e,hl,by rw[Addr.add_lit];exact hc⟩
theorem Ext.none_len {w:World} {B:Nat} {xs:List Value} (h:Ext w B none xs):xs=[]:=by
 rcases xs with _|⟨x,t⟩
 · rfl
 · obtain⟨_,e,_⟩:=h 0 x rfl;cases e
theorem Ext.src {P:Program} {w:World} {B size m c:Nat} {A:Option Addr} {xs:List Value} {tx e:TypeId} (h:Ext w B A xs) (hk:P.underlying tx=some (.slice e)) (hl:xs.length=m*size) (hs:0<size) (h1:∀u∈xs,u.oneCell'=true):Src P size tx (.slice A m c) m xs w:=by
 rcases A with _|a
 · have hx:=h.none_len;subst hx
   have h0:m=0:=by
    rcases Nat.eq_zero_or_pos m with h0|h0
    · exact h0
    · have:=Nat.mul_pos h0 hs;simp at hl;omega
   subst h0;exact Src.ofNil w hk c
 · refine Src.ofSlice w hk a m c xs hl (fun j u hu=>?_) h1;obtain⟨a',e,_,hc⟩:=h j u hu;cases e;exact hc
theorem qDx {P:Program} {w:World} {ops:Array Oper} {rest:List Oper} {o:Oper} {a:Act} {Q:Exit→Act→World→Prop} (hgd:o.guard=none) (s x:Operand) (t:TypeId)
    (ho:o.op=.call { callee:=.builtin .append,args:=#[s,x],argTypes:=#[t,t] })
    (base:Nat) (e:TypeId) (i:TypeInfo) (z:Value) (size bytes:Nat) (ht:P.underlying t=some (.slice e)) (hi:P.info? e=some i) (hz:i.zero=some z)
    (hsize:i.size=size) (hby:i.bytes=bytes) (hzs:z.cells.size=size) (hsz:0<size)
    (hs:a.eval s=.slice none 0 0) (B:Nat) (A:Option Addr) (m c:Nat) (news:List Value) (hx:a.eval x=.slice A m c) (hl:news.length=m*size) (hnews:Ext w B A news) (h1:∀u∈news,u.oneCell'=true)
    (h63:m≤maxLen) (hbytes:m*bytes≤140737488355328) (hbase:base≤w.heap.size)
    (h:∀v' w',w'.ownsRow base e size v' m news→Below w.heap.size w w'→wpList P ops Q rest (a.put o.dst v') w'):wpList P ops Q (o::rest) a w:=by
 refine wpList_plain hgd fun K' hK'=>?_
 obtain⟨v',w',hr,h2,h3⟩:=qCu (P:=P) w base t t o.type e i z size bytes ht hi hz hsize hby hzs hsz (.slice none 0 0) 0 [] (World.ownsRow_nil w base e size) (.slice A m c) m news (hnews.src ht hl hsz h1) (by omega) (by rw[Nat.zero_add];exact hbytes) hbase;unfold Oper.wp execOp;simp only[ho,resolve,invoke,builtin,Sem.run_bind,Sem.run_pure,Result.andThen_ok,List.map_toArray,List.map_cons,List.map_nil,hs,hx,hr];refine hK' _ _ (h v' w' (by simpa using h2) (br_.grown h3 le_ (fun k hk=>by cases hk)))
end Go.Ms
namespace Go.Proofs.YtainiaighnjpfaaGreatDoor
open Go.RowKit Go.Ms Go.Lib
theorem qG2:(Tryz.prog.info? 43).map (fun i=>(i.zero,i.size,i.bytes))=some (some (.agg #[.bool false,.int .i64 0,.string ⟨#[]⟩]),3,32):=by kernel_rfl
theorem qFq:(Tryz.prog.info? 3).map (fun i=>(i.zero,i.size,i.bytes))=some (some (.int .i64 0),1,8):=by kernel_rfl
theorem qUj (w:World) (b i:Nat) (u:Value):w.grownBy (w.setCell ⟨b,i,none⟩ u) (some b):=
  ⟨rfl,rfl,rfl,by simp[World.setCell],fun k _ hk=>Below.heap_setCell w ⟨b,i,none⟩ u k (fun e=>hk (by rw[e]))⟩
theorem qE4 {w:World} {B size n b i:Nat} {e:TypeId} {v:Value} {xs:List Value} (h:w.ownsRow B e size v n xs) (hb:b<B) (u:Value):(w.setCell ⟨b,i,none⟩ u).ownsRow B e size v n xs:=
  World.ownsRow.kept h (qUj w b i u) (.inr (fun e=>by have:=(World.ownsRow.lt h b e).1;omega))
theorem qZo {w:World} {b:Nat} {x y z:Value} {T:TypeId} (h:w.heap[b]?=some (.cells #[x,y,z] T (0,0))) (p q r:Value):(((w.setCell ⟨b,0,none⟩ p).setCell ⟨b,1,none⟩ q).setCell ⟨b,2,none⟩ r).heap[b]?=some (.cells #[p,q,r] T (0,0)):=by
 simp[World.setCell,Array.getElem?_modify,h]
theorem qEu:(Tryz.prog.info? 45).map (fun i=>(i.zero,i.size,i.bytes))=some (some (.agg #[.int .i64 0,.string ⟨#[]⟩,.int .i64 0,.bool false,.bool false,.int .i64 0,.string ⟨#[]⟩]),7,72):=by kernel_rfl
theorem qIi (w:World) (A:Option Addr) (n cap:Nat) (xs:List Value) (hn':n≤100000) (hn:xs.length=n*7) (hA:Ext w w.heap.size A xs) (h1:∀u∈xs,u.oneCell'=true) :
    Calls Tryz.prog 55 #[.slice A n cap] w fun e w'=> ∃v,e=.returned v∧w'.ownsRow w.heap.size 45 7 v n xs∧Below w.heap.size w w':=by
 obtain⟨i0,hi,hz0,hz1,hz2⟩:=info_parts qEu;have HA:=hh_ hA;have HN:=hh_ hn;have H1:=hh_ h1;clear hA hn h1;go_enter Tryz.func55,Tryz.ntmps55;go_wp2_with (at_builtin;refine qDx rfl (.tmp 4) (.tmp 5) _ rfl w.heap.size 45 i0 _ 7 72 Tryz.underlying30 hi hz0 hz1 hz2 rfl (by omega) rfl w.heap.size A n cap xs rfl HN.out HA.out H1.out (by unfold maxLen;omega) (by omega) le_ ?_;intro v1 w1 hown1 hb1)
 have HO:=hh_ hown1;have HB:=hh_ hb1;clear hown1 hb1;go_wp2_with fail
 go_ret;exact⟨_,rfl,HO.out,HB.out⟩
theorem qIa (w:World) (A:Option Addr) (n cap:Nat) (l:List Int) (hn':n≤100000) (hn:l.length=n) (hA:Ext w w.heap.size A (intV l)) :
    Calls Tryz.prog 56 #[.slice A n cap] w fun e w'=> ∃v,e=.returned v∧OwnI w' w.heap.size 3 v l∧Below w.heap.size w w':=by
 obtain⟨i0,hi,hz0,hz1,hz2⟩:=info_parts qFq;have HA:=hh_ hA;have HN:=hh_ hn;clear hA hn;go_enter Tryz.func56,Tryz.ntmps56;go_wp2_with (at_builtin;refine qDx rfl (.tmp 4) (.tmp 5) _ rfl w.heap.size 3 i0 _ 1 8 Tryz.underlying31 hi hz0 hz1 hz2 rfl (by omega) rfl w.heap.size A n cap (intV l) rfl (by unfold intV;rw[List.length_map,HN.out,Nat.mul_one]) HA.out (qFk _) (by unfold maxLen;omega) (by omega) le_ ?_;intro v1 w1 hown1 hb1)
 have HO:=hh_ hown1;have HB:=hh_ hb1;clear hown1 hb1;go_wp2_with fail
 go_ret;refine⟨_,rfl,?_,HB.out⟩;unfold OwnI;rw[HN.out];exact HO.out
end Go.Proofs.YtainiaighnjpfaaGreatDoor
