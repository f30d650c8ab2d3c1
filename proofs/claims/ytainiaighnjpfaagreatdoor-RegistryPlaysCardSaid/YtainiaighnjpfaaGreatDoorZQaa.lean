/- Evolve: may a schema follow another one by one step: the package's answer. Rows: a row copied. Evolve: a row of one schema as one of another one: the package's walk. -/
import Derived.Test.YtainiaighnjpfaaGreatDoorZQz
import Derived.Maps.OwnIn
set_option maxRecDepth 100000
set_option linter.unusedVariables false
set_option linter.unusedSimpArgs false
namespace Go.Ms
open Go.RowKit Go.Lib
theorem keys_in {cs:List Co} {ks:List Int} (h:scOk cs ks=true):qJn cs ks:=fun k hk=>by
 obtain⟨i,hi⟩:=List.getElem?_of_mem hk;have:=((qFy cs ks).1 h).kin i k hi;omega
theorem qF0 {cs:List Co} {ks:List Int} {b:Bool} (h:scOk cs ks=b):qAm cs ks=if b=true then 0 else 2:=by unfold qAm;rw[h]
def ScSz (cs:List Co):Prop:= ∀c∈cs,c.2.1.size≤100000∧c.2.2.2.2.2.size≤100000
end Go.Ms
namespace Go.Proofs.YtainiaighnjpfaaGreatDoor
open Go.RowKit Go.Ms Go.Lib Go.Shelf Go.Rel
theorem qB7:Tryz.prog.underlying 39=some (.slice 43):=Tryz.underlying39
theorem qS6 (w:World) (A:Option Addr) (n cap:Nat) (xs:List Cl) (hn':n≤100000) (hn:n=xs.length) (hA:Lay w w.heap.size A (rowV xs)) :
    Calls Tryz.prog 45 #[.slice A n cap] w fun e w'=> ∃v,e=.returned v∧OwnC w' w.heap.size 43 v xs∧Below w.heap.size w w':=by
 obtain⟨i0,hi,hz0,hz1,hz2⟩:=info_parts qG2;rcases A with _|a
 · have h0:=hA.none_len
   have hx:xs=[]:=by
    have:=qIs xs;rw[h0] at this;exact List.eq_nil_of_length_eq_zero (by simp at this;omega)
   subst hx;obtain rfl:n=0:=by simpa using hn
   have he:=fun w=>run_eql_slice_nil (P:=Tryz.prog) w 39 43 none 0 cap 0 0 qB7
   clear hA h0 hn hn';go_enter Tryz.func45,Tryz.ntmps45;go_wp2_with fail
   go_ret;exact⟨_,rfl,World.ownsRow_nil _ _ _ _,Below.refl _ _⟩
 · have he:=fun w=>run_eql_slice_nil (P:=Tryz.prog) w 39 43 (some a) n cap 0 0 qB7
   have HA:=hh_ hA;have HN:=hh_ hn;clear hA hn;go_enter Tryz.func45,Tryz.ntmps45;have hown0:(w.alloc (.cells #[] 43)).ownsRow w.heap.size 43 3 (.slice (some ⟨w.heap.size,0,none⟩) 0 0) 0 []:=World.ownsRow_made w #[] 0 le_ ml_ rfl;have hb0:Below w.heap.size w (w.alloc (.cells #[] 43)):=br_.alloc le_ _;have HO:=hh_ hown0;have HB:=hh_ hb0;clear hown0 hb0;go_wp2_with (at_builtin;refine qAi rfl (.tmp 5) (.tmp 6) _ rfl w.heap.size 43 i0 _ 3 32 qB7 hi hz0 hz1 hz2 rfl (by omega) (.slice (some ⟨w.heap.size,0,none⟩) 0 0) 0 [] rfl HO.out w.heap.size (some a) n cap (rowV xs) rfl (by rw[qIs,HN.out]) (HA.out.below HB.out) (qFw _) ml_ (by omega) HB.out.size ?_;intro v1 w1 hown1 hg1)
   have HO1:=hh_ hown1;have HB1:=hh_ (qAh HO.out HB.out HB.out.size le_ hg1);clear hown1 hg1;go_wp2_with fail
   go_ret;refine⟨_,rfl,?_,HB1.out⟩;unfold OwnC;have:=HO1.out;rw[Nat.zero_add,HN.out] at this;exact this
end Go.Proofs.YtainiaighnjpfaaGreatDoor
namespace Go.Ms
open Go.RowKit Go.Lib Go.Maps
def clA (c:Cl):Value:=.agg #[.bool c.1,.int .i64 c.2.1,.string c.2.2]
def qCx (v:Value):Option (DataW Value×List MemPlace):=some (.held v,[])
structure qKl (D:DataW Value) (f:Int→Option Cl):Prop where
  tidy:Tidy D
  at_:∀id,D.atKey (.int .i64 id) (.held (clA zCl))=.held (clA ((f id).getD zCl))
  has:∀id,Maps.has D (.int .i64 id)=(f id).isSome
theorem qKl.nil:qKl (.map []) (fun _=>none):=⟨tidy_empty,fun id=>rfl,fun id=>rfl⟩
theorem qKl.put {D:DataW Value} {f g:Int→Option Cl} (h:qKl D f) (i:Int) (c:Cl) (hg:∀id,g id=if id=i then some c else f id):qKl (D.put (.int .i64 i) (.held (clA c))) g:=by
 have hk:WideAt.IsKeyLit (.int .i64 i):=trivial;refine⟨h.tidy.put hk _,fun id=>?_,fun id=>?_⟩
 · rw[hg id];by_cases e:id=i
   · rw[if_pos e,e,atKey_put_same h.tidy.isMap hk];rfl
   · rw[if_neg e,atKey_put_other (fun e2=>e (by injection e2)),h.at_ id]
 · rw[hg id];by_cases e:id=i
   · rw[if_pos e,e,has_put_same h.tidy.isMap hk];rfl
   · rw[if_neg e,has_put_other (fun e2=>e (by injection e2)),h.has id]
structure qFg (g o B:Nat) (x0:Bool) (x1:Int) (x2:ByteArray) (W:World):Prop where
  lt:g<B
  c0:W.cell? ⟨g,o,none⟩=some (.bool x0)
  c1:W.cell? ⟨g,o+1,none⟩=some (.int .i64 x1)
  c2:W.cell? ⟨g,o+2,none⟩=some (.string x2)
theorem qFg.below {g o B:Nat} {x0:Bool} {x1:Int} {x2:ByteArray} {W W':World} (h:qFg g o B x0 x1 x2 W) (hb:Below B W W'):qFg g o B x0 x1 x2 W':=
  ⟨h.lt,(hb.cell h.lt).trans h.c0,(hb.cell h.lt).trans h.c1,(hb.cell h.lt).trans h.c2⟩
theorem qFg.more {g o B B':Nat} {x0:Bool} {x1:Int} {x2:ByteArray} {W:World} (h:qFg g o B x0 x1 x2 W) (hb:B≤B'):qFg g o B' x0 x1 x2 W:=⟨Nat.lt_of_lt_of_le h.lt hb,h.c0,h.c1,h.c2⟩
structure MvSt (P:Program) (tS tR tM tI:TypeId) (va vb:Array Value) (n:Nat) (f:Int→Option Cl) (w W:World):Prop where
  ba:W.heap[w.heap.size]?=some (.cells va tS (0,0))
  bb:W.heap[w.heap.size+1]?=some (.cells vb tS (0,0))
  br:W.heap[w.heap.size+2]?=some (.cells #[.slice none 0 0] tR (0,0))
  bm:W.heap[w.heap.size+4]?=some (.cells #[.map (some (w.heap.size+3))] tM (0,0))
  mp:∃D:DataW Value,W.ownsMap P tI qCx (w.heap.size+3) n D∧qKl D f
  bel:Below w.heap.size w W
  sz:w.heap.size+5≤W.heap.size
section
variable {P:Program} {tS tR tM tI:TypeId} {va vb:Array Value} {n:Nat} {f:Int→Option Cl} {w W W':World}
theorem MvSt.step (h:MvSt P tS tR tM tI va vb n f w W) (hb:Below W.heap.size W W'):MvSt P tS tR tM tI va vb n f w W':=by
 obtain⟨D,h1,h2⟩:=h.mp;exact⟨bk_ h.ba hb,bk_ h.bb hb,bk_ h.br hb,bk_ h.bm hb,⟨D,h1.kept (qGi hb) (by simp),h2⟩,h.bel.trans (hb.mono h.bel.size),Nat.le_trans h.sz hb.size⟩
theorem MvSt.upd (h:MvSt P tS tR tM tI va vb n f w W) {g:Int→Option Cl} {D:DataW Value} (hm:W'.ownsMap P tI qCx (w.heap.size+3) (n+1) D) (hd:qKl D g) (hg:W.grownBy W' (some (w.heap.size+3))):MvSt P tS tR tM tI va vb (n+1) g w W':=by
 have hs:=h.sz;have go:∀{k:Nat} {o:Obj},k≠w.heap.size+3→W.heap[k]?=some o→W'.heap[k]?=some o:=fun hk ho=>(hg.block _ (Array.getElem?_eq_some_iff.1 ho).1 (fun e=>hk (by cases e;rfl))).trans ho
 exact⟨go (by omega) h.ba,go (by omega) h.bb,go (by omega) h.br,go (by omega) h.bm,⟨D,hm,hd⟩,h.bel.grown hg h.bel.size (fun k e=>by cases e;omega),Nat.le_trans hs hg.size⟩
theorem MvSt.put (h:MvSt P tS tR tM tI va vb n f w W) {tC:TypeId} (K:Keyed P tI) (ht:P.underlying tM=some (.map tI tC)) (hn:n<maxLen) {i:Int} (hkey:keyOf P tI (.int .i64 i)=some (.int .i64 i)) (x0:Bool) (x1:Int) (x2:ByteArray) {g:Int→Option Cl} (hg:∀id,g id=if id=i then some (x0,x1,x2) else f id) :
    ∃W',(Instr.mapUpdate tM (.map (some (w.heap.size+3))) (.int .i64 i) (.agg #[.bool x0,.int .i64 x1,.string x2])).run P W=.ok () W'∧MvSt P tS tR tM tI va vb (n+1) g w W':=by
 obtain⟨D,h1,h2⟩:=h.mp;have h3:=h1.update K ht hn hkey (show qCx (.agg #[.bool x0,.int .i64 x1,.string x2])=some (.held (clA (x0,x1,x2)),[]) from rfl);obtain⟨W',hrun,hm,hg'⟩:=h3;exact⟨W',hrun,h.upd hm (h2.put i (x0,x1,x2) hg) hg'⟩
end
structure MwSt (P:Program) (tS tR tM tI tC:TypeId) (vb:Array Value) (n:Nat) (f:Int→Option Cl) (Bs B0:Nat) (v:Value) (out:List Cl) (w W:World):Prop where
  br:W.heap[w.heap.size+2]?=some (.cells #[v] tR (0,0))
  bm:W.heap[w.heap.size+4]?=some (.cells #[.map (some (w.heap.size+3))] tM (0,0))
  bi:W.heap[Bs]?=some (.cells vb tS (0,0))
  mp:∃D:DataW Value,W.ownsMap P tI qCx (w.heap.size+3) n D∧qKl D f
  own:OwnC W B0 tC v out
  bel:Below w.heap.size w W
  lo:w.heap.size+5≤Bs∧Bs<B0
  hi:B0≤W.heap.size
section
variable {P:Program} {tS tR tM tI tC:TypeId} {vb:Array Value} {n:Nat} {f:Int→Option Cl} {Bs B0:Nat} {v:Value} {out:List Cl} {w W W':World}
theorem qP3 {W W':World} {B s n:Nat} {e:TypeId} {v:Value} {xs:List Value} {row:Option Nat} (h:W.ownsRow B e s v n xs) (hg:W.grownBy W' row) (hr:∀r,row=some r→∃o:Obj,W.heap[r]?=some o∧o.isCells=false):W'.ownsRow B e s v n xs:=by
 refine World.ownsRow.kept h hg ?_;rcases hv:v.ownBlock with _|k
 · exact .inl rfl
 · refine .inr fun e'=>?_
   obtain⟨o,ho1,ho2⟩:=hr k e'.symm;rcases h.2 with⟨hv',_⟩|⟨g,cap,cur,hv',_,hgb,_⟩
   · rw[hv'] at hv;simp[Value.ownBlock] at hv
   · rw[hv'] at hv;simp[Value.ownBlock] at hv;subst hv;rw[hgb] at ho1;cases ho1;cases ho2
theorem MwSt.grown (h:MwSt P tS tR tM tI tC vb n f Bs B0 v out w W) {row:Option Nat} (hg:W.grownBy W' row) (hr:∀r,row=some r→B0≤r∧∃o:Obj,W.heap[r]?=some o∧o.isCells=false):MwSt P tS tR tM tI tC vb n f Bs B0 v out w W':=by
 have hlo:=h.lo;have hne:∀k:Nat,k<B0→some k≠row:=fun k hk e=>by have:=(hr k e.symm).1;omega
 have go:∀{k:Nat} {o:Obj},k<B0→W.heap[k]?=some o→W'.heap[k]?=some o:=fun hk ho=>(hg.block _ (Array.getElem?_eq_some_iff.1 ho).1 (hne _ hk)).trans ho
 obtain⟨D,h1,h2⟩:=h.mp;exact⟨go (by omega) h.br,go (by omega) h.bm,go (by omega) h.bi,⟨D,h1.kept hg (hne _ (by omega)),h2⟩,qP3 h.own hg (fun r e=>(hr r e).2),h.bel.grown hg h.bel.size (fun k e=>by have:=(hr k e).1;omega),hlo,Nat.le_trans h.hi hg.size⟩
theorem MwSt.step (h:MwSt P tS tR tM tI tC vb n f Bs B0 v out w W) (hb:Below W.heap.size W W'):MwSt P tS tR tM tI tC vb n f Bs B0 v out w W':=
  h.grown (qGi hb) (fun r e=>by cases e)
theorem MwSt.push (h:MwSt P tS tR tM tI tC vb n f Bs B0 v out w W) {v':Value} {x:Cl} (ho:W'.ownsRow B0 tC 3 v' (out.length+1) (rowV out++clV x)) (hg:W.grownBy W' v.ownBlock):MwSt P tS tR tM tI tC vb n f Bs B0 v' (out++[x]) w (W'.setCell ⟨w.heap.size+2,0,none⟩ v'):=by
 have hlo:=h.lo;have hne:∀k:Nat,k<B0→some k≠v.ownBlock:=fun k hk e=>by have:=(World.ownsRow.lt h.own k e.symm).1;omega
 have go:∀{k:Nat} {o:Obj},k<B0→W.heap[k]?=some o→W'.heap[k]?=some o:=fun hk ho=>(hg.block _ (Array.getElem?_eq_some_iff.1 ho).1 (hne _ hk)).trans ho
 obtain⟨D,h1,h2⟩:=h.mp
 have ho2:OwnC W' B0 tC v' (out++[x]):=by
  unfold OwnC;rw[List.length_append,qIq,show rowV [x]=clV x by simp[rowV]];exact ho
 exact⟨ms_one_set (go (by omega) h.br) _,qAj (go (by omega) h.bm) (by omega) _,qAj (go (by omega) h.bi) (by omega) _,⟨D,(h1.kept hg (hne _ (by omega))).kept (qBb W' _ _ _) (by simp),h2⟩,own_set' ho2 (by omega) _,
   (qAh h.own h.bel h.bel.size (by omega) hg).setCell (p:=⟨w.heap.size+2,0,none⟩) (by simp only;omega) _,hlo,by simp only[World.size_setCell];exact Nat.le_trans h.hi hg.size⟩
end
theorem qDk {F:Fence} {nF:Nat} {P:Program} (w:World) {ops:Array Oper} {rest:List Oper} {o:Oper} {a:Act} {Q:Exit→Act→World→Prop} (hg:o.guard=none) (m x:Operand) (t:TypeId) (hop:o.op=Op.lookup t m x true)
    (k e:TypeId) (K:Keyed P k) (ht:P.underlying t=some (.map k e)) (hz:(zeroValue e).run P w=.ok (clA zCl) w) (b n:Nat) (D:DataW Value)
    (hm:a.eval m=.map (some b)) (hown:w.ownsMap P k qCx b n D) (id:Int) (hx:a.eval x=.int .i64 id) (hkey:keyOf P k (.int .i64 id)=some (.int .i64 id)) {f:Int→Option Cl} (hd:qKl D f) {y:Option Cl} (hy:f id=y)
    (hK:wpListIn F nF P ops Q rest (a.put o.dst (.tuple #[clA (y.getD zCl),.bool y.isSome])) w):wpListIn F nF P ops Q (o::rest) a w:=
  wpListIn_lookup_own_ok w hg m x t hop k e K ht qCx hz (.held (clA zCl)) [] rfl b n D hm hown _ _ hx hkey (fun v ps hv=>by
   have h1:=hd.at_ id;unfold qCx at hv;simp only[Option.some.injEq,Prod.mk.injEq] at hv;rw[←hv.1] at h1;simp only[DataW.held.injEq] at h1;subst h1;rw[hd.has id,hy]
   exact hK)
theorem KeepsOthers.of_own {B s n:Nat} {e:TypeId} {v:Value} {xs:List Value} {W W':World} (h:W.ownsRow B e s v n xs) (hg:W.grownBy W' v.ownBlock):KeepsOthers W W':=
  KeepsOthers.of_grownBy hg fun j o hj ho=>by
   rcases h.2 with⟨hv',_⟩|⟨g,cap,cur,hv',_,hgb,_⟩
   · rw[hv'] at hj;simp[Value.ownBlock] at hj
   · rw[hv'] at hj;simp[Value.ownBlock] at hj;subst hj;rw[hgb] at ho;cases ho;rfl
theorem qHq (a:List Co) (r:List Cl) (pre:List Co) (d:Co):qA2 a (pre++[d]) r=qA2 a pre r++[match evAt a d.1 with
    |some k=>r.getD k zCl
    |none=>d.2.2.2]:=by unfold qA2;rw[List.map_append];rfl
end Go.Ms
namespace Go.Proofs.YtainiaighnjpfaaGreatDoor
open Go.RowKit Go.Ms Go.Lib Go.Shelf Go.Rel Go.Maps
attribute [local go_sem] Oper.semAt_some
theorem qMi:Keyed Tryz.prog 3:=int_keyed Tryz.underlying3
theorem qNm (w:World):(zeroValue 43).run Tryz.prog w=.ok (clA zCl) w:=by kernel_rfl
abbrev zBr (va vb:Array Value) (n:Nat) (f:Int→Option Cl) (w W:World):Prop:=MvSt Tryz.prog 33 39 138 3 va vb n f w W
abbrev qZ2 (vb:Array Value) (n:Nat) (f:Int→Option Cl) (Bs B0:Nat) (v:Value) (out:List Cl) (w W:World):Prop:=MwSt Tryz.prog 33 39 138 3 43 vb n f Bs B0 v out w W
set_option maxHeartbeats 4000000 in
theorem qSn (A B:Option Addr) (n cap m capm:Nat) (cs:List Co) (ks:List Int) (A' B':Option Addr) (n' cap' m' capm':Nat) (ds:List Co) (ls:List Int) (C:Option Addr) (q qcap:Nat) (r:List Cl) (w:World)
    (hn:n=cs.length) (hn2:n≤100000) (hA:Lay w w.heap.size A (colV cs)) (hu:qOs cs) (hi:∀c∈cs,1≤c.1∧c.1≤1048576)
    (kn:n'=ds.length) (kn2:n'≤100000) (kA:Lay w w.heap.size A' (colV ds)) (kB:Lay w w.heap.size B' (intV ls)) (ki:∀c∈ds,1≤c.1∧c.1≤1048576)
    (hq:q=r.length) (hC:Lay w w.heap.size C (rowV r)) (hqn:n=q) :
    Calls Tryz.prog 46 #[.agg #[.slice A n cap,.slice B m capm],.agg #[.slice A' n' cap',.slice B' m' capm'],.slice C q qcap] w fun e w'=> ∃v,e=.returned v∧OwnC w' w.heap.size 43 v (qA2 cs ds r)∧Below w.heap.size w w':=by
 have hmm:=@run_makeMap Tryz.prog;obtain⟨ic,ci,cz0,cz1,cz2⟩:=info_parts qG2;have HN:=hh_ hn;have HA:=hh_ hA;have HU:=hh_ hu;have HI:=hh_ hi;have KN:=hh_ kn;have KA:=hh_ kA;have KB:=hh_ kB;have KI:=hh_ ki;have HQ:=hh_ hq;have HC:=hh_ hC;have HQN:=hh_ hqn;clear hn hA hu hi kn kA kB ki hq hC hqn;refine(callsIn_wide (n:=6)).1 ?_;have hdp:Fence.wide.depth.isSome=true→1≤6:=fun h=>absurd h (by decide)
 refine callsIn_of_wp_marks Tryz.func46 rfl trivial ?_ rfl;simp only[Tryz.ntmps46,List.size_toArray,List.length_cons,List.length_nil,Nat.reduceAdd,Nat.reduceSub,Array.replicate_succ,Array.replicate_zero,List.push_toArray,List.append_toArray,List.nil_append,List.cons_append];gi_wp2
 obtain⟨X0,hX0⟩:∃X0,X0=((((w.alloc (.cells #[.slice A n cap,.slice B m capm] 33)).alloc (.cells #[.slice A' n' cap',.slice B' m' capm'] 33)).alloc (.cells #[.slice none 0 0] 39)).alloc (.map #[] 0)).alloc (.cells #[.map (some (w.heap.size+1+1+1))] 138):=⟨_,rfl⟩
 have hst0:zBr #[.slice A n cap,.slice B m capm] #[.slice A' n' cap',.slice B' m' capm'] 0 (qGb cs r 0) w X0:=by
  have at_:=fun (W:World) (o:Obj) (k:Nat) (h:W.heap.size=k)=>(h▸qAd W o:(W.alloc o).heap[k]?=some o)
  refine⟨?_,?_,?_,?_,?_,?_,?_⟩
  · rw[hX0];exact bx_ (bx_ (bx_ (bx_ (qAd _ _) _) _) _) _
  · rw[hX0];exact bx_ (bx_ (bx_ (at_ _ _ _ (by simp only[World.size_alloc])) _) _) _
  · rw[hX0];exact bx_ (bx_ (at_ _ _ _ (by simp only[World.size_alloc])) _) _
  · rw[hX0];exact at_ _ _ _ (by simp only[World.size_alloc])
  · have e:=World.ownsMap_made (H:=Value) (((w.alloc (.cells #[.slice A n cap,.slice B m capm] 33)).alloc (.cells #[.slice A' n' cap',.slice B' m' capm'] 33)).alloc (.cells #[.slice none 0 0] 39)) Tryz.prog 3 qCx;rw[World.size_alloc,World.size_alloc,World.size_alloc] at e;rw[hX0];refine⟨_,e.alloc _,?_⟩;have e0:qGb cs r 0=fun _=>none:=funext fun id=>qWo cs r id
    rw[e0];exact qKl.nil
  · rw[hX0];exact(((((Below.refl _ w).alloc le_ _).alloc (by simp only[World.size_alloc];omega) _).alloc (by simp only[World.size_alloc];omega) _).alloc (by simp only[World.size_alloc];omega) _).alloc (by simp only[World.size_alloc];omega) _
  · rw[hX0];simp only[World.size_alloc];omega
 rw[←hX0];have HST0:=hh_ hst0;clear hX0 hst0;gi_loopw [18] (fun i wr=> ∃k:Nat,i=.int .i64 k∧k≤n∧zBr #[.slice A n cap,.slice B m capm] #[.slice A' n' cap',.slice B' m' capm'] k (qGb cs r k) w wr) (fun i _=>n-(RowKit.intOf i).toNat)
 case atStart=>exact⟨0,rfl,by omega,HST0.out⟩
 case round=>
  obtain⟨k,rfl,hk,hst⟩:=hrel;by_cases hlk:k<n
  · have hki:(k:Int)<n:=by omega
    obtain⟨c,hc⟩:∃c,cs[k]?=some c:=⟨_,List.getElem?_eq_getElem (by rw[←HN.out];exact hlk)⟩;obtain⟨x,hx⟩:∃x,r[k]?=some x:=⟨_,List.getElem?_eq_getElem (by rw[←HQ.out,←HQN.out];exact hlk)⟩;obtain⟨hi1,hi2⟩:=HI.out c (List.mem_of_getElem? hc);have hhad:=qV6 HU.out hc (r:=r);rw[List.getD_eq_getElem?_getD,hx] at hhad;simp only[Option.getD_some] at hhad;obtain⟨g,o,eA,hg,j1,j2,j3,j4,j5,j6,j7⟩:=HA.out.co hc;obtain⟨gr,oo,eC,hgr,r1,r2,r3⟩:=HC.out.cl hx;obtain⟨i0,s0,⟨k0,u0⟩,n0,m0,t0⟩:=c;obtain⟨x0,x1,x2⟩:=x;simp only at j1 j2 j3 j4 j5 j6 j7 r1 r2 r3 hi1 hi2 hhad;subst eA;subst eC;replace j1:=(hst.bel.cell hg).trans j1;replace j2:=(hst.bel.cell hg).trans j2;replace j3:=(hst.bel.cell hg).trans j3;replace j4:=(hst.bel.cell hg).trans j4;replace j5:=(hst.bel.cell hg).trans j5;replace j6:=(hst.bel.cell hg).trans j6;replace j7:=(hst.bel.cell hg).trans j7;have y1:=cb_ 0 hst.ba rfl;have hkey:keyOf Tryz.prog 3 (.int .i64 i0)=some (.int .i64 i0):=keyOf_int_mk Tryz.underlying3 (by go_wf);obtain⟨X1,hX1⟩:∃X1,X1=wr.alloc (.cells #[.int .i64 i0,.string s0,.int .i64 k0,.bool u0,.bool n0,.int .i64 m0,.string t0] 45):=⟨_,rfl⟩;have bX1:Below wr.heap.size wr X1:=by rw[hX1];exact(Below.refl _ wr).alloc le_ _
    have qX1:X1.heap[wr.heap.size]?=some (.cells #[.int .i64 i0,.string s0,.int .i64 k0,.bool u0,.bool n0,.int .i64 m0,.string t0] 45 (0,0)):=by rw[hX1];exact qAd _ _
    have hS1:=hst.step bX1;have hG:=((qFg.mk hgr r1 r2 r3).below hS1.bel).more hS1.bel.size;have hkq:k<q:=by rw[←HQN.out];exact hlk
    have S1:=hh_ hS1;have Q1:=hh_ qX1;have G:=hh_ hG;have HKQ:=hh_ hkq;have HKEY:=hh_ hkey;have HHAD:=hh_ hhad;have BX1:=hh_ bX1;clear hst hS1 qX1 hG hkq hkey hhad r1 r2 r3 hc hx hi1 hi2 hg hgr bX1;gi_wp2
    rw[←hX1];clear hX1;refine wpIn_wide.2 ?_;refine qB4 (l:=[_,_,_,_,_,_,_]) (o:=_) [isV (.map (some (w.heap.size+3))),isV (.pointer (some ⟨wr.heap.size,0,none⟩)),isV (.int .i64 i0),isV (.slice (some ⟨gr,oo,none⟩) q qcap),isV (.int .i64 (k:Nat)),isV (.pointer (some ⟨gr,oo+k*3,none⟩)),isV (.agg #[.bool x0,.int .i64 x1,.string x2])] (by kernel_rfl) (by kernel_rfl) (by kernel_rfl) (by kernel_rfl) rfl ?_ ?_
    ·
      refine rf (fun ev wo E=>?_) ?_
      · have e7:ev (.tmp 7)=.pointer (some ⟨w.heap.size+1+1+1+1,0,none⟩):=(E.base 7 rfl).trans rfl;have hx0:=cb_ 0 (bk_ S1.out.bm E.bel) rfl;go_simp;exact rv
      refine rf (fun ev wo E=>?_) ?_
      · have e9:ev (.tmp 9)=.pointer (some ⟨wr.heap.size,0,none⟩):=(E.base 9 rfl).trans rfl;go_simp;exact rv
      refine rf (fun ev wo E=>?_) ?_
      · have e24:ev (.tmp 24)=.pointer (some ⟨wr.heap.size,0,none⟩):=E.e 0;have hx0:=cb_ 0 (bk_ Q1.out E.bel) rfl;go_simp;exact rv
      refine rb ?_;refine rb ?_;refine rf (fun ev wo E=>?_) ?_
      · have e26:ev (.tmp 26)=.slice (some ⟨gr,oo,none⟩) q qcap:=E.e 0;have e27:ev (.tmp 27)=.int .i64 (k:Nat):=E.e 1;have hk1:=HKQ.out;have hk2:(k:Int)<q:=by omega
        go_simp;exact rv
      refine rf (fun ev wo E=>?_) ?_
      · have e28:ev (.tmp 28)=.pointer (some ⟨gr,oo+k*3,none⟩):=E.e 0;have hx0:=(E.bel.cell G.out.lt).trans G.out.c0;have hx1:=(E.bel.cell G.out.lt).trans G.out.c1;have hx2:=(E.bel.cell G.out.lt).trans G.out.c2;go_simp;exact rv
      trivial
    · intro wz bz
      (iterate 7 rintro _ rfl);have hput:=(S1.out.step bz).put qMi Tryz.underlying138 (show k<maxLen by unfold maxLen;omega) HKEY.out x0 x1 x2 HHAD.out;have hw:=Classical.choose_spec hput
      generalize Classical.choose hput=w' at hw;have hrun:=hw.1;have S3:=hh_ hw.2;clear hw hput bz;simp only[qAq];unfold Oper.wp;go_simp;gi_wp2
      go_roundw
      case rel=>exact⟨k+1,by go_num,by omega,S3.out⟩
      case measure=>simp[RowKit.intOf];omega
  · have hki:¬(k:Int)<n:=by omega
    obtain rfl:k=n:=by omega
    have hall:qGb cs r k=fun id=>(match evAt cs id with
        |some j=>some (r.getD j zCl)
        |none=>none):=funext fun id=>by rw[HN.out];exact qZn id
    have z1:=cb_ 0 hst.bb rfl;have z2:=cb_ 1 hst.bb rfl;have HV:=hh_ hst;have HALL:=hh_ hall;clear hst hall hki;gi_wp2_with (refine⟨trivial,?_⟩;gi_at_call 87;refine(callsIn_wide.2 (qOc A' B' n' cap' m' capm' _)).mono ?_;rintro e w' ⟨rfl,hw⟩;rw[hw];clear hw)
    obtain⟨X,hX⟩:∃X,X=wr.alloc (.cells #[.slice A' n' cap',.slice B' m' capm'] 33):=⟨_,rfl⟩;have bX:Below wr.heap.size wr X:=by rw[hX];exact(Below.refl _ wr).alloc le_ _
    have sX:X.heap.size=wr.heap.size+1:=by rw[hX];simp only[World.size_alloc]
    have qX:X.heap[wr.heap.size]?=some (.cells #[.slice A' n' cap',.slice B' m' capm'] 33 (0,0)):=by rw[hX];exact qAd _ _
    have hS2:=HV.out.step bX
    have hst2:qZ2 #[.slice A' n' cap',.slice B' m' capm'] k (qGb cs r k) wr.heap.size X.heap.size (.slice none 0 0) [] w X:=
      ⟨hS2.br,hS2.bm,qX,hS2.mp,World.ownsRow_nil _ _ _ _,hS2.bel,⟨HV.out.sz,by omega⟩,Nat.le_refl _⟩
    have HST2:=hh_ hst2;rw[←hX];clear hX hS2 hst2 qX bX
    refine qDl rfl (by omega) (gf:=118) (Bs:=wr.heap.size) (R:=qPr wr.heap.size A' n' cap' B' m' capm' ds ls) rfl trivial (enters_of Tryz.func118 (by kernel_rfl) rfl) (qOr 5 wr.heap.size A' B' n' cap' m' capm' ds ls KN.out kn2) (fun _=>rfl)
      (fun pre W=> ∃v,qZ2 #[.slice A' n' cap',.slice B' m' capm'] k (qGb cs r k) wr.heap.size X.heap.size v (qA2 cs pre r) w W)
      (fun x a' pre W=> ∃bx v,a'={ tmps:=#[.agg #[.slice A k cap,.slice B m capm],.agg #[.slice A' n' cap',.slice B' m' capm'],.slice C q qcap,.pointer (some ⟨w.heap.size,0,none⟩),.pointer (some ⟨w.heap.size+1,0,none⟩),undef,.pointer (some ⟨w.heap.size+1+1,0,none⟩),.pointer (some ⟨w.heap.size+1+1+1+1,0,none⟩),u8,u9,.int .i64 x.1,.pointer (some ⟨bx,0,none⟩),undef,undef,.map (some (w.heap.size+1+1+1)),.pointer (some ⟨w.heap.size,0,none⟩),.slice A k cap,.int .i64 (k:Nat),.int .i64 (k:Nat),.bool false,u20,u21,u22,u23,u24,u25,u26,u27,u28,u29,u30,.agg #[.slice A' n' cap',.slice B' m' capm'],.func (.func 118) #[] #[.pointer (some ⟨wr.heap.size,0,none⟩)],.int .i64 x.1,coA x,undef,undef,undef,undef,undef,undef,undef,undef,undef,undef,undef,undef,undef,undef,undef],defers:=[] }∧X.heap.size≤bx∧W.heap[bx]?=some (.cells (coV x).toArray 45 (0,0))∧qZ2 #[.slice A' n' cap',.slice B' m' capm'] k (qGb cs r k) wr.heap.size X.heap.size v (qA2 cs pre r) w W)
      (fun c pre W=>False) ?hR ?hI ?hIa ?hIx ?h0 ?assign ?body ?done ?stop
    case hR=>exact fun s W h=>by obtain⟨v,h⟩:=h;exact⟨h.bi,(KA.out.below h.bel).more h.bel.size,(KB.out.below h.bel).more h.bel.size⟩
    case hI=>exact fun pre V V' row h hg hr=>by obtain⟨v,h⟩:=h;exact⟨v,h.grown hg hr⟩
    case hIx=>exact fun c pre V V' row h hg hr=>h.elim
    case hIa=>
     rintro x a' pre V V' row ⟨bx,v,h1,h2,h3,h4⟩ hg hr;refine⟨bx,v,h1,h2,(hg.block _ (Array.getElem?_eq_some_iff.1 h3).1 (fun e=>?_)).trans h3,h4.grown hg hr⟩;obtain⟨_,o,ho,hc⟩:=hr bx e.symm;rw[h3] at ho;cases ho;cases hc
    case h0=>exact⟨_,HST2.out⟩
    case stop=>exact fun D c pre W hD h=>h.elim
    case assign=>
     rintro l pre x W K hp ⟨v,h1⟩ hK;have HK:=hh_ hK;have H1:=hh_ h1;clear hK h1;obtain⟨i0,s0,⟨k0,u0⟩,n0,m0,t0⟩:=x;simp only[coA];gi_wp2
     have hnb:=qAd W (.cells #[.int .i64 i0,.string s0,.int .i64 k0,.bool u0,.bool n0,.int .i64 m0,.string t0] 45);refine HK.out _ _ ⟨by rw[World.size_alloc];omega,fun k o _ hk _=>bx_ hk _⟩ ⟨W.heap.size,v,rfl,H1.out.hi,hnb,H1.out.step ((Below.refl _ W).alloc le_ _)⟩
    case body=>
     rintro l pre x a' W hp ⟨bx,v,rfl,hbx,hb,hst⟩;obtain⟨A3,c3,rfl,hc3,hcm3⟩:=qAf hst.own
     have hlen:(qA2 cs pre r).length+1≤100000:=by
      have h1:=hp.length_le;have h2:=KN.out;rw[List.length_append,List.length_singleton] at h1;rw[qI3];omega
     obtain⟨hi1,hi2⟩:=KI.out x (hp.subset (by simp));have hkey:keyOf Tryz.prog 3 (.int .i64 x.1)=some (.int .i64 x.1):=keyOf_int_mk Tryz.underlying3 (by go_wf);have hnext:=qHq cs r pre x
     have hy:qGb cs r k x.1=(match evAt cs x.1 with
      |some j=>some (r.getD j zCl)
      |none=>none):=by rw[HALL.out]
     obtain⟨D,hD,hND⟩:=hst.mp;have y1:=cb_ 0 hst.bm rfl;have HLEN:=hh_ hlen;have HKEY:=hh_ hkey;have HD:=hh_ hD;have HND:=hh_ hND;have HS:=hh_ hst;clear hlen hi1 hi2 hkey hD hND hp hst hc3 hcm3
     cases hat:evAt cs x.1 with
     |some j=>
      obtain⟨y,hyy⟩:∃y,r.getD j zCl=y:=⟨_,rfl⟩;rw[hat] at hnext hy;simp only at hnext hy;rw[hyy] at hnext hy;obtain⟨x0,x1,x2⟩:=y;obtain⟨i0,s0,⟨k0,u0⟩,n0,m0,t0⟩:=x;simp only at hnext hy HKEY;have hs1:=HS.out.step ((Below.refl _ W).alloc le_ (.cells #[.bool x0,.int .i64 x1,.string x2] 43));have y2:=cb_ 0 hs1.br rfl;have hs2:=hs1.step (br_.alloc le_ (.cells #[.bool x0,.int .i64 x1,.string x2] 43));have hnew:=qBs (W.alloc (.cells #[.bool x0,.int .i64 x1,.string x2] 43)) (clV (x0,x1,x2)) 43;have hone:∀u∈clV (x0,x1,x2),u.oneCell'=true:=fun u hu=>qFw [(x0,x1,x2)] u (by simpa[rowV] using hu)
      simp only[World.size_alloc] at hnew;have hbw2:=((Below.refl _ W).alloc le_ (.cells #[.bool x0,.int .i64 x1,.string x2] 43)).alloc (by rw[World.size_alloc];omega) (.cells #[.bool x0,.int .i64 x1,.string x2] 43);have BW2:=hh_ hbw2;clear hbw2;have S2:=hh_ hs2;have HNEW:=hh_ hnew;have HONE:=hh_ hone;have HNX:=hh_ hnext;have HY:=hh_ hy;clear hs1 hs2 hnew hone hnext hy hat hyy;simp only[coA]
      gi_wp2_with (first
        |(gi_at_lookup;refine qDk _ rfl _ _ 138 rfl 3 43 qMi Tryz.underlying138 (qNm _) (w.heap.size+3) _ _ rfl HD.out _ rfl HKEY.out HND.out HY.out ?_;simp only[Option.getD_some,Option.isSome_some,clA])
        |(gi_at_builtin;refine qBn rfl (.tmp 45) (.tmp 47) _ rfl X.heap.size 43 ic _ 3 32 qB7 ci cz0 cz1 cz2 rfl (by omega) (.slice A3 (qA2 cs pre r).length c3) (qA2 cs pre r).length (rowV (qA2 cs pre r)) rfl S2.out.own _ _ 1 1 (clV (x0,x1,x2)) rfl rfl HNEW.out HONE.out (by have:=HLEN.out;unfold maxLen;omega) (by have:=HLEN.out;omega) S2.out.hi ?_;intro v' W5 hown hg;obtain⟨A5,c5,e5,-⟩:=qAf hown;subst e5;have hp5:=S2.out.push hown hg;have z5:=(hg.block _ (Array.getElem?_eq_some_iff.1 S2.out.br).1 (fun e=>by have:=(World.ownsRow.lt S2.out.own _ e.symm).1;have:=S2.out.lo;omega)).trans S2.out.br;have z6:=cb_ 0 z5 rfl;have z7:=fz_ 0 z5;have K5:=hh_ (KeepsOthers.of_own S2.out.own hg);have P5:=hh_ hp5;clear hown hg hp5 z5))
      refine⟨((⟨BW2.out.size,fun k o hk _=>bk_ hk BW2.out⟩:KeepsOthers W _).trans K5.out |>.trans (KeepsOthers.setCell W5 ⟨w.heap.size+2,0,none⟩ (.slice A5 ((qA2 cs pre r).length+1) c5))).from _,.slice A5 ((qA2 cs pre r).length+1) c5,?_⟩;rw[HNX.out];exact P5.out
     |none=>
      rw[hat] at hnext hy;simp only at hnext hy;obtain⟨i0,s0,⟨k0,u0⟩,x0,x1,x2⟩:=x;simp only at hnext hy HKEY;have w4:(W.alloc (.cells #[.bool false,.int .i64 0,.string ⟨#[]⟩] 43)).cell? ⟨bx,4,none⟩=some (.bool x0):=cb_ 4 (bx_ hb (.cells #[.bool false,.int .i64 0,.string ⟨#[]⟩] 43)) rfl;have w5:(W.alloc (.cells #[.bool false,.int .i64 0,.string ⟨#[]⟩] 43)).cell? ⟨bx,5,none⟩=some (.int .i64 x1):=cb_ 5 (bx_ hb (.cells #[.bool false,.int .i64 0,.string ⟨#[]⟩] 43)) rfl;have w6:(W.alloc (.cells #[.bool false,.int .i64 0,.string ⟨#[]⟩] 43)).cell? ⟨bx,6,none⟩=some (.string x2):=cb_ 6 (bx_ hb (.cells #[.bool false,.int .i64 0,.string ⟨#[]⟩] 43)) rfl;have hs1:=HS.out.step ((Below.refl _ W).alloc le_ (.cells #[.bool x0,.int .i64 x1,.string x2] 43));have y2:=cb_ 0 hs1.br rfl;have hs2:=hs1.step (br_.alloc le_ (.cells #[.bool x0,.int .i64 x1,.string x2] 43));have hnew:=qBs (W.alloc (.cells #[.bool x0,.int .i64 x1,.string x2] 43)) (clV (x0,x1,x2)) 43;have hone:∀u∈clV (x0,x1,x2),u.oneCell'=true:=fun u hu=>qFw [(x0,x1,x2)] u (by simpa[rowV] using hu)
      simp only[World.size_alloc] at hnew;have hbw2:=((Below.refl _ W).alloc le_ (.cells #[.bool x0,.int .i64 x1,.string x2] 43)).alloc (by rw[World.size_alloc];omega) (.cells #[.bool x0,.int .i64 x1,.string x2] 43);have BW2:=hh_ hbw2;clear hbw2;have S2:=hh_ hs2;have HNEW:=hh_ hnew;have HONE:=hh_ hone;have HNX:=hh_ hnext;have HY:=hh_ hy;clear hs1 hs2 hnew hone hnext hy hat;simp only[coA]
      gi_wp2_with (first
        |(gi_at_lookup;refine qDk _ rfl _ _ 138 rfl 3 43 qMi Tryz.underlying138 (qNm _) (w.heap.size+3) _ _ rfl HD.out _ rfl HKEY.out HND.out HY.out ?_;simp only[Option.getD_none,Option.isSome_none,clA,zCl])
        |(gi_at_builtin;refine qBn rfl (.tmp 45) (.tmp 47) _ rfl X.heap.size 43 ic _ 3 32 qB7 ci cz0 cz1 cz2 rfl (by omega) (.slice A3 (qA2 cs pre r).length c3) (qA2 cs pre r).length (rowV (qA2 cs pre r)) rfl S2.out.own _ _ 1 1 (clV (x0,x1,x2)) rfl rfl HNEW.out HONE.out (by have:=HLEN.out;unfold maxLen;omega) (by have:=HLEN.out;omega) S2.out.hi ?_;intro v' W5 hown hg;obtain⟨A5,c5,e5,-⟩:=qAf hown;subst e5;have hp5:=S2.out.push hown hg;have z5:=(hg.block _ (Array.getElem?_eq_some_iff.1 S2.out.br).1 (fun e=>by have:=(World.ownsRow.lt S2.out.own _ e.symm).1;have:=S2.out.lo;omega)).trans S2.out.br;have z6:=cb_ 0 z5 rfl;have z7:=fz_ 0 z5;have K5:=hh_ (KeepsOthers.of_own S2.out.own hg);have P5:=hh_ hp5;clear hown hg hp5 z5))
      refine⟨((⟨BW2.out.size,fun k o hk _=>bk_ hk BW2.out⟩:KeepsOthers W _).trans K5.out |>.trans (KeepsOthers.setCell W5 ⟨w.heap.size+2,0,none⟩ (.slice A5 ((qA2 cs pre r).length+1) c5))).from _,.slice A5 ((qA2 cs pre r).length+1) c5,?_⟩;rw[HNX.out];exact P5.out
    case done=>
     rintro D W hD ⟨v,hst⟩ hK;obtain⟨A3,c3,rfl,hc3,hcm3⟩:=qAf hst.own;have y1:=cb_ 0 hst.br rfl;have f1:=fz_ 0 hst.br;have H1:=hh_ hst;have HDE:=hh_ hK;clear hst hK hc3 hcm3;gi_wp2
     have hk2:(W.setCell ⟨w.heap.size+2,0,none⟩ (.slice A3 (qA2 cs ds r).length c3)).heap[D]?=some (.deferred (some [])):=qAj HDE.out (by have:=H1.out.lo;omega) _;have hb1:=Go.Ms.ms_one_set H1.out.br (.slice A3 (qA2 cs ds r).length c3);have q1:=cb_ 0 (qBe (o':=.deferred none) hb1 (show w.heap.size+2≠D by have:=H1.out.lo;omega)) rfl;have hbe:=H1.out.bel.setCell (p:=⟨w.heap.size+2,0,none⟩) (by simp only;omega) (.slice A3 (qA2 cs ds r).length c3);have ho2:=qP3 (own_set' H1.out.own (show w.heap.size+2<X.heap.size by have:=H1.out.lo;omega) (i:=0) (.slice A3 (qA2 cs ds r).length c3)) (grownBy_putObj' _ D (.deferred none)) (fun r e=>by cases e;exact⟨_,hk2,rfl⟩);refine⟨by simp,.inl ⟨_,_,rfl,run_takeDeferred hk2,?_⟩⟩;refine⟨.slice A3 (qA2 cs ds r).length c3,?_,_,rfl,qAv ho2 (by have:=H1.out.lo;omega),?_⟩
     · simp[results,Tryz.results46,Tryz.f46,go_sem,q1]
     · exact hbe.grown (grownBy_putObj' _ D (.deferred none)) hbe.size (fun k e=>by cases e;have:=H1.out.lo;omega)
end Go.Proofs.YtainiaighnjpfaaGreatDoor
