/- Schemas: a text read: the walk. -/
import Derived.Test.YtainiaighnjpfaaGreatDoorZQu
set_option linter.unusedVariables false
set_option linter.unusedSimpArgs false
namespace Go.Ms
open Go.RowKit Go.Lib
theorem qBn {F:Fence} {k:Nat} {P:Program} {w:World} {ops:Array Oper} {rest:List Oper} {o:Oper} {a:Act} {Q:Exit→Act→World→Prop} (hgd:o.guard=none) (s x:Operand) (t:TypeId)
    (ho:o.op=Op.call { callee:=Callee.builtin Builtin.append,args:=#[s,x],argTypes:=#[t,t] })
    (base:Nat) (e:TypeId) (i:TypeInfo) (z:Value) (size bytes:Nat) (ht:P.underlying t=some (.slice e)) (hi:P.info? e=some i) (hz:i.zero=some z)
    (hsize:i.size=size) (hby:i.bytes=bytes) (hzs:z.cells.size=size) (hsz:0<size)
    (v:Value) (n:Nat) (xs:List Value) (hs:a.eval s=v) (hown:w.ownsRow base e size v n xs) (B:Nat) (A:Option Addr) (m c:Nat) (news:List Value) (hx:a.eval x=.slice A m c) (hl:news.length=m*size) (hnews:Lay w B A news) (h1:∀u∈news,u.oneCell'=true)
    (h63:n+m≤maxLen) (hbytes:(n+m)*bytes≤140737488355328) (hbase:base≤w.heap.size)
    (h:∀v' w',w'.ownsRow base e size v' (n+m) (xs++news)→w.grownBy w' v.ownBlock→wpListIn F k P ops Q rest (a.put o.dst v') w'):wpListIn F k P ops Q (o::rest) a w:=by
 refine wpListIn_plain hgd fun K hK'=>?_
 obtain⟨v',w',hr,h2,h3⟩:=qDa (P:=P) w base t o.type e i z size bytes ht hi hz hsize hby hzs hsz v n xs hown B A m c news hl hnews h1 h63 hbytes hbase;unfold Oper.wpIn;refine⟨?_,?_⟩
 · simp[Oper.about,ho,resolve,Target.leads,Sem.run_pure]
 · rw[Oper.semAt_plain F _ _ (by rw[ho];intro c hc';cases hc')];simp[execOp,ho,resolve,invoke,builtin,hs,hx,hr,Result.andThen];exact hK' _ _ (h v' w' h2 h3)
theorem two_set0 {w:World} {b:Nat} {x y:Value} {T:TypeId} (h:w.heap[b]?=some (.cells #[x,y] T (0,0))) (u:Value):(w.setCell ⟨b,0,none⟩ u).heap[b]?=some (.cells #[u,y] T (0,0)):=by
 simp[World.setCell,Array.getElem?_modify,h]
theorem qEw {w:World} {b:Nat} {x y:Value} {T:TypeId} (h:w.heap[b]?=some (.cells #[x,y] T (0,0))) (u:Value):(w.setCell ⟨b,1,none⟩ u).heap[b]?=some (.cells #[x,u] T (0,0)):=by
 simp[World.setCell,Array.getElem?_modify,h]
theorem ms_one_set {w:World} {b:Nat} {x:Value} {T:TypeId} (h:w.heap[b]?=some (.cells #[x] T (0,0))) (u:Value):(w.setCell ⟨b,0,none⟩ u).heap[b]?=some (.cells #[u] T (0,0)):=by
 simp[World.setCell,Array.getElem?_modify,h]
theorem qAj {w:World} {b c i:Nat} {o:Obj} (h:w.heap[b]?=some o) (hc:b≠c) (u:Value):(w.setCell ⟨c,i,none⟩ u).heap[b]?=some o:=(Below.heap_setCell w ⟨c,i,none⟩ u b hc).trans h
theorem qBb (w:World) (b i:Nat) (u:Value):w.grownBy (w.setCell ⟨b,i,none⟩ u) (some b):=
  ⟨rfl,rfl,rfl,by simp[World.setCell],fun k _ hk=>Below.heap_setCell w ⟨b,i,none⟩ u k (fun e=>hk (by rw[e]))⟩
theorem own_set' {w:World} {B size n b i:Nat} {e:TypeId} {v:Value} {xs:List Value} (h:w.ownsRow B e size v n xs) (hb:b<B) (u:Value):(w.setCell ⟨b,i,none⟩ u).ownsRow B e size v n xs:=
  World.ownsRow.kept h (qBb w b i u) (.inr (fun e=>by have:=(World.ownsRow.lt h b e).1;omega))
theorem qFe {w:World} {B B' s s' n n':Nat} {e e':TypeId} {v v':Value} {xs xs':List Value} (h:w.ownsRow B e s v n xs) (k:w.ownsRow B' e' s' v' n' xs') (hne:e≠e'):v.ownBlock=none∨v.ownBlock≠v'.ownBlock:=by
 rcases h.2 with⟨rfl,_⟩|⟨g,cap,cur,rfl,_,hg,_⟩
 · exact .inl rfl
 · refine .inr fun e1=>?_
   rcases k.2 with⟨rfl,_⟩|⟨g',cap',cur',rfl,_,hg',_⟩
   · cases e1
   · have:g=g':=by simpa[Value.ownBlock] using e1
     subst this;rw[hg] at hg';cases hg'
     exact hne rfl
structure PSt (tS tC tI tJ tE:TypeId) (w:World) (B:Nat) (v1 v2:Value) (cs:List Co) (ks:List Int) (W:World):Prop where
  b0:W.heap[w.heap.size]?=some (.cells #[v1,v2] tS (0,0))
  b1:W.heap[w.heap.size+1]?=some (.cells #[.int .i64 0] tJ (0,0))
  b2:W.heap[w.heap.size+2]?=some (.cells #[.int .i64 0] tE (0,0))
  o1:qBw W B tC v1 cs
  o2:OwnI W B tI v2 ks
  bel:Below w.heap.size w W
  lo:w.heap.size+4≤B
  hi:B≤W.heap.size
section
variable {tS tC tI tJ tE:TypeId} {w:World} {B:Nat} {v1 v2:Value} {cs:List Co} {ks:List Int} {W:World}
theorem PSt.step (h:PSt tS tC tI tJ tE w B v1 v2 cs ks W) {W':World} (hb:Below W.heap.size W W'):PSt tS tC tI tJ tE w B v1 v2 cs ks W':=
  ⟨bk_ h.b0 hb,bk_ h.b1 hb,bk_ h.b2 hb,own_below h.o1 hb,own_below h.o2 hb,h.bel.trans (hb.mono h.bel.size),h.lo,Nat.le_trans h.hi hb.size⟩
theorem PSt.grown (h : PSt tS tC tI tJ tE w B v1 v2 cs ks W) {A B':World} {row:Option Nat} (e:W=A) (hg:A.grownBy B' row) (hr:∀r,row=some r→(r=w.heap.size+3∨B≤r∧∃o:Obj,A.heap[r]?=some o∧o.isCells=false)):PSt tS tC tI tJ tE w B v1 v2 cs ks B':=by
 subst e;have hlo:=h.lo
 have hne:∀k:Nat,k<w.heap.size+3→some k≠row:=fun k hk e=>by
  rcases hr k e.symm with h|h
  · omega
  · have:=h.1;omega
 have hrow:∀{e:TypeId} {sz nn:Nat} {v:Value} {xs:List Value},W.ownsRow B e sz v nn xs→B'.ownsRow B e sz v nn xs:=fun {e sz nn v xs} ho=>by
  refine World.ownsRow.kept ho hg ?_;rcases hv:v.ownBlock with _|k
  · exact .inl rfl
  · refine .inr fun e'=>?_
    rcases hr k e'.symm with h|⟨_,o,ho1,ho2⟩
    · have:=(World.ownsRow.lt ho k hv).1;omega
    · rcases ho.2 with⟨hv',_⟩|⟨g,cap,cur,hv',_,hgb,_⟩
      · rw[hv'] at hv;simp[Value.ownBlock] at hv
      · rw[hv'] at hv;simp[Value.ownBlock] at hv;subst hv;rw[hgb] at ho1;cases ho1;cases ho2
 exact⟨(hg.block _ (Array.getElem?_eq_some_iff.1 h.b0).1 (hne _ (by omega))).trans h.b0,(hg.block _ (Array.getElem?_eq_some_iff.1 h.b1).1 (hne _ (by omega))).trans h.b1,(hg.block _ (Array.getElem?_eq_some_iff.1 h.b2).1 (hne _ (by omega))).trans h.b2,hrow h.o1,hrow h.o2,
   h.bel.grown hg h.bel.size (fun k e => by rcases hr k e with h|h; · omega
                                            · have:=h.1;omega),h.lo,Nat.le_trans h.hi hg.size⟩
theorem PSt.keys (h:PSt tS tC tI tJ tE w B v1 v2 cs ks W) (hne:tC≠tI) {W':World} {v2':Value} {k:Int} (hown:W'.ownsRow B tI 1 v2' (ks.length+1) (intV ks++intV [k])) (hg:W.grownBy W' v2.ownBlock):PSt tS tC tI tJ tE w B v1 v2' cs (ks++[k]) (W'.setCell ⟨w.heap.size,1,none⟩ v2'):=by
 have hlo:=h.lo;have hb:∀k:Nat,k<B→some k≠v2.ownBlock:=fun k hk e=>by have:=(World.ownsRow.lt h.o2 k e.symm).1;omega
 have ho2:OwnI W' B tI v2' (ks++[k]):=by
  unfold OwnI;rw[List.length_append,qI1];exact hown
 exact⟨qEw ((hg.block _ (Array.getElem?_eq_some_iff.1 h.b0).1 (hb _ (by omega))).trans h.b0) _,qAj ((hg.block _ (Array.getElem?_eq_some_iff.1 h.b1).1 (hb _ (by omega))).trans h.b1) (by omega) _,qAj ((hg.block _ (Array.getElem?_eq_some_iff.1 h.b2).1 (hb _ (by omega))).trans h.b2) (by omega) _,
   own_set' (World.ownsRow.kept h.o1 hg (qFe h.o1 h.o2 hne)) (by omega) _,own_set' ho2 (by omega) _,(qAh h.o2 h.bel h.bel.size (by omega) hg).setCell (p:=⟨w.heap.size,1,none⟩) le_ _,h.lo,by simp only[World.size_setCell];exact Nat.le_trans h.hi hg.size⟩
theorem PSt.cols (h:PSt tS tC tI tJ tE w B v1 v2 cs ks W) (hne:tC≠tI) {W':World} {v1':Value} {c:Co} (hown:W'.ownsRow B tC 7 v1' (cs.length+1) (colV cs++coV c)) (hg:W.grownBy W' v1.ownBlock):PSt tS tC tI tJ tE w B v1' v2 (cs++[c]) ks (W'.setCell ⟨w.heap.size,0,none⟩ v1'):=by
 have hlo:=h.lo;have hb:∀k:Nat,k<B→some k≠v1.ownBlock:=fun k hk e=>by have:=(World.ownsRow.lt h.o1 k e.symm).1;omega
 have ho2:qBw W' B tC v1' (cs++[c]):=by
  unfold qBw;rw[List.length_append,qXa,show colV [c]=coV c by simp[colV]];exact hown
 exact⟨two_set0 ((hg.block _ (Array.getElem?_eq_some_iff.1 h.b0).1 (hb _ (by omega))).trans h.b0) _,qAj ((hg.block _ (Array.getElem?_eq_some_iff.1 h.b1).1 (hb _ (by omega))).trans h.b1) (by omega) _,qAj ((hg.block _ (Array.getElem?_eq_some_iff.1 h.b2).1 (hb _ (by omega))).trans h.b2) (by omega) _,
   own_set' ho2 (by omega) _,own_set' (World.ownsRow.kept h.o2 hg (qFe h.o2 h.o1 (Ne.symm hne))) (by omega) _,(qAh h.o1 h.bel h.bel.size (by omega) hg).setCell (p:=⟨w.heap.size,0,none⟩) le_ _,h.lo,by simp only[World.size_setCell];exact Nat.le_trans h.hi hg.size⟩
end
structure PKp (base Bx:Nat) (W W':World):Prop where
  kf:KeepsFrom base W W'
  bx:W'.heap[Bx]?=W.heap[Bx]?
theorem PKp.trans {base Bx:Nat} {W W1 W2:World} (h:PKp base Bx W W1) (k:PKp base Bx W1 W2):PKp base Bx W W2:=⟨h.kf.trans k.kf,k.bx.trans h.bx⟩
theorem PKp.below {base Bx:Nat} {W W':World} (h:Below W.heap.size W W') (hB:Bx<W.heap.size):PKp base Bx W W':=⟨⟨h.size,fun k o _ hk _=>bk_ hk h⟩,h.block _ hB⟩
theorem PKp.set {base Bx:Nat} (W:World) (b i:Nat) (u:Value) (hB:Bx≠b):PKp base Bx W (W.setCell ⟨b,i,none⟩ u):=⟨(KeepsOthers.setCell W _ _).from _,Below.heap_setCell W ⟨b,i,none⟩ u Bx hB⟩
theorem PKp.grown {base Bx B s n:Nat} {e:TypeId} {v:Value} {xs:List Value} {W W':World} (h:W.ownsRow B e s v n xs) (hg:W.grownBy W' v.ownBlock) (hB:Bx<B) (hl:Bx<W.heap.size):PKp base Bx W W':=by
 refine⟨(KeepsOthers.of_grownBy hg fun j o hj ho=>?_).from _,hg.block _ hl (fun e=>by have:=(World.ownsRow.lt h _ e.symm).1;omega)⟩;rcases h.2 with⟨hv',_⟩|⟨g,cap,cur,hv',_,hgb,_⟩
 · rw[hv'] at hj;simp[Value.ownBlock] at hj
 · rw[hv'] at hj;simp[Value.ownBlock] at hj;subst hj;rw[hgb] at ho;cases ho;rfl
theorem qRr {s:Bs} (hz:¬1048576<s.length) (h:(qCh s).2.2=true):qCo s=if scOk (qCh s).1 (qCh s).2.1=true then ((qCh s).1,(qCh s).2.1,0,0) else ([],[],0,2):=by
 unfold qCo;rw[if_neg hz,if_pos h]
theorem qRj {s:Bs} (hz:¬1048576<s.length) (h:(qCh s).2.2=false):qCo s=([],[],(qCh s).1.length,4):=by
 unfold qCo;rw[if_neg hz,if_neg (by rw[h];simp)]
theorem PSt.same {tS tC tI tJ tE:TypeId} {w:World} {B:Nat} {v1 v2:Value} {cs:List Co} {ks:List Int} {W:World} (h:PSt tS tC tI tJ tE w B v1 v2 cs ks W) :
    PSt tS tC tI tJ tE w B v1 v2 cs ks ((((W.setCell ⟨w.heap.size,0,none⟩ v1).setCell ⟨w.heap.size,1,none⟩ v2).setCell ⟨w.heap.size+1,0,none⟩ (.int .i64 0)).setCell ⟨w.heap.size+1+1,0,none⟩ (.int .i64 0)):=by
 have hlo:=h.lo
 refine⟨qAj (qAj (qEw (two_set0 h.b0 _) _) (by omega) _) (by omega) _,qAj (ms_one_set (qAj (qAj h.b1 (by omega) _) (by omega) _) _) (by omega) _,ms_one_set (qAj (qAj (qAj h.b2 (by omega) _) (by omega) _) (by omega) _) _,
   own_set' (own_set' (own_set' (own_set' h.o1 (by omega) _) (by omega) _) (by omega) _) (by omega) _,own_set' (own_set' (own_set' (own_set' h.o2 (by omega) _) (by omega) _) (by omega) _) (by omega) _,?_,h.lo,by simp only[World.size_setCell];exact h.hi⟩
 exact(((h.bel.setCell (p:=⟨w.heap.size,0,none⟩) le_ _).setCell (p:=⟨w.heap.size,1,none⟩) le_ _).setCell (p:=⟨w.heap.size+1,0,none⟩) (by simp only;omega) _).setCell (p:=⟨w.heap.size+1+1,0,none⟩) (by simp only;omega) _
theorem qBe {w:World} {b D:Nat} {o o':Obj} (h:w.heap[b]?=some o) (hne:b≠D):(w.putObj D o').heap[b]?=some o:=(World.putObj_heap_other hne).trans h
def PEnd (tS tJ tE:TypeId) (S:ByteArray) (w:World) (W:World):Prop:=
  ∃ pre x cs ks,(pre++[x]) <+: qB3 S∧qCg [] [] pre=some (cs,ks)∧qAu x.data.toList=none∧
    W.heap[w.heap.size]?=some (.cells #[.slice none 0 0,.slice none 0 0] tS (0,0))∧W.heap[w.heap.size+1]?=some (.cells #[.int .i64 cs.length] tJ (0,0))∧W.heap[w.heap.size+2]?=some (.cells #[.int .i64 4] tE (0,0))∧Below w.heap.size w W
def qSf (S:Bs) (w:World) (e:Ending) (w':World):Prop:= ∃(A B:Option Addr) (c d:Nat),((qCo S).1.length≤c∧c≤maxLen∧(qCo S).2.1.length≤d∧d≤maxLen)∧e=.returned (.tuple #[.agg #[.slice A (qCo S).1.length c,.slice B (qCo S).2.1.length d],.int .i64 (qCo S).2.2.1,.int .i64 (qCo S).2.2.2])∧
  Lay w' w'.heap.size A (colV (qCo S).1)∧Lay w' w'.heap.size B (intV (qCo S).2.1)∧Below w.heap.size w w'
end Go.Ms
namespace Go.Proofs.YtainiaighnjpfaaGreatDoor
open Go.RowKit Go.Ms Go.Lib Go.Shelf
attribute [local go_sem] Oper.semAt_some
theorem qTs (S:ByteArray) (w:World):Calls Tryz.prog 88 #[.string S] w fun e w'=>e=.returned (.func (.func 119) #[] #[.pointer (some ⟨w.heap.size,0,none⟩)])∧w'=w.alloc (.cells #[.string S] 9):=by
 go_enter Tryz.func88,Tryz.ntmps88;go_wp2_with fail
 go_ret;exact⟨rfl,rfl⟩
theorem qSe {S:ByteArray} {w:World} (hs:S.size≤20000) (hE:Env w) (h:qAu S.data.toList=none) :
    Calls Tryz.prog 89 #[.string S] w fun e w'=>(∃c k,e=.returned (.tuple #[coA c,.bool k,.bool false]))∧Below w.heap.size w w':=by
 refine(qK3 S w hs hE).mono ?_;rintro e w' ⟨⟨c,k,b,rfl,h1,h2⟩,hb⟩
 cases b with
 |false=>exact⟨⟨c,k,rfl⟩,hb⟩
 |true=>rw[h] at h1;cases h1 rfl
theorem qQ9 {S:ByteArray} {w:World} {c:Co} {k:Bool} (hs:S.size≤20000) (hE:Env w) (h:qAu S.data.toList=some (c,k)) :
    Calls Tryz.prog 89 #[.string S] w fun e w'=>e=.returned (.tuple #[coA c,.bool k,.bool true])∧Below w.heap.size w w':=by
 refine(qK3 S w hs hE).mono ?_;rintro e w' ⟨⟨c',k',b,rfl,h1,h2⟩,hb⟩
 cases b with
 |false=>rw[h] at h2;cases h2 rfl
 |true=>
  have e:=h1 rfl;rw[h] at e;cases e;exact⟨rfl,hb⟩
abbrev zBf (w:World) (B:Nat) (v1 v2:Value) (cs:List Co) (ks:List Int) (W:World):Prop:=PSt 33 45 3 3 27 w B v1 v2 cs ks W
set_option maxRecDepth 100000 in
set_option maxHeartbeats 4000000 in
theorem qOo (S:ByteArray) (w:World) (hs:S.size≤20000) (hE:Env w) :
    Calls Tryz.prog 49 #[.string S] w (qSf S.data.toList w):=by
 have hz:¬(1048576:Int)<S.size:=by omega
 obtain⟨ic,ci,cz0,cz1,cz2⟩:=info_parts qEu;obtain⟨ii,ki,kz0,kz1,kz2⟩:=info_parts qFq;refine(callsIn_wide (n:=6)).1 ?_;have hdp:Fence.wide.depth.isSome=true→1≤6:=fun h=>absurd h (by decide)
 refine callsIn_of_wp_marks Tryz.func49 rfl trivial ?_ rfl;simp only[Tryz.ntmps49,List.size_toArray,List.length_cons,List.length_nil,Nat.reduceAdd,Nat.reduceSub,Array.replicate_succ,Array.replicate_zero,List.push_toArray,List.append_toArray,List.nil_append,List.cons_append];gi_wp2_with (refine⟨trivial,?_⟩;gi_at_call 88;refine(callsIn_wide.2 (qTs S _)).mono ?_;rintro e w' ⟨rfl,hw⟩;rw[hw];clear hw)
 obtain⟨X,hX⟩:∃X,X=(((w.alloc (.cells #[.slice none 0 0,.slice none 0 0] 33)).alloc (.cells #[.int .i64 0] 3)).alloc (.cells #[.int .i64 0] 27)).alloc (.cells #[.string S] 9):=⟨_,rfl⟩;have bX:Below w.heap.size w X:=by rw[hX];exact((((Below.refl _ w).alloc le_ _).alloc (by simp only[World.size_alloc];omega) _).alloc (by simp only[World.size_alloc];omega) _).alloc (by simp only[World.size_alloc];omega) _
 have sX:X.heap.size=w.heap.size+4:=by rw[hX];simp only[World.size_alloc]
 have q0:X.heap[w.heap.size]?=some (.cells #[.slice none 0 0,.slice none 0 0] 33 (0,0)):=by rw[hX];exact bx_ (bx_ (bx_ (qAd _ _) _) _) _
 have q1:X.heap[w.heap.size+1]?=some (.cells #[.int .i64 0] 3 (0,0)):=by rw[hX];have:=qAd (w.alloc (.cells #[.slice none 0 0,.slice none 0 0] 33)) (.cells #[.int .i64 0] 3);rw[World.size_alloc] at this;exact bx_ (bx_ this _) _
 have q2:X.heap[w.heap.size+2]?=some (.cells #[.int .i64 0] 27 (0,0)):=by rw[hX];have:=qAd ((w.alloc (.cells #[.slice none 0 0,.slice none 0 0] 33)).alloc (.cells #[.int .i64 0] 3)) (.cells #[.int .i64 0] 27);rw[World.size_alloc,World.size_alloc] at this;exact bx_ this _
 have q3:Boxed X (w.heap.size+1+1+1) 9 (.string S):=by rw[hX];have:=Boxed.new (((w.alloc (.cells #[.slice none 0 0,.slice none 0 0] 33)).alloc (.cells #[.int .i64 0] 3)).alloc (.cells #[.int .i64 0] 27)) 9 (.string S);rw[World.size_alloc,World.size_alloc,World.size_alloc] at this;exact this
 have hst0:zBf w X.heap.size (.slice none 0 0) (.slice none 0 0) [] [] X:=⟨q0,q1,q2,World.ownsRow_nil _ _ _ _,World.ownsRow_nil _ _ _ _,bX,by omega,Nat.le_refl _⟩;rw[←hX];clear hX
 refine qGw rfl (by omega) (gf:=119) (Bs:=w.heap.size+1+1+1) (ty:=9) (s0:=.string S) rfl trivial (enters_of Tryz.func119 (by kernel_rfl) rfl) q3 (qUi 5 (w.heap.size+1+1+1) S (by omega)) (fun _=>rfl)
   (fun pre W=> ∃cs ks v1 v2,qCg [] [] pre=some (cs,ks)∧zBf w X.heap.size v1 v2 cs ks W)
   (fun c pre W=>c=.ret∧PEnd 33 3 27 S w W) ?hI ?hIx ?h0
   (fun x=>{ tmps:=#[.string S,undef,.pointer (some ⟨w.heap.size,0,none⟩),.pointer (some ⟨w.heap.size+1,0,none⟩),.pointer (some ⟨w.heap.size+1+1,0,none⟩),.string x,undef,undef,undef,undef,.string S,.int .i64 S.size,.bool false,undef,.string S,.func (.func 119) #[] #[.pointer (some ⟨w.heap.size+1+1+1,0,none⟩)],.string x,undef,undef,undef,undef,undef,undef,undef,undef,undef,undef,undef,undef,undef,undef,undef,undef,undef,undef,undef,undef,undef,undef,undef,undef,undef,undef,undef,undef,undef,undef,undef,undef,undef,undef],defers:=[] }) ?assign ?body ?done ?stop
 case h0=>exact⟨[],[],.slice none 0 0,.slice none 0 0,rfl,hst0⟩
 case hIx=>
  rintro c s A B row ⟨h1,pre,x,cs,ks,h2,h3,h4,h5,h6,h7,h8⟩ hg hr
  have hne:∀k:Nat,k<w.heap.size+3→some k≠row:=fun k hk e=>by
   rcases hr k e.symm with h|h
   · omega
   · have:=h.1;omega
  refine⟨h1,pre,x,cs,ks,h2,h3,h4,(hg.block _ (Array.getElem?_eq_some_iff.1 h5).1 (hne _ (by omega))).trans h5,(hg.block _ (Array.getElem?_eq_some_iff.1 h6).1 (hne _ (by omega))).trans h6,(hg.block _ (Array.getElem?_eq_some_iff.1 h7).1 (hne _ (by omega))).trans h7,h8.grown hg h8.size (fun k e=>?_)⟩;rcases hr k e with h|h
  · omega
  · have:=h.1;omega
 case hI=>
  rintro pre A B row ⟨cs,ks,v1,v2,h1,h2⟩ hg hr
  exact ⟨cs, ks, v1, v2, h1, h2.grown rfl hg (fun r e => by rcases hr r e with h|h; · exact .inl (by omega)
                                                            · exact .inr h)⟩
 case assign=>
  intro l x W K hK;gi_wp2
  exact hK
 case body=>
  rintro l pre x W hp ⟨cs,ks,v1,v2,h1,hst⟩;have hx:x∈qB3 S:=hp.subset (by simp);have hxz:x.size≤20000:=Nat.le_trans (qOg hx) hs;obtain⟨-,hlc,hlk⟩:=qJu pre [] cs [] ks (by simp) h1;have hlp:pre.length+1≤20000:=by have:=hp.length_le;have:=qKx S;simp at *; omega
  simp at hlc hlk;obtain⟨A1,c1,hv1,hcc1,hcm1⟩:=qAf hst.o1;obtain⟨A2,c2,hv2,hcc2,hcm2⟩:=qAf hst.o2;subst hv1;subst hv2;have lB:w.heap.size+1+1+1<W.heap.size:=by have:=hst.lo;have:=hst.hi;omega
  have lw:w.heap.size≠W.heap.size:=by omega
  cases hlr:qAu x.data.toList with
  |none=>
   have hcol:=qSe hxz (hE.below hst.bel) hlr;have HCOL:=hh_ hcol;have H1:=hh_ h1;have HST:=hh_ hst;have HP:=hh_ hp;have HLR:=hh_ hlr;clear hcol h1 hst hp hlr hx hlc hlk hlp hcc1 hcm1 hcc2 hcm2 hst0 q0 q1 q2 q3 bX sX;gi_wp2_with (refine⟨trivial,?_⟩;gi_at_call 89;refine(CallsIn.inRound l (callsIn_wide.2 HCOL.out)).mono ?_;rintro e W1 ⟨⟨c,kk,rfl⟩,bw1⟩;obtain⟨i0,s0,⟨k0,u0⟩,n0,m0,t0⟩:=c;simp only[coA];have hs1:=(HST.out.step bw1).step ((Below.refl _ W1).alloc le_ (.cells #[.int .i64 i0,.string s0,.int .i64 k0,.bool u0,.bool n0,.int .i64 m0,.string t0] 45));have hk1:=(PKp.below (base:=X.heap.size) bw1 lB).trans (PKp.below ((Below.refl _ W1).alloc le_ (.cells #[.int .i64 i0,.string s0,.int .i64 k0,.bool u0,.bool n0,.int .i64 m0,.string t0] 45)) (Nat.lt_of_lt_of_le lB bw1.size));have S1:=hh_ hs1;have K1:=hh_ hk1;clear bw1 hk1;have y0:=cb_ 0 hs1.b0 rfl;have y1:=cb_ 1 hs1.b0 rfl;have y2:=cb_ 0 hs1.b1 rfl;have y3:=cb_ 0 hs1.b2 rfl;have g0:=fz_ 0 hs1.b0;have g1:=fz_ 1 hs1.b0;have g2:=fz_ 0 hs1.b1;have g3:=fz_ 0 hs1.b2;clear hs1)
   refine⟨?_,rfl,pre,x,cs,ks,HP.out,H1.out,HLR.out,?_,?_,?_,?_⟩
   · exact(((K1.out.trans (PKp.set _ _ 0 _ (by omega))).trans (PKp.set _ _ 1 _ (by omega))).trans (PKp.set _ _ 0 _ (by omega))).trans (PKp.set _ _ 0 _ (by omega)) |>.kf
   · exact qAj (qAj (qEw (two_set0 S1.out.b0 _) _) (by omega) _) (by omega) _
   · exact qAj (ms_one_set (qAj (qAj S1.out.b1 (by omega) _) (by omega) _) _) (by omega) _
   · exact ms_one_set (qAj (qAj (qAj S1.out.b2 (by omega) _) (by omega) _) (by omega) _) _
   · exact(((S1.out.bel.setCell (p:=⟨w.heap.size,0,none⟩) le_ _).setCell (p:=⟨w.heap.size,1,none⟩) le_ _).setCell (p:=⟨w.heap.size+1,0,none⟩) (by simp only;omega) _).setCell (p:=⟨w.heap.size+1+1,0,none⟩) (by simp only;omega) _
  | some ck=>
   obtain⟨⟨i0,s0,⟨k0,u0⟩,n0,m0,t0⟩,kk⟩:=ck;have hcol:=qQ9 hxz (hE.below hst.bel) hlr;have hls:=qI7 hlr pre [] cs [] ks h1;have HCOL:=hh_ hcol;have H1:=hh_ h1;have HST:=hh_ hst;have HLS:=hh_ hls;have HLC:=hh_ hlc;have HLK:=hh_ hlk;have HLP:=hh_ hlp;clear hcol h1 hst hp hlr hx hls hcc1 hcm1 hcc2 hcm2 hst0 q0 q1 q2 q3 bX sX hlc hlk hlp;have hcl:cs.length+1≤20000:=by have:=HLC.out;have:=HLP.out;omega
   have hkl:ks.length+1≤20000:=by have:=HLK.out;have:=HLP.out;omega
   have HCL:=hh_ hcl;have HKL:=hh_ hkl;clear hcl hkl;have hone:∀u∈coV ((i0,s0,(k0,u0),n0,m0,t0):Co),u.oneCell'=true:=fun u hu=>qG5 [((i0,s0,(k0,u0),n0,m0,t0):Co)] u (by simpa[colV] using hu)
   have HONE:=hh_ hone;clear hone
   cases kk with
   |false=>
    gi_wp2_with (first|(refine⟨trivial,?_⟩;gi_at_call 89;refine(CallsIn.inRound l (callsIn_wide.2 HCOL.out)).mono ?_;rintro e W1 ⟨rfl,bw1⟩;simp only[coA];have hs1:=(HST.out.step bw1).step ((Below.refl _ W1).alloc le_ (.cells #[.int .i64 i0,.string s0,.int .i64 k0,.bool u0,.bool n0,.int .i64 m0,.string t0] 45));have hk1:=(PKp.below (base:=X.heap.size) bw1 lB).trans (PKp.below ((Below.refl _ W1).alloc le_ (.cells #[.int .i64 i0,.string s0,.int .i64 k0,.bool u0,.bool n0,.int .i64 m0,.string t0] 45)) (Nat.lt_of_lt_of_le lB bw1.size));have hq1:=qAd W1 (.cells #[.int .i64 i0,.string s0,.int .i64 k0,.bool u0,.bool n0,.int .i64 m0,.string t0] 45);have lw1:w.heap.size≠W1.heap.size:=(by have:=bw1.size;omega);have S1:=hh_ hs1;have K1:=hh_ hk1;have Q1:=hh_ hq1;have BW:=hh_ bw1;clear bw1 hk1;have y0:=cb_ 0 hs1.b0 rfl;have y1:=cb_ 1 hs1.b0 rfl;have g0:=fz_ 0 hs1.b0;have g1:=fz_ 1 hs1.b0;clear hs1 hq1)|(gi_at_builtin;have hs2:=S1.out.step (br_.alloc le_ (.cells #[.int .i64 i0,.string s0,.int .i64 k0,.bool u0,.bool n0,.int .i64 m0,.string t0] 45));have hnew:=qBs (W1.alloc (.cells #[.int .i64 i0,.string s0,.int .i64 k0,.bool u0,.bool n0,.int .i64 m0,.string t0] 45)) (coV ((i0,s0,(k0,u0),n0,m0,t0):Co)) 45;simp only[World.size_alloc] at hnew;refine qBn rfl (.tmp 39) (.tmp 41) _ rfl X.heap.size 45 ic _ 7 72 qDp ci cz0 cz1 cz2 rfl (by omega) (.slice A1 cs.length c1) cs.length (colV cs) rfl hs2.o1 _ _ 1 1 (coV ((i0,s0,(k0,u0),n0,m0,t0):Co)) rfl rfl hnew HONE.out (by have:=HCL.out;unfold maxLen;omega) (by have:=HCL.out;omega) hs2.hi ?_;intro v1' W5 hown hg;obtain⟨A3,c3,e3,_⟩:=qAf hown;subst e3;have hp:=hs2.cols (by decide) hown hg;have hk2:=(((K1.out).trans (PKp.below (br_.alloc le_ (.cells #[.int .i64 i0,.string s0,.int .i64 k0,.bool u0,.bool n0,.int .i64 m0,.string t0] 45)) (Nat.lt_of_lt_of_le lB (by have:=BW.out.size;simp only[World.size_alloc,World.size_setCell];omega)))).trans (PKp.grown hs2.o1 hg (by have:=hs2.lo;omega) (by have:=hs2.lo;have:=hs2.hi;omega))).trans (PKp.set W5 w.heap.size 0 (.slice A3 (cs.length+1) c3) (by omega));have z0:=(hg.block _ (Array.getElem?_eq_some_iff.1 hs2.b0).1 (fun e=>by have:=(World.ownsRow.lt hs2.o1 _ e.symm).1;have:=hs2.lo;omega)).trans hs2.b0;have z1:=cb_ 0 z0 rfl;have z2:=fz_ 0 z0;have HP5:=hh_ hp;have HK5:=hh_ hk2;clear hs2 hnew hown hg hp hk2 z0))
    have hls:=HLS.out;simp only[Bool.false_eq_true,if_false,if_true] at hls;exact⟨HK5.out.kf,HK5.out.bx,cs++[((i0,s0,(k0,u0),n0,m0,t0):Co)],ks,hls,.slice A3 (cs.length+1) c3,.slice A2 ks.length c2,HP5.out⟩
   |true=>
    gi_wp2_with (first|(refine⟨trivial,?_⟩;gi_at_call 89;refine(CallsIn.inRound l (callsIn_wide.2 HCOL.out)).mono ?_;rintro e W1 ⟨rfl,bw1⟩;simp only[coA];have hs1:=(HST.out.step bw1).step ((Below.refl _ W1).alloc le_ (.cells #[.int .i64 i0,.string s0,.int .i64 k0,.bool u0,.bool n0,.int .i64 m0,.string t0] 45));have hk1:=(PKp.below (base:=X.heap.size) bw1 lB).trans (PKp.below ((Below.refl _ W1).alloc le_ (.cells #[.int .i64 i0,.string s0,.int .i64 k0,.bool u0,.bool n0,.int .i64 m0,.string t0] 45)) (Nat.lt_of_lt_of_le lB bw1.size));have hq1:=qAd W1 (.cells #[.int .i64 i0,.string s0,.int .i64 k0,.bool u0,.bool n0,.int .i64 m0,.string t0] 45);have lw1:w.heap.size≠W1.heap.size:=(by have:=bw1.size;omega);have S1:=hh_ hs1;have K1:=hh_ hk1;have Q1:=hh_ hq1;have BW:=hh_ bw1;clear bw1 hk1;have y0:=cb_ 0 hs1.b0 rfl;have y1:=cb_ 1 hs1.b0 rfl;have g0:=fz_ 0 hs1.b0;have g1:=fz_ 1 hs1.b0;clear hs1 hq1)|(gi_at_builtin;have hs2:=S1.out.step (br_.alloc le_ (.cells #[.int .i64 cs.length] 3));have hnew:=qBs (W1.alloc (.cells #[.int .i64 i0,.string s0,.int .i64 k0,.bool u0,.bool n0,.int .i64 m0,.string t0] 45)) (intV [(cs.length:Int)]) 3;simp only[World.size_alloc] at hnew;refine qBn rfl (.tmp 31) (.tmp 35) _ rfl X.heap.size 3 ii _ 1 8 qFm ki kz0 kz1 kz2 rfl (by omega) (.slice A2 ks.length c2) ks.length (intV ks) rfl hs2.o2 _ _ 1 1 (intV [(cs.length:Int)]) rfl rfl hnew (qFk _) (by have:=HKL.out;unfold maxLen;omega) (by have:=HKL.out;omega) hs2.hi ?_;intro v2' W3 hown hg;obtain⟨A4,c4,e4,_⟩:=qAf hown;subst e4;have hp:=hs2.keys (by decide) hown hg;have hk2:=((K1.out.trans (PKp.below (br_.alloc le_ (.cells #[.int .i64 cs.length] 3)) (Nat.lt_of_lt_of_le lB (by have:=BW.out.size;simp only[World.size_alloc];omega)))).trans (PKp.grown hs2.o2 hg (by have:=hs2.lo;omega) (by have:=hs2.lo;have:=hs2.hi;omega))).trans (PKp.set W3 w.heap.size 1 (.slice A4 (ks.length+1) c4) (by omega));have z0:=(hg.block _ (Array.getElem?_eq_some_iff.1 hs2.b0).1 (fun e=>by have:=(World.ownsRow.lt hs2.o2 _ e.symm).1;have:=hs2.lo;omega)).trans hs2.b0;have z1:=cb_ 1 z0 rfl;have z2:=fz_ 1 z0;have x1:=cb_ 0 z0 rfl;have cb:=(hg.block W1.heap.size (by simp only[World.size_alloc];omega) (fun e=>by have:=(World.ownsRow.lt HST.out.o2 _ e.symm).2;have:=BW.out.size;omega)).trans (bx_ Q1.out _);have cb0:=cb_ 0 cb rfl;have cb1:=cb_ 1 cb rfl;have cb2:=cb_ 2 cb rfl;have cb3:=cb_ 3 cb rfl;have cb4:=cb_ 4 cb rfl;have cb5:=cb_ 5 cb rfl;have cb6:=cb_ 6 cb rfl;have HP3:=hh_ hp;have HK3:=hh_ hk2;have hb3:W.heap.size≤W3.heap.size:=(by have:=hg.size;have:=BW.out.size;simp only[World.size_alloc] at *; omega);have HB3:=hh_ hb3;clear hs2 hnew hown hg hp hk2 z0 cb hb3)|(gi_at_builtin;have hs2:=HP3.out.step (br_.alloc le_ (.cells #[.int .i64 i0,.string s0,.int .i64 k0,.bool u0,.bool n0,.int .i64 m0,.string t0] 45));have hnew:=qBs (W3.setCell ⟨w.heap.size,1,none⟩ (.slice A4 (ks.length+1) c4)) (coV ((i0,s0,(k0,u0),n0,m0,t0):Co)) 45;simp only[World.size_setCell] at hnew;refine qBn rfl (.tmp 39) (.tmp 41) _ rfl X.heap.size 45 ic _ 7 72 qDp ci cz0 cz1 cz2 rfl (by omega) (.slice A1 cs.length c1) cs.length (colV cs) rfl hs2.o1 _ _ 1 1 (coV ((i0,s0,(k0,u0),n0,m0,t0):Co)) rfl rfl hnew HONE.out (by have:=HCL.out;unfold maxLen;omega) (by have:=HCL.out;omega) hs2.hi ?_;intro v1' W5 hown hg;obtain⟨A3,c3,e3,_⟩:=qAf hown;subst e3;have hp:=hs2.cols (by decide) hown hg;have hk2:=(((HK3.out).trans (PKp.below (br_.alloc le_ (.cells #[.int .i64 i0,.string s0,.int .i64 k0,.bool u0,.bool n0,.int .i64 m0,.string t0] 45)) (Nat.lt_of_lt_of_le lB (by have:=HB3.out;simp only[World.size_setCell];omega)))).trans (PKp.grown hs2.o1 hg (by have:=hs2.lo;omega) (by have:=hs2.lo;have:=hs2.hi;omega))).trans (PKp.set W5 w.heap.size 0 (.slice A3 (cs.length+1) c3) (by omega));have z0:=(hg.block _ (Array.getElem?_eq_some_iff.1 hs2.b0).1 (fun e=>by have:=(World.ownsRow.lt hs2.o1 _ e.symm).1;have:=hs2.lo;omega)).trans hs2.b0;have z1:=cb_ 0 z0 rfl;have z2:=fz_ 0 z0;have HP5:=hh_ hp;have HK5:=hh_ hk2;clear hs2 hnew hown hg hp hk2 z0))
    have hls:=HLS.out;simp only[Bool.false_eq_true,if_false,if_true] at hls;exact⟨HK5.out.kf,HK5.out.bx,cs++[((i0,s0,(k0,u0),n0,m0,t0):Co)],ks++[(cs.length:Int)],hls,.slice A3 (cs.length+1) c3,.slice A4 (ks.length+1) c4,HP5.out⟩
 case done=>
  rintro D W hD ⟨cs,ks,v1,v2,h1,hst⟩ hK;obtain⟨hok,hlc,hlk⟩:=qJu (qB3 S) [] cs [] ks (by simp) h1;have hll:=qKx S;simp at hlc hlk;have hpr:=qM2 S;rw[h1] at hpr
  have hp2:(qCh S.data.toList).2.2=true:=by
   cases h:(qCh S.data.toList).2.2 with
   |true=>rfl
   |false=>rw[h] at hpr;simp at hpr
  rw[if_pos hp2] at hpr;simp only[Option.some.injEq,Prod.mk.injEq] at hpr;obtain⟨A1,c1,hv1,hcc1,hcm1⟩:=qAf hst.o1;obtain⟨A2,c2,hv2,hcc2,hcm2⟩:=qAf hst.o2;subst hv1;subst hv2;have hchk:=qGn W A1 A2 cs.length c1 ks.length c2 cs ks (fun c hc=>by have:=qRn (hok c hc);omega) (by omega) (by omega) rfl rfl hst.o1.lay.2 hst.o2.lay.2 (hE.below hst.bel);have hSl:S.data.toList.length=S.size:=by simp
  have hpd:=qRr (s:=S.data.toList) (by omega) hp2;rw[←hpr.1,←hpr.2] at hpd;have y0:=cb_ 0 hst.b0 rfl;have y1:=cb_ 1 hst.b0 rfl;have hB:=hst.lo;unfold qAm at hchk;by_cases hsc:scOk cs ks=true
  · rw[if_pos hsc] at hpd hchk;have HCHK:=hh_ hchk;have HST:=hh_ hst;have HK:=hh_ hK;have HPD:=hh_ hpd;clear hchk hst hK hpd hsc hpr hp2 h1 hok hlc hlk hll hcc1 hcm1 hcc2 hcm2 hst0 q0 q1 q2 q3 bX;gi_wp2_with (refine⟨trivial,?_⟩;gi_at_call 34;refine(callsIn_wide.2 HCHK.out).mono ?_;rintro e W1 ⟨rfl,b1⟩;have hs1:=HST.out.step b1;have hk1:=bk_ HK.out b1;have S1:=hh_ hs1;have K1:=hh_ hk1;have y0:=cb_ 0 hs1.b0 rfl;have y1:=cb_ 1 hs1.b0 rfl;have y2:=cb_ 0 hs1.b1 rfl;have y3:=cb_ 0 hs1.b2 rfl;have g0:=fz_ 0 hs1.b0;have g1:=fz_ 1 hs1.b0;have g2:=fz_ 0 hs1.b1;have g3:=fz_ 0 hs1.b2;clear b1 hs1 hk1)
    have hk2:((((W1.setCell ⟨w.heap.size,0,none⟩ (.slice A1 cs.length c1)).setCell ⟨w.heap.size,1,none⟩ (.slice A2 ks.length c2)).setCell ⟨w.heap.size+1,0,none⟩ (.int .i64 0)).setCell ⟨w.heap.size+1+1,0,none⟩ (.int .i64 0)).heap[D]?=some (.deferred (some [])):=qAj (qAj (qAj (qAj K1.out (by omega) _) (by omega) _) (by omega) _) (by omega) _;have hp:=S1.out.same.grown rfl (grownBy_putObj' _ D (.deferred none)) (fun r e=>by cases e;exact .inr ⟨hD,_,hk2,rfl⟩);have z0:=cb_ 0 hp.b0 rfl;have z1:=cb_ 1 hp.b0 rfl;have z2:=cb_ 0 hp.b1 rfl;have z3:=cb_ 0 hp.b2 rfl;refine⟨by simp,.inl ⟨_,_,rfl,run_takeDeferred hk2,?_⟩⟩;refine⟨.tuple #[.agg #[.slice A1 cs.length c1,.slice A2 ks.length c2],.int .i64 0,.int .i64 0],?_,?_⟩
    · simp[results,Tryz.results49,Tryz.f49,go_sem,z0,z1,z2,z3]
    · have hl1:=hp.o1.lay;have hl2:=hp.o2.lay;refine⟨A1,A2,c1,c2,?_,?_,?_,?_,hp.bel⟩
      · rw[HPD.out];obtain⟨x1,k1,e1,p1,p2⟩:=qAf hp.o1;obtain⟨x2,k2,e2,p3,p4⟩:=qAf hp.o2;cases e1;cases e2;exact⟨p1,p2,p3,p4⟩
      · rw[HPD.out];rfl
      · rw[HPD.out];exact hl1.2
      · rw[HPD.out];exact hl2.2
  · rw[if_neg hsc] at hpd hchk;have HCHK:=hh_ hchk;have HST:=hh_ hst;have HK:=hh_ hK;have HPD:=hh_ hpd;clear hchk hst hK hpd hsc hpr hp2 h1 hok hlc hlk hll hcc1 hcm1 hcc2 hcm2 hst0 q0 q1 q2 q3 bX;gi_wp2_with (refine⟨trivial,?_⟩;gi_at_call 34;refine(callsIn_wide.2 HCHK.out).mono ?_;rintro e W1 ⟨rfl,b1⟩;have hs1:=HST.out.step b1;have hk1:=bk_ HK.out b1;have S1:=hh_ hs1;have K1:=hh_ hk1;have y0:=cb_ 0 hs1.b0 rfl;have y1:=cb_ 1 hs1.b0 rfl;have y2:=cb_ 0 hs1.b1 rfl;have y3:=cb_ 0 hs1.b2 rfl;have g0:=fz_ 0 hs1.b0;have g1:=fz_ 1 hs1.b0;have g2:=fz_ 0 hs1.b1;have g3:=fz_ 0 hs1.b2;clear b1 hs1 hk1)
    have hb0:=qAj (qAj (qEw (two_set0 S1.out.b0 (.slice none 0 0)) (.slice none 0 0)) (show w.heap.size≠w.heap.size+1 by omega) (i:=0) (.int .i64 0)) (show w.heap.size≠w.heap.size+1+1 by omega) (i:=0) (.int .i64 2);have hb1:=qAj (ms_one_set (qAj (qAj S1.out.b1 (show w.heap.size+1≠w.heap.size by omega) (i:=0) (.slice none 0 0)) (show w.heap.size+1≠w.heap.size by omega) (i:=1) (.slice none 0 0)) (.int .i64 0)) (show w.heap.size+1≠w.heap.size+1+1 by omega) (i:=0) (.int .i64 2);have hb2:=ms_one_set (qAj (qAj (qAj S1.out.b2 (show w.heap.size+1+1≠w.heap.size by omega) (i:=0) (.slice none 0 0)) (show w.heap.size+1+1≠w.heap.size by omega) (i:=1) (.slice none 0 0)) (show w.heap.size+1+1≠w.heap.size+1 by omega) (i:=0) (.int .i64 0)) (.int .i64 2);have hk2:((((W1.setCell ⟨w.heap.size,0,none⟩ (.slice none 0 0)).setCell ⟨w.heap.size,1,none⟩ (.slice none 0 0)).setCell ⟨w.heap.size+1,0,none⟩ (.int .i64 0)).setCell ⟨w.heap.size+1+1,0,none⟩ (.int .i64 2)).heap[D]?=some (.deferred (some [])):=qAj (qAj (qAj (qAj K1.out (by omega) _) (by omega) _) (by omega) _) (by omega) _
    have hbel:=(((S1.out.bel.setCell (p:=⟨w.heap.size,0,none⟩) le_ (.slice none 0 0)).setCell (p:=⟨w.heap.size,1,none⟩) le_ (.slice none 0 0)).setCell (p:=⟨w.heap.size+1,0,none⟩) (by simp only;omega) (.int .i64 0)).setCell (p:=⟨w.heap.size+1+1,0,none⟩) (by simp only;omega) (.int .i64 2);have z0:=cb_ 0 (qBe (o':=.deferred none) hb0 (show w.heap.size≠D by omega)) rfl;have z1:=cb_ 1 (qBe (o':=.deferred none) hb0 (show w.heap.size≠D by omega)) rfl;have z2:=cb_ 0 (qBe (o':=.deferred none) hb1 (show w.heap.size+1≠D by omega)) rfl;have z3:=cb_ 0 (qBe (o':=.deferred none) hb2 (show w.heap.size+1+1≠D by omega)) rfl;refine⟨by simp,.inl ⟨_,_,rfl,run_takeDeferred hk2,?_⟩⟩;refine⟨.tuple #[.agg #[.slice none 0 0,.slice none 0 0],.int .i64 0,.int .i64 2],?_,?_⟩
    · simp[results,Tryz.results49,Tryz.f49,go_sem,z0,z1,z2,z3]
    · refine⟨none,none,0,0,?_,?_,?_,?_,hbel.grown (grownBy_putObj' _ D (.deferred none)) hbel.size (fun k e=>by cases e;omega)⟩
      · rw[HPD.out];exact⟨Nat.le_refl 0,Nat.zero_le _,Nat.le_refl 0,Nat.zero_le _⟩
      · rw[HPD.out];rfl
      · rw[HPD.out];intro j u hu;simp[colV] at hu
      · rw[HPD.out];intro j u hu;simp[intV] at hu
 case stop=>
  rintro D c pre W hD ⟨rfl,pre',x,cs,ks,h2,h3,h4,h5,h6,h7,h8⟩ hK;gi_wp2
  have hps:=qQ8 h2 h3 h4;have hSl:S.data.toList.length=S.size:=by simp
  have hpd:=qRj (s:=S.data.toList) (by omega) hps.1;rw[hps.2] at hpd;have z0:=cb_ 0 (qBe (o':=.deferred none) h5 (show w.heap.size≠D by omega)) rfl;have z1:=cb_ 1 (qBe (o':=.deferred none) h5 (show w.heap.size≠D by omega)) rfl;have z2:=cb_ 0 (qBe (o':=.deferred none) h6 (show w.heap.size+1≠D by omega)) rfl;have z3:=cb_ 0 (qBe (o':=.deferred none) h7 (show w.heap.size+2≠D by omega)) rfl;refine⟨by simp,.inl ⟨_,_,rfl,run_takeDeferred hK,?_⟩⟩;refine⟨.tuple #[.agg #[.slice none 0 0,.slice none 0 0],.int .i64 cs.length,.int .i64 4],?_,?_⟩
  · simp[results,Tryz.results49,Tryz.f49,go_sem,z0,z1,z2,z3]
  · refine⟨none,none,0,0,?_,?_,?_,?_,h8.grown (grownBy_putObj' _ D (.deferred none)) h8.size (fun k e=>by cases e;omega)⟩
    · rw[hpd];exact⟨Nat.le_refl 0,Nat.zero_le _,Nat.le_refl 0,Nat.zero_le _⟩
    · rw[hpd];rfl
    · rw[hpd];intro j u hu;simp[colV] at hu
    · rw[hpd];intro j u hu;simp[intV] at hu
end Go.Proofs.YtainiaighnjpfaaGreatDoor
