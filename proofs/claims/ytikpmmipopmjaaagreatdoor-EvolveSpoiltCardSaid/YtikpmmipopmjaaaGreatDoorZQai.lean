/- Evolve's laws: the chapter's examples, walked. Lists that keep their type, and what lies in them. -/
import Derived.Test.YtikpmmipopmjaaaGreatDoorZQah
import Derived.Test.YtikpmmipopmjaaaGreatDoorZQq
set_option linter.unusedVariables false
set_option linter.unusedSimpArgs false
namespace Go.Ms
open Go.RowKit Go.Lib
structure qFk (T:TypeId) (b:Nat) (r:SRef) (s:Sc) (W:World):Prop where
  q:W.heap[b]?=some (.cells #[.slice r.a r.n r.c,.slice r.b r.m r.d] T (0,0))
  lay:qBf W W.heap.size r s
theorem qFk.to {T:TypeId} {b:Nat} {r:SRef} {s:Sc} {W W':World} (h:qFk T b r s W) (hb:Below W.heap.size W W'):qFk T b r s W':=⟨qAb h.q hb,h.lay.to hb⟩
theorem qFk.c0 {T:TypeId} {b:Nat} {r:SRef} {s:Sc} {W:World} (h:qFk T b r s W):W.cell? ⟨b,0,none⟩=some (.slice r.a r.n r.c):=cell_of_block (i:=0) h.q rfl
theorem qFk.c1 {T:TypeId} {b:Nat} {r:SRef} {s:Sc} {W:World} (h:qFk T b r s W):W.cell? ⟨b,1,none⟩=some (.slice r.b r.m r.d):=cell_of_block (i:=1) h.q rfl
theorem qFk.new {T:TypeId} {r:SRef} {s:Sc} {W:World} (h:qBf W W.heap.size r s):qFk T W.heap.size r s (W.alloc (.cells #[.slice r.a r.n r.c,.slice r.b r.m r.d] T)):=⟨qAf _ _,h.to ((Below.refl _ W).alloc (Nat.le_refl _) _)⟩
theorem qFp {w:World} {b:Nat} {xs:List Value} {T:TypeId} (h:w.heap[b]?=some (.cells xs.toArray T (0,0))):Lay w w.heap.size (some ⟨b,0,none⟩) xs:=fun j u hu=>
 ⟨b,0,rfl,(Array.getElem?_eq_some_iff.1 h).1,by rw[Nat.zero_add];exact cell_of_block h (by simpa using hu)⟩
def qQu (l:List Co) (n:Nat):Value→World→Prop:=fun v w=> ∃A c,v=.slice A n c∧Lay w w.heap.size A (colV l)
theorem qNe (l:List Co) (n:Nat):Go.Rel.Stable (qQu l n):=fun v w w' ⟨A,c,h1,h2⟩ hb=>⟨A,c,h1,(h2.below hb).more hb.size⟩
def qP3 (B:Nat) (T:TypeId) (l:List Co) (n:Nat):Value→World→Prop:=fun v w=> ∃A c,v=.slice A n c∧w.ownsRow B T 7 (.slice A n c) n (colV l)
theorem qLi (B:Nat) (T:TypeId) (l:List Co) (n:Nat):Go.Rel.Stable (qP3 B T l n):=fun v w w' ⟨A,c,h1,h2⟩ hb=>⟨A,c,h1,own_below h2 hb⟩
def isSc (s:Sc):Value→World→Prop:=fun v w=> ∃r:SRef,v=.agg #[.slice r.a r.n r.c,.slice r.b r.m r.d]∧qBf w w.heap.size r s
theorem qEt (s:Sc):Go.Rel.Stable (isSc s):=fun v w w' ⟨r,h1,h2⟩ hb=>⟨r,h1,h2.to hb⟩
def EffT (T:TypeId) (w w':World):Prop:= ∃b:Option Nat,w.grownBy w' b∧∀g,b=some g→∃cs fz,w.heap[g]?=some (.cells cs T fz)
theorem EffT.own {w w':World} {B s n:Nat} {e:TypeId} {v:Value} {xs:List Value} (h:w.ownsRow B e s v n xs) (hg:w.grownBy w' v.ownBlock):EffT e w w':=by
 refine⟨_,hg,fun g hv=>?_⟩
 rcases h.2 with⟨hv',_⟩|⟨g',cap,cur,hv',_,hgb,_⟩
 · rw[hv'] at hv;simp[Value.ownBlock] at hv
 · rw[hv'] at hv
   simp[Value.ownBlock] at hv
   subst hv;exact⟨_,_,hgb⟩
theorem EffT.keep {T:TypeId} {w w':World} (h:EffT T w w') {b:Nat} {cs:Array Value} {T':TypeId} (hb:w.heap[b]?=some (.cells cs T' (0,0))) (hne:T'≠T):w'.heap[b]?=some (.cells cs T' (0,0)):=by
 obtain⟨r,hg,hr⟩:=h;refine(hg.block b (Array.getElem?_eq_some_iff.1 hb).1 (fun e=>?_)).trans hb;obtain⟨cs',fz,h2⟩:=hr b e.symm;rw[hb] at h2
 cases h2
 exact hne rfl
theorem qT8 {T T':TypeId} (n:Nat) (cs:Array Value) (hne:T'≠T):Go.Rel.StabE (EffT T) (Go.Rel.newS n cs T'):=fun v w w' ⟨g,h1,h2⟩ he=>⟨g,h1,he.keep h2 hne⟩
def qWj (B:Nat) (cs:Array Value) (T:TypeId):Value→World→Prop:=fun v w=> ∃g,v=.pointer (some ⟨g,0,none⟩)∧B≤g∧w.heap[g]?=some (.cells cs T (0,0))
theorem qOy (B:Nat) (cs:Array Value) (T:TypeId):Go.Rel.Stable (qWj B cs T):=fun v w w' ⟨g,h1,h3,h2⟩ hb=>⟨g,h1,h3,qAb h2 hb⟩
theorem qSd {T T':TypeId} (B:Nat) (cs:Array Value) (hne:T'≠T):Go.Rel.StabE (EffT T) (qWj B cs T'):=fun v w w' ⟨g,h1,h3,h2⟩ he=>⟨g,h1,h3,he.keep h2 hne⟩
open Go.Rel in
theorem qHp {P:Program} {w:World} {o:Oper} {ev:Operand→Value} {K:Value→World→Prop} (s x:Operand) (t:TypeId)
    (ho:o.op=.call { callee:=.builtin .append,args:=#[s,x],argTypes:=#[t,t] })
    (base:Nat) (e:TypeId) (i:TypeInfo) (z:Value) (size bytes:Nat) (ht:P.underlying t=some (.slice e)) (hi:P.info? e=some i) (hz:i.zero=some z)
    (hsize:i.size=size) (hby:i.bytes=bytes) (hzs:z.cells.size=size) (hsz:0<size)
    (v:Value) (n:Nat) (xs:List Value) (hs:ev s=v) (hown:w.ownsRow base e size v n xs) (B:Nat) (A:Option Addr) (m c:Nat) (news:List Value) (hx:ev x=.slice A m c) (hl:news.length=m*size) (hnews:Lay w B A news) (h1:∀u∈news,u.oneCell'=true)
    (h63:n+m≤maxLen) (hbytes:(n+m)*bytes≤140737488355328) (hbase:base≤w.heap.size)
    (h:∀v' w',w'.ownsRow base e size v' (n+m) (xs++news)→w.grownBy w' v.ownBlock→K v' w'):qCq P K ((execOp ev o).run P w):=by
 obtain⟨v',w',hr,h2,h3⟩:=qDx (P:=P) w base t o.type e i z size bytes ht hi hz hsize hby hzs hsz v n xs hown B A m c news hl hnews h1 h63 hbytes hbase;unfold execOp;simp only[ho,resolve,invoke,builtin,Sem.run_bind,Sem.run_pure,Result.andThen_ok,List.map_toArray,List.map_cons,List.map_nil,hs,hx,hr];exact h v' w' h2 h3
structure WkB (T TC:TypeId) (g1 g2 g3 g4 g5:Nat) (ra rb ro rx:SRef) (w W:World):Prop where
  x1:qFk T g1 ra eW0 W
  x2:qFk T g2 rb eW1 W
  x3:qFk T g3 ro eW2 W
  x4:qFk T g4 rx qR7 W
  row:W.heap[g5]?=some (.cells (rowV eWr).toArray TC (0,0))
  bel:Below w.heap.size w W
theorem WkB.to {T TC:TypeId} {g1 g2 g3 g4 g5:Nat} {ra rb ro rx:SRef} {w W W':World} (h:WkB T TC g1 g2 g3 g4 g5 ra rb ro rx w W) (hb:Below W.heap.size W W'):WkB T TC g1 g2 g3 g4 g5 ra rb ro rx w W':=
  ⟨h.x1.to hb,h.x2.to hb,h.x3.to hb,h.x4.to hb,qAb h.row hb,h.bel.trans (hb.mono h.bel.size)⟩
theorem WkB.start {T TC:TypeId} {w W3 wz:World} {g1 g2 g3 g4:Nat} {ra rb ro rx:SRef} (h1:qFk T g1 ra eW0 W3) (h2:qFk T g2 rb eW1 W3) (h3:qFk T g3 ro eW2 W3) (hb:Below w.heap.size w W3) (bz:Below W3.heap.size W3 wz) (hg4:W3.heap.size≤g4)
    (q4:wz.heap[g4]?=some (.cells #[.slice none 0 0,.slice none 0 0] T (0,0))) (l4:qBf wz wz.heap.size rx qR7) :
    WkB T TC g1 g2 g3 g4 wz.heap.size ra rb ro rx w (((wz.setCell ⟨g4,0,none⟩ (.slice rx.a rx.n rx.c)).setCell ⟨g4,1,none⟩ (.slice rx.b rx.m rx.d)).alloc (.cells (rowV eWr).toArray TC)):=by
 have b5:Below W3.heap.size W3 (((wz.setCell ⟨g4,0,none⟩ (.slice rx.a rx.n rx.c)).setCell ⟨g4,1,none⟩ (.slice rx.b rx.m rx.d)).alloc (.cells (rowV eWr).toArray TC)):=
   ((bz.setCell (p:=⟨g4,0,none⟩) hg4 _).setCell (p:=⟨g4,1,none⟩) hg4 _).alloc (by simp only[World.size_setCell];exact bz.size) _
 have q5:=two_set0 q4 (.slice rx.a rx.n rx.c);have q6:=qDd q5 (.slice rx.b rx.m rx.d);have bl:=(Below.refl ((wz.setCell ⟨g4,0,none⟩ (.slice rx.a rx.n rx.c)).setCell ⟨g4,1,none⟩ (.slice rx.b rx.m rx.d)).heap.size ((wz.setCell ⟨g4,0,none⟩ (.slice rx.a rx.n rx.c)).setCell ⟨g4,1,none⟩ (.slice rx.b rx.m rx.d))).alloc (Nat.le_refl _) (.cells (rowV eWr).toArray TC);refine⟨h1.to b5,h2.to b5,h3.to b5,⟨qAe q6 _,?_⟩,?_,hb.trans (b5.mono hb.size)⟩
 · have la:=(l4.la.off q4 (qD5 _) (.slice rx.a rx.n rx.c) (i:=0)).off q5 (qD5 _) (.slice rx.b rx.m rx.d) (i:=1);have lb:=(l4.lb.off q4 (qD6 _) (.slice rx.a rx.n rx.c) (i:=0)).off q5 (qD6 _) (.slice rx.b rx.m rx.d) (i:=1)
   have hs:wz.heap.size=((wz.setCell ⟨g4,0,none⟩ (.slice rx.a rx.n rx.c)).setCell ⟨g4,1,none⟩ (.slice rx.b rx.m rx.d)).heap.size:=by simp only[World.size_setCell]
   rw[hs] at la lb;exact(qBf.mk l4.n l4.m l4.nn l4.mm la lb).to bl
 · have:=qAf ((wz.setCell ⟨g4,0,none⟩ (.slice rx.a rx.n rx.c)).setCell ⟨g4,1,none⟩ (.slice rx.b rx.m rx.d)) (.cells (rowV eWr).toArray TC);simp only[World.size_setCell] at this;exact this
theorem qD7:ScSz eW0.1∧ScSz eW1.1∧ScSz eW2.1∧ScSz eW3.1∧ScSz eW4.1∧ScSz eW5.1∧ScSz eW6.1∧ScSz eW7.1∧ScSz eW8.1∧ScSz qR7.1:=by
 unfold ScSz
 refine⟨?_,?_,?_,?_,?_,?_,?_,?_,?_,?_⟩ <;> decide
theorem qN4:∀c∈eWr,c.2.2.size≤100000:=by decide
theorem qO0 {W:World} {g n:Nat} {T:TypeId} {l:List Cl} (h:W.heap[g]?=some (.cells (rowV l).toArray T (0,0))) (hn:n≤l.length) (hl:n≤100000) (hz:∀c∈l,c.2.2.size≤100000):qJg W (some ⟨g,0,none⟩) n (l.take n):=by
 refine⟨by rw[List.length_take];omega,hl,?_,fun c hc=>hz c (List.mem_of_mem_take hc)⟩;have h1:=qFp (xs:=rowV l) h
 have e:rowV l=rowV (l.take n)++rowV (l.drop n):=by rw[←qGt,List.take_append_drop]
 rw[e] at h1
 intro j u hu
 exact h1 j u (by rw[List.getElem?_append_left ((List.getElem?_eq_some_iff.1 hu).1)];exact hu)
structure RowL (W:World) (A:Option Addr) (l:List Cl):Prop where
  lay:Lay W W.heap.size A (rowV l)
theorem RowL.to {W W':World} {A:Option Addr} {l:List Cl} (h:RowL W A l) (hb:Below W.heap.size W W'):RowL W' A l:=⟨(h.lay.below hb).more hb.size⟩
def qN8 (E:Int):Value→World→Prop:=fun v w=> ∃A c,v=.tuple #[.slice A 0 c,.int .i64 E]
theorem qH8 (E:Int):Go.Rel.Stable (qN8 E):=fun _ _ _ h _=>h
def qQq:Value→World→Prop:=fun v w=> ∃A c,v=.slice A 0 c
theorem qG8:Go.Rel.Stable qQq:=fun _ _ _ h _=>h
theorem qT7 {W:World} {g:Nat} {T:TypeId} {rs:List SRef} {ss:List Sc} (h:W.heap[g]?=some (.cells (scsV rs).toArray T (0,0))) (hl:rs.length=ss.length) (he:∀(i:Nat) r s,rs[i]?=some r→ss[i]?=some s→qBf W W.heap.size r s):qDb W W.heap.size (some ⟨g,0,none⟩) rs ss:=⟨hl,qFp h,he⟩
theorem qLq {W:World} {B:Nat} {r1 r2 r3:SRef} {s1 s2 s3:Sc} (h1:qBf W B r1 s1) (h2:qBf W B r2 s2) (h3:qBf W B r3 s3):∀(i:Nat) r s,[r1,r2,r3][i]?=some r→[s1,s2,s3][i]?=some s→qBf W B r s:=by
 intro i r s hr hs
 match i,hr,hs with
 |0,hr,hs=>simp at hr hs;subst hr hs;exact h1
 |1,hr,hs=>simp at hr hs;subst hr hs;exact h2
 |2,hr,hs=>simp at hr hs;subst hr hs;exact h3
 |i+3,hr,hs=>simp at hr
end Go.Ms
namespace Go.Proofs.YtikpmmipopmjaaaGreatDoor
open Go.RowKit Go.Ms Go.Lib Go.Shelf Go.Rel
abbrev WkB0 (g1 g2 g3 g4 g5:Nat) (ra rb ro rx:SRef) (w W:World):Prop:=WkB 25 57 g1 g2 g3 g4 g5 ra rb ro rx w W
section
variable {g1 g2 g3 g4 g5:Nat} {ra rb ro rx:SRef} {w W:World}
theorem zB8 (h:WkB0 g1 g2 g3 g4 g5 ra rb ro rx w W) (hE:Env W):Calls Tryz.prog 15 #[.agg #[.slice ra.a ra.n ra.c,.slice ra.b ra.m ra.d],.agg #[.slice ra.a ra.n ra.c,.slice ra.b ra.m ra.d],.slice (some ⟨g5,0,none⟩) 2 2] W (qE6 W eWr 0):=by
 have:=qJq ra ra eW0 eW0 (some ⟨g5,0,none⟩) 2 2 eWr W h.x1.lay h.x1.lay qD7.1 qD7.1 (qO0 h.row (n:=2) (by decide) (by decide) qN4) hE;rw[ew_0] at this;exact this
theorem zBh (h:WkB0 g1 g2 g3 g4 g5 ra rb ro rx w W) (hE:Env W):Calls Tryz.prog 15 #[.agg #[.slice ra.a ra.n ra.c,.slice ra.b ra.m ra.d],.agg #[.slice rb.a rb.n rb.c,.slice rb.b rb.m rb.d],.slice (some ⟨g5,0,none⟩) 2 2] W (qE6 W eWy 0):=by
 have:=qJq ra rb eW0 eW1 (some ⟨g5,0,none⟩) 2 2 eWr W h.x1.lay h.x2.lay qD7.1 qD7.2.1 (qO0 h.row (n:=2) (by decide) (by decide) qN4) hE;rw[ew_1] at this;exact this
theorem zBo (h:WkB0 g1 g2 g3 g4 g5 ra rb ro rx w W) (c:Nat) (hE:Env W):Calls Tryz.prog 15 #[.agg #[.slice ra.a ra.n ra.c,.slice ra.b ra.m ra.d],.agg #[.slice rb.a rb.n rb.c,.slice rb.b rb.m rb.d],.slice (some ⟨g5,0,none⟩) 1 c] W (qE6 W [] 100):=by
 have:=qJq ra rb eW0 eW1 (some ⟨g5,0,none⟩) 1 c (eWr.take 1) W h.x1.lay h.x2.lay qD7.1 qD7.2.1 (qO0 h.row (n:=1) (by decide) (by decide) qN4) hE;rw[ew_2] at this;exact this
theorem zBy (h:WkB0 g1 g2 g3 g4 g5 ra rb ro rx w W) (hE:Env W) (f t:Int) (hf: -9223372036854775808≤f∧f≤9223372036854775807) (ht: -9223372036854775808≤t∧t≤9223372036854775807) {R:List Cl} {E:Int} (he:qCe [eW0,eW2,eW1] f t eWr=(R,E)) {g:Nat} (hg:W.heap[g]?=some (.cells (scsV [ra,ro,rb]).toArray 25 (0,0))) :
    Calls Tryz.prog 23 #[.slice (some ⟨g,0,none⟩) 3 3,.int .i64 f,.int .i64 t,.slice (some ⟨g5,0,none⟩) 2 2] W (qE6 W R E):=by
 have:=qN0 W (some ⟨g,0,none⟩) 3 3 [ra,ro,rb] [eW0,eW2,eW1] f t (some ⟨g5,0,none⟩) 2 2 eWr (by decide) rfl (qT7 hg rfl (qLq h.x1.lay h.x3.lay h.x2.lay)) (by intro s hs;simp at hs;rcases hs with rfl|rfl|rfl;exact qD7.1;exact qD7.2.2.1;exact qD7.2.1) hf ht (qO0 h.row (n:=2) (by decide) (by decide) qN4) hE;rw[he] at this;exact this
theorem qHg {r1 r2:SRef} {s1 s2:Sc} {E:Int} (h1:qBf W W.heap.size r1 s1) (h2:qBf W W.heap.size r2 s2) (z1:ScSz s1.1) (z2:ScSz s2.1) (he:qBh s1 s2=E) (hE:Env W) :
    Calls Tryz.prog 17 #[.agg #[.slice r1.a r1.n r1.c,.slice r1.b r1.m r1.d],.agg #[.slice r2.a r2.n r2.c,.slice r2.b r2.m r2.d]] W fun e w'=>e=.returned (.int .i64 E)∧Below W.heap.size W w':=by
 have:=qFs r1.a r1.b r1.n r1.c r1.m r1.d s1.1 s1.2 r2.a r2.b r2.n r2.c r2.m r2.d s2.1 s2.2 W h1.n h1.m h1.nn h1.mm h1.la h1.lb z1 h2.n h2.m h2.nn h2.mm h2.la h2.lb z2 hE;rw[show qBh (s1.1,s1.2) (s2.1,s2.2)=E from he] at this;exact this
theorem zC9 (h:WkB0 g1 g2 g3 g4 g5 ra rb ro rx w W) (hE:Env W) {g:Nat} (hg:W.heap[g]?=some (.cells (scsV [ra,ro,ra]).toArray 25 (0,0))) :
    Calls Tryz.prog 25 #[.slice (some ⟨g,0,none⟩) 3 3] W fun e w'=>e=.returned (.int .i64 120)∧Below W.heap.size W w':=by
 have:=qFb W (some ⟨g,0,none⟩) 3 3 [ra,ro,ra] [eW0,eW2,eW0] (by decide) rfl (qT7 hg rfl (qLq h.x1.lay h.x3.lay h.x1.lay)) (by intro s hs;simp only[List.mem_cons,List.not_mem_nil,or_false] at hs;rcases hs with rfl|rfl|rfl <;> first|exact qD7.1|exact qD7.2.2.1) hE;rw[zDc] at this;exact this
theorem zCn (hE:Env W):Calls Tryz.prog 25 #[.slice none 0 0] W fun e w'=>e=.returned (.int .i64 0)∧Below W.heap.size W w':=by
 have:=qFb W none 0 0 [] [] (by decide) rfl ⟨rfl,fun j u hu=>by simp[scsV] at hu,fun i r s hr=>by simp at hr⟩ (by intro s hs;simp at hs) hE;rw[zC7] at this;exact this
end
end Go.Proofs.YtikpmmipopmjaaaGreatDoor
set_option linter.unusedSimpArgs false
namespace Go.Ms
open Go.RowKit Go.Lib
def TyAt (W:World) (A:Option Addr) (T:TypeId):Prop:= ∀g o,A=some ⟨g,o,none⟩→∃cs,W.heap[g]?=some (.cells cs T (0,0))
theorem TyAt.to {W W':World} {A:Option Addr} {T:TypeId} (h:TyAt W A T) (hb:Below W.heap.size W W'):TyAt W' A T:=fun g o e=>by
 obtain⟨cs,hc⟩:=h g o e;exact⟨cs,qAb hc hb⟩
theorem TyAt.eff {W W':World} {A:Option Addr} {T T':TypeId} (h:TyAt W A T) (he:EffT T' W W') (hn:T≠T'):TyAt W' A T:=fun g o e=>by
 obtain⟨cs,hc⟩:=h g o e;exact⟨cs,he.keep hc hn⟩
theorem TyAt.own {W:World} {B s n n' c:Nat} {e:TypeId} {A:Option Addr} {xs:List Value} (h:W.ownsRow B e s (.slice A n c) n' xs):TyAt W A e:=fun g o ea=>by
 rcases h.2 with⟨hv,_⟩|⟨g',cap,cur,hv,_,hgb,_⟩
 · cases hv;cases ea
 · cases hv
   cases ea
   exact⟨cur,hgb⟩
theorem EffT.size {T:TypeId} {W W':World} (h:EffT T W W'):W.heap.size≤W'.heap.size:=by obtain⟨b,hg,_⟩:=h;exact hg.size
theorem EffT.set {T:TypeId} {W:World} {b:Nat} {cs:Array Value} (h:W.heap[b]?=some (.cells cs T (0,0))) (i:Nat) (u:Value):EffT T W (W.setCell ⟨b,i,none⟩ u):=⟨some b,qAm W b i u,fun g e=>by cases e;exact⟨cs,_,h⟩⟩
theorem Lay.eff {W W':World} {B:Nat} {A:Option Addr} {xs:List Value} {T T':TypeId} (h:Lay W B A xs) (ht:TyAt W A T) (he:EffT T' W W') (hn:T≠T'):Lay W' B A xs:=fun j u hu=>by
 obtain⟨g,o,e,hlt,hc⟩:=h j u hu;obtain⟨cs,hb⟩:=ht g o e;refine⟨g,o,e,hlt,?_⟩;have hb2:=he.keep hb hn;unfold World.cell? at hc ⊢;simp only at hc ⊢;rw[hb2];rw[hb] at hc;exact hc
structure ScT (tC tI:TypeId) (W:World) (r:SRef) (s:Sc):Prop where
  lay:qBf W W.heap.size r s
  ta:TyAt W r.a tC
  tb:TyAt W r.b tI
theorem ScT.to {tC tI:TypeId} {W W':World} {r:SRef} {s:Sc} (h:ScT tC tI W r s) (hb:Below W.heap.size W W'):ScT tC tI W' r s:=⟨h.lay.to hb,h.ta.to hb,h.tb.to hb⟩
theorem ScT.eff {tC tI tS:TypeId} {W W':World} {r:SRef} {s:Sc} (h:ScT tC tI W r s) (he:EffT tS W W') (n1:tC≠tS) (n2:tI≠tS):ScT tC tI W' r s:=
  ⟨⟨h.lay.n,h.lay.m,h.lay.nn,h.lay.mm,(h.lay.la.eff h.ta he n1).more he.size,(h.lay.lb.eff h.tb he n2).more he.size⟩,h.ta.eff he n1,h.tb.eff he n2⟩
structure ChB (tD tS tC tI:TypeId) (va:Array Value) (v:Value) (r:SRef) (rs:List SRef) (ss:List Sc) (s:List Co) (w W:World):Prop where
  b1:W.heap[w.heap.size]?=some (.cells va tD (0,0))
  b4:W.heap[w.heap.size+4]?=some (.cells #[.slice r.a r.n r.c,.slice r.b r.m r.d] tS (0,0))
  own:W.ownsRow (w.heap.size+5) tS 2 v rs.length (scsV rs)
  each:∀(i:Nat) r s,rs[i]?=some r→ss[i]?=some s→ScT tC tI W r s
  cur:ScT tC tI W r (s,[0])
  len:rs.length=ss.length
  bel:Below w.heap.size w W
  sz:w.heap.size+5≤W.heap.size
section
variable {tD tS tC tI:TypeId} {va:Array Value} {v:Value} {r:SRef} {rs:List SRef} {ss:List Sc} {s:List Co} {w W W':World}
theorem ChB.to (h:ChB tD tS tC tI va v r rs ss s w W) (hb:Below W.heap.size W W'):ChB tD tS tC tI va v r rs ss s w W':=
  ⟨qAb h.b1 hb,qAb h.b4 hb,own_below h.own hb,fun i r s h1 h2=>(h.each i r s h1 h2).to hb,h.cur.to hb,h.len,h.bel.trans (hb.mono h.bel.size),Nat.le_trans h.sz hb.size⟩
theorem ChB.scs (h:ChB tD tS tC tI va v r rs ss s w W):∃A c,v=.slice A rs.length c∧qDb W W.heap.size A rs ss:=by
 obtain⟨A,c,rfl,-,-⟩:=qAg h.own;exact⟨A,c,rfl,h.len,Lay.of_own h.own (Nat.le_refl _),fun i r s h1 h2=>(h.each i r s h1 h2).lay⟩
theorem ChB.next (h:ChB tD tS tC tI va v r rs ss s w W) (n0:tD≠tS) (n1:tC≠tS) (n2:tI≠tS) {r':SRef} {s':List Co} (hc:ScT tC tI W r' (s',[0])) :
    ChB tD tS tC tI va v r' rs ss s' w ((W.setCell ⟨w.heap.size+4,0,none⟩ (.slice r'.a r'.n r'.c)).setCell ⟨w.heap.size+4,1,none⟩ (.slice r'.b r'.m r'.d)):=by
 have q5:=two_set0 h.b4 (.slice r'.a r'.n r'.c);have e1:=EffT.set h.b4 0 (.slice r'.a r'.n r'.c);have e2:=EffT.set q5 1 (.slice r'.b r'.m r'.d);refine⟨e2.keep (e1.keep h.b1 n0) n0,qDd q5 _,own_set' (own_set' h.own (by omega) _) (by omega) _,fun i r s h1 h2=>((h.each i r s h1 h2).eff e1 n1 n2).eff e2 n1 n2,(hc.eff e1 n1 n2).eff e2 n1 n2,h.len,?_,by simp only[World.size_setCell];exact h.sz⟩;exact(h.bel.setCell (p:=⟨w.heap.size+4,0,none⟩) (by simp only;omega) _).setCell (p:=⟨w.heap.size+4,1,none⟩) (by simp only;omega) _
theorem ChB.push (h:ChB tD tS tC tI va v r rs ss s w W) (n0:tD≠tS) (n1:tC≠tS) (n2:tI≠tS) {v':Value} (ho:W'.ownsRow (w.heap.size+5) tS 2 v' (rs.length+1) (scsV rs++r.vs)) (hg:W.grownBy W' v.ownBlock) :
    ChB tD tS tC tI va v' r (rs++[r]) (ss++[(s,[0])]) s w W':=by
 have he:=EffT.own h.own hg
 have hne:∀k:Nat,k<w.heap.size+5→some k≠v.ownBlock:=fun k hk e=>by have:=(World.ownsRow.lt h.own k e.symm).1;omega
 refine⟨he.keep h.b1 n0,(hg.block _ (Array.getElem?_eq_some_iff.1 h.b4).1 (hne _ (by omega))).trans h.b4,?_,fun i r' s' h1 h2=>?_,h.cur.eff he n1 n2,by rw[List.length_append,List.length_append,h.len];rfl,qBr h.own h.bel h.bel.size (by omega) hg,Nat.le_trans h.sz hg.size⟩
 · rw[List.length_append,qNh,show scsV [r]=r.vs by simp[scsV]];exact ho
 · by_cases hi:i<rs.length
   · rw[List.getElem?_append_left hi] at h1;rw[List.getElem?_append_left (by rw[←h.len];exact hi)] at h2;exact(h.each i r' s' h1 h2).eff he n1 n2
   · have h3:=(List.getElem?_eq_some_iff.1 h1).1;rw[List.length_append,List.length_singleton] at h3
     obtain rfl:i=rs.length:=by omega
     rw[List.getElem?_append_right (Nat.le_refl _),Nat.sub_self] at h1;rw[List.getElem?_append_right (by rw[h.len];exact Nat.le_refl _),h.len,Nat.sub_self] at h2
     cases h1
     cases h2
     exact h.cur.eff he n1 n2
end
end Go.Ms
namespace Go.Proofs.YtikpmmipopmjaaaGreatDoor
open Go.RowKit Go.Ms Go.Lib
theorem qHh:(Tryz.prog.info? 25).map (fun i=>(i.zero,i.size,i.bytes))=some (some (.agg #[.slice none 0 0,.slice none 0 0]),2,48):=by kernel_rfl
end Go.Proofs.YtikpmmipopmjaaaGreatDoor
