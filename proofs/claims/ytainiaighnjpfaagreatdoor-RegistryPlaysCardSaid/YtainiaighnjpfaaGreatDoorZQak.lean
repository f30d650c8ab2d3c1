/- Schemas: columns of one's own, stored; a schema cut. Registry's laws: a registry, and two rows of versions that are kept. Registries by definition: what lies of one. Registries by definition: place. The reference of evolve: may a column follow one of the same id? Evolve: two boxes of a call's own; columns as they stand (plain). The reference of evolve: the greatest id. Schemas: Place and Named, as the reference answers. -/
import Derived.Test.YtainiaighnjpfaaGreatDoorZQaj
import Derived.Sort.Walk0
set_option maxHeartbeats 4000000
set_option maxRecDepth 100000
set_option linter.unusedVariables false
set_option linter.unusedSimpArgs false
namespace Go.Ms
open Go.RowKit Go.Lib
theorem qP5:∀(l:List Co) (k:Nat) (c:Co),k<l.length→((((((((colV l).set (k*7) (.int .i64 c.1)).set (k*7+1) (.string c.2.1)).set (k*7+2) (.int .i64 c.2.2.1.1)).set (k*7+3) (.bool c.2.2.1.2)).set (k*7+4) (.bool c.2.2.2.1)).set (k*7+5) (.int .i64 c.2.2.2.2.1)).set (k*7+6) (.string c.2.2.2.2.2))=colV (l.set k c)
  |[],k,c,h=>by simp at h
  |a::t,0,c,h=>rfl
  |a::t,k+1,c,h=>by
   have ih:=qP5 t k c (by simpa using h);have ec:∀(x:Co) (m:List Co),colV (x::m)=.int .i64 x.1::.string x.2.1::.int .i64 x.2.2.1.1::.bool x.2.2.1.2::.bool x.2.2.2.1::.int .i64 x.2.2.2.2.1::.string x.2.2.2.2.2::colV m:=fun _ _=>rfl
   have e0:(k+1)*7=k*7+7:=by omega
   rw[List.set_cons_succ,ec,ec,e0];simp only[Nat.add_assoc,Nat.reduceAdd,List.set_cons_succ];rw[ih]
theorem qTy {w:World} {B n cap g:Nat} {e:TypeId} {l:List Co} {k:Nat} {c:Co} (h:qBw w B e (.slice (some ⟨g,0,none⟩) n cap) l) (hc:l[k]?=some c) :
    w.cell? ⟨g,k*7,none⟩=some (.int .i64 c.1)∧w.cell? ⟨g,k*7+1,none⟩=some (.string c.2.1)∧w.cell? ⟨g,k*7+2,none⟩=some (.int .i64 c.2.2.1.1)∧w.cell? ⟨g,k*7+3,none⟩=some (.bool c.2.2.1.2)∧w.cell? ⟨g,k*7+4,none⟩=some (.bool c.2.2.2.1)∧w.cell? ⟨g,k*7+5,none⟩=some (.int .i64 c.2.2.2.2.1)∧w.cell? ⟨g,k*7+6,none⟩=some (.string c.2.2.2.2.2)∧
    w.frozen? ⟨g,k*7,none⟩=false∧w.frozen? ⟨g,k*7+1,none⟩=false∧w.frozen? ⟨g,k*7+2,none⟩=false∧w.frozen? ⟨g,k*7+3,none⟩=false∧w.frozen? ⟨g,k*7+4,none⟩=false∧w.frozen? ⟨g,k*7+5,none⟩=false∧w.frozen? ⟨g,k*7+6,none⟩=false:=by
 have hl:=h.lay;have hk:k<l.length:=(List.getElem?_eq_some_iff.1 hc).1;have k7:=qI2 l k c hc;have h':w.ownsRow B e 7 (.slice (some ⟨g,0,none⟩) n cap) n (colV l):=by unfold qBw at h;rw[←hl.1] at h;exact h
 have hn:=hl.1;have hcell:∀j,j<n*7→w.cell? ⟨g,j,none⟩=(colV l)[j]?:=fun j hj=>World.ownsRow.cellAt h' j hj
 refine⟨(hcell _ (by omega)).trans (k7 0 _ rfl),(hcell _ (by omega)).trans (k7 1 _ rfl),(hcell _ (by omega)).trans (k7 2 _ rfl),(hcell _ (by omega)).trans (k7 3 _ rfl),(hcell _ (by omega)).trans (k7 4 _ rfl),(hcell _ (by omega)).trans (k7 5 _ rfl),(hcell _ (by omega)).trans (k7 6 _ rfl),
   World.ownsRow.frozenAt h' _,World.ownsRow.frozenAt h' _,World.ownsRow.frozenAt h' _,World.ownsRow.frozenAt h' _,World.ownsRow.frozenAt h' _,World.ownsRow.frozenAt h' _,World.ownsRow.frozenAt h' _⟩
theorem qS4 {w:World} {B n cap g:Nat} {e:TypeId} {l:List Co} {k:Nat} (h:qBw w B e (.slice (some ⟨g,0,none⟩) n cap) l) (hk:k<l.length) (c:Co) :
    qBw (((((((w.setCell ⟨g,k*7,none⟩ (.int .i64 c.1)).setCell ⟨g,k*7+1,none⟩ (.string c.2.1)).setCell ⟨g,k*7+2,none⟩ (.int .i64 c.2.2.1.1)).setCell ⟨g,k*7+3,none⟩ (.bool c.2.2.1.2)).setCell ⟨g,k*7+4,none⟩ (.bool c.2.2.2.1)).setCell ⟨g,k*7+5,none⟩ (.int .i64 c.2.2.2.2.1)).setCell ⟨g,k*7+6,none⟩ (.string c.2.2.2.2.2)) B e (.slice (some ⟨g,0,none⟩) n cap) (l.set k c):=by
 have hl:=h.lay;have h':w.ownsRow B e 7 (.slice (some ⟨g,0,none⟩) n cap) n (colV l):=by unfold qBw at h;rw[←hl.1] at h;exact h
 unfold qBw;rw[List.length_set,←hl.1,←qP5 l k c hk];exact(World.ownsRow.stored (World.ownsRow.stored (World.ownsRow.stored (World.ownsRow.stored (World.ownsRow.stored (World.ownsRow.stored (World.ownsRow.stored h' _ _).1 _ _).1 _ _).1 _ _).1 _ _).1 _ _).1 _ _).1
def qEp (c:Co):Co:=(c.1,c.2.1.extract 0 (min c.2.1.size 40),c.2.2.1,(c.2.2.2.1,c.2.2.2.2.1,c.2.2.2.2.2.extract 0 (min c.2.2.2.2.2.size 1100)))
theorem qVg {l:List Co} {k:Nat} {c:Co} (hc:l[k]?=some c):(((l.take k).map qEp++l.drop k).set k (qEp c))=(l.take (k+1)).map qEp++l.drop (k+1):=by
 have hk:k<l.length:=(List.getElem?_eq_some_iff.1 hc).1;have e1:((l.take k).map qEp).length=k:=by rw[List.length_map,List.length_take];omega
 have e2:l.drop k=c::l.drop (k+1):=by
  have:=List.getElem?_eq_some_iff.1 hc;rw[List.drop_eq_getElem_cons hk,this.2]
 rw[List.set_append_right _ _ (by omega),e1,Nat.sub_self,e2,List.set_cons_zero,List.take_add_one,hc];simp
theorem zA6 {l:List Co} {k:Nat} {c:Co} (hc:l[k]?=some c):((l.take k).map qEp++l.drop k)[k]?=some c:=by
 have hk:k<l.length:=(List.getElem?_eq_some_iff.1 hc).1;have e1:((l.take k).map qEp).length=k:=by rw[List.length_map,List.length_take];omega
 rw[List.getElem?_append_right (by omega),e1,Nat.sub_self,List.getElem?_drop];exact hc
theorem zAe (w:World) (g i:Nat) (a b c d e f x:Value):w.grownBy (((((((w.setCell ⟨g,i,none⟩ a).setCell ⟨g,i+1,none⟩ b).setCell ⟨g,i+2,none⟩ c).setCell ⟨g,i+3,none⟩ d).setCell ⟨g,i+4,none⟩ e).setCell ⟨g,i+5,none⟩ f).setCell ⟨g,i+6,none⟩ x) (some g):=
  (((((((qBb w g i a).trans (qBb _ g (i+1) b)).trans (qBb _ g (i+2) c)).trans (qBb _ g (i+3) d)).trans (qBb _ g (i+4) e)).trans (qBb _ g (i+5) f)).trans (qBb _ g (i+6) x))
end Go.Ms
namespace Go.Proofs.YtainiaighnjpfaaGreatDoor
open Go.RowKit Go.Ms Go.Lib
end Go.Proofs.YtainiaighnjpfaaGreatDoor
namespace Go.Ms
open Go.RowKit Go.Lib
structure qDe (c:Nat) (W W':World):Prop where
  g:W.grownBy W' (some c)
  t:∀(k:Nat) (cs:Array Value) (T:TypeId),W.heap[k]?=some (.cells cs T (0,0))→∃cs',W'.heap[k]?=some (.cells cs' T (0,0))
theorem qDe.set (W:World) (c i:Nat) (u:Value):qDe c W (W.setCell ⟨c,i,none⟩ u):=by
 refine⟨qBb W c i u,fun k cs T h=>?_⟩;by_cases e:k=c
 · subst e;exact⟨cs.set! i u,by simp[World.setCell,Array.getElem?_modify,h,Array.setIfInBounds]⟩
 · exact⟨cs,(Below.heap_setCell W ⟨c,i,none⟩ u k e).trans h⟩
theorem qDe.trans {c:Nat} {W W1 W2:World} (h:qDe c W W1) (h':qDe c W1 W2):qDe c W W2:=
  ⟨⟨h'.g.os.trans h.g.os,h'.g.tape.trans h.g.tape,h'.g.output.trans h.g.output,Nat.le_trans h.g.size h'.g.size,fun k hk hne=>(h'.g.block k (Nat.lt_of_lt_of_le hk h.g.size) hne).trans (h.g.block k hk hne)⟩,fun k cs T hk=>by
   obtain⟨cs1,h1⟩:=h.t k cs T hk
   exact h'.t k cs1 T h1⟩
theorem qDe.seven (W:World) (c i:Nat) (a0 a1 a2 a3 a4 a5 a6:Value):qDe c W (((((((W.setCell ⟨c,i,none⟩ a0).setCell ⟨c,i+1,none⟩ a1).setCell ⟨c,i+2,none⟩ a2).setCell ⟨c,i+3,none⟩ a3).setCell ⟨c,i+4,none⟩ a4).setCell ⟨c,i+5,none⟩ a5).setCell ⟨c,i+6,none⟩ a6):=
  ((((((qDe.set _ _ _ _).trans (qDe.set _ _ _ _)).trans (qDe.set _ _ _ _)).trans (qDe.set _ _ _ _)).trans (qDe.set _ _ _ _)).trans (qDe.set _ _ _ _)).trans (qDe.set _ _ _ _)
theorem ScT.kwr {Kp:Nat→Prop} {tC tI:TypeId} {W W':World} {c:Nat} {r:SRef} {s:Sc} (h:ScT tC tI W r s) (hg:qDe c W W') (hc:¬Kp c) (hr:RefK Kp r):ScT tC tI W' r s:=
  ⟨h.lay.kwr hg.g hc hr,fun g o e=>by obtain⟨cs,h1⟩:=h.ta g o e;exact hg.t g cs _ h1,fun g o e=>by obtain⟨cs,h1⟩:=h.tb g o e;exact hg.t g cs _ h1⟩
theorem qCr.belowK {Kp:Nat→Prop} {P:Program} {tS tN tR:TypeId} {g:Nat} {G:Rg} {W:World} (h:qCr Kp P tS tN tR g G W):qCr (fun b=>Kp b∧b<W.heap.size) P tS tN tR g G W:=by
 obtain⟨sp,mb,D,h⟩:=h;refine⟨sp,mb,D,h.box,h.snap,h.map,⟨h.inn.size,h.inn.has,h.inn.no,fun x l e=>?_⟩,h.ok⟩;obtain⟨A,c',rs,h1,h2,h3⟩:=h.inn.at_ x l e;have h4:=h2.refsK;exact⟨A,c',rs,h1,h2,fun h0 p e=>⟨h3.1 h0 p e,h4.1 h0 p e⟩,fun r hr=>⟨fun h0 p e=>⟨(h3.2 r hr).1 h0 p e,(h4.2 r hr).1 h0 p e⟩,fun h0 p e=>⟨(h3.2 r hr).2 h0 p e,(h4.2 r hr).2 h0 p e⟩⟩⟩
section
variable {P:Program} {tT tN tR tS tC tI:TypeId} {Kp Kq:Nat→Prop} {g kb:Nat} {G G':Rg} {va vb:Value} {ra rb:List SRef} {la lb:List Sc} {w W W':World}
theorem EffT.row {T e:TypeId} {B size n:Nat} {v:Value} {xs:List Value} (h:W.ownsRow B e size v n xs) (he:EffT T W W') (hn:e≠T):W'.ownsRow B e size v n xs:=by
 obtain⟨b,hg,hb⟩:=he;refine World.ownsRow.kept h hg ?_;rcases h.2 with⟨rfl,_⟩|⟨g,cap,cur,rfl,_,hgb,_⟩
 · exact .inl rfl
 · refine .inr (fun e1=>?_);obtain⟨cs,q,hc⟩:=hb g e1.symm;rw[hgb] at hc;cases hc;exact hn rfl
end
theorem qAl {P:Program} {w:World} {ops:Array Oper} {o:Oper} {a:Act} {K:Act→World→Prop} {Q:Exit→Act→World→Prop} {E:Prop} (hgd:o.guard=none) (s x:Operand) (t:TypeId)
    (ho:o.op=.call { callee:=.builtin .append,args:=#[s,x],argTypes:=#[t,t] })
    (base:Nat) (e:TypeId) (i:TypeInfo) (z:Value) (size bytes:Nat) (ht:P.underlying t=some (.slice e)) (hi:P.info? e=some i) (hz:i.zero=some z)
    (hsize:i.size=size) (hby:i.bytes=bytes) (hzs:z.cells.size=size) (hsz:0<size)
    (v:Value) (n:Nat) (xs:List Value) (hs:a.eval s=v) (hown:w.ownsRow base e size v n xs) (B:Nat) (A:Option Addr) (m c:Nat) (news:List Value) (hx:a.eval x=.slice A m c) (hl:news.length=m*size) (hnews:Lay w B A news) (h1:∀u∈news,u.oneCell'=true)
    (h63:n+m≤maxLen) (hbytes:(n+m)*bytes≤140737488355328) (hbase:base≤w.heap.size)
    (h:∀v' w',w'.ownsRow base e size v' (n+m) (xs++news)→w.grownBy w' v.ownBlock→(∀b,v'.ownBlock=some b→v.ownBlock=some b∨w.heap.size≤b)→K (a.put o.dst v') w') :
    if Region.wanted o (yielded ops a.tmps)=true then Oper.wp P o a w K Q else E:=by
 have hw:Region.wanted o (yielded ops a.tmps)=true:=by simp[Region.wanted,hgd]
 rw[if_pos hw];obtain⟨v',w',hr,h2,h3,h4⟩:=qKb (P:=P) w base t o.type e i z size bytes ht hi hz hsize hby hzs hsz v n xs hown B A m c news hl hnews h1 h63 hbytes hbase;unfold Oper.wp execOp;simp only[ho,resolve,invoke,builtin,Sem.run_bind,Sem.run_pure,Result.andThen_ok,List.map_toArray,List.map_cons,List.map_nil,hs,hx,hr];exact h v' w' h2 h3 h4
section
variable {P:Program} {tT tN tR tS tC tI T:TypeId} {Kp:Nat→Prop} {g kb kk:Nat} {G:Rg} {va vb:Value} {ra rb:List SRef} {w W:World}
end
theorem qTb {w:World} {B:Nat} {e:TypeId} {A:Option Addr} {n c:Nat} {l:List Co} (h:qBw w B e (.slice A n c) l) (hn:0<l.length):∃g cs,A=some ⟨g,0,none⟩∧B≤g∧w.heap[g]?=some (.cells cs e (0,0))∧cs.size≠1:=by
 rcases h.2 with⟨_,e1⟩|⟨g,cap,cur,hv,hb,hq,_,_,hz,_⟩
 · omega
 · cases hv;exact⟨g,cur,rfl,hb,hq,by omega⟩
open Go.Maps
abbrev ChR:=Option Addr×Nat×Nat
def chsV (H:List ChR):List Value:=H.map fun h=>.slice h.1 h.2.1 h.2.2
def nmsV (G:Rg):List Value:=(G.map Prod.fst).map Go.Proofs.encStr
theorem qUz (H:List ChR):(chsV H).length=H.length:=List.length_map ..
theorem qWn (G:Rg):(nmsV G).length=G.length:=by unfold nmsV;rw[List.length_map,List.length_map]
theorem qZr {H:List ChR} {i:Nat} {h:ChR} (e:H[i]?=some h):(chsV H)[i]?=some (.slice h.1 h.2.1 h.2.2):=by unfold chsV;rw[List.getElem?_map,e];rfl
theorem qZq {G:Rg} {i:Nat} {p:Bs×List Sc} (e:G[i]?=some p):(nmsV G)[i]?=some (.string ⟨p.1.toArray⟩):=by unfold nmsV;rw[List.getElem?_map,List.getElem?_map,e];rfl
structure qDn (tR tN tC:TypeId) (Kp:Nat→Prop) (B m:Nat) (vn vc:Value) (H:List ChR) (G:Rg) (W:World):Prop where
  box:W.heap[m]?=some (.cells #[vn,vc] tR (0,0))
  nm:W.ownsRow B tN 1 vn G.length (nmsV G)
  co:W.ownsRow B tC 1 vc G.length (chsV H)
  len:H.length=G.length
  each:∀(i:Nat) h p,H[i]?=some h→G[i]?=some p→h.2.1=p.2.length∧∃rs,qA0 W W.heap.size h.1 rs p.2∧qDt Kp h.1 rs
  ok:RgOk G
  hB:B≤m
section
variable {tR tN tC:TypeId} {Kp Kq:Nat→Prop} {B m:Nat} {vn vc:Value} {H:List ChR} {G:Rg} {W W':World}
theorem qDn.to (h:qDn tR tN tC Kp B m vn vc H G W) (hb:Below W.heap.size W W'):qDn tR tN tC Kp B m vn vc H G W':=
  ⟨bk_ h.box hb,own_below h.nm hb,own_below h.co hb,h.len,fun i c p h1 h2=>by obtain⟨e,rs,h3,h4⟩:=h.each i c p h1 h2;exact⟨e,rs,h3.to hb,h4⟩,h.ok,h.hB⟩
theorem qDn.weak (h:qDn tR tN tC Kp B m vn vc H G W) (hk:∀b,Kp b→Kq b):qDn tR tN tC Kq B m vn vc H G W:=
  ⟨h.box,h.nm,h.co,h.len,fun i c p h1 h2=>by obtain⟨e,rs,h3,h4⟩:=h.each i c p h1 h2;exact⟨e,rs,h3,h4.weak hk⟩,h.ok,h.hB⟩
theorem qDn.kwr {c:Nat} {T:TypeId} {cs:Array Value} (h:qDn tR tN tC Kp B m vn vc H G W) (hg:W.grownBy W' (some c)) (hc:¬Kp c) (hq:W.heap[c]?=some (.cells cs T (0,0))) (h1:tR≠T) (h2:tN≠T) (h3:tC≠T):qDn tR tN tC Kp B m vn vc H G W':=by
 have he:EffT T W W':=⟨some c,hg,fun g' e=>by cases e;exact⟨_,_,hq⟩⟩;exact⟨he.keep h.box h1,EffT.row h.nm he h2,EffT.row h.co he h3,h.len,fun i r p e1 e2=>by obtain⟨e,rs,h4,h5⟩:=h.each i r p e1 e2;exact⟨e,rs,h4.kwr hg hc h5,h5⟩,h.ok,h.hB⟩
theorem qDn.belowK (h:qDn tR tN tC Kp B m vn vc H G W):qDn tR tN tC (fun b=>Kp b∧b<W.heap.size) B m vn vc H G W:=
  ⟨h.box,h.nm,h.co,h.len,fun i c p h1 h2=>by
   obtain⟨e,rs,h3,h4⟩:=h.each i c p h1 h2;have h5:=h3.refsK
   exact⟨e,rs,h3,fun h0 p e=>⟨h4.1 h0 p e,h5.1 h0 p e⟩,fun r hr=>⟨fun h0 p e=>⟨(h4.2 r hr).1 h0 p e,(h5.2 r hr).1 h0 p e⟩,fun h0 p e=>⟨(h4.2 r hr).2 h0 p e,(h5.2 r hr).2 h0 p e⟩⟩⟩,h.ok,h.hB⟩
theorem qDn.vals (h:qDn tR tN tC Kp B m vn vc H G W):∃N cn C cc,vn=.slice N G.length cn∧vc=.slice C G.length cc∧Lay W W.heap.size N (nmsV G)∧Lay W W.heap.size C (chsV H):=by
 have hn:=h.nm;have hc:=h.co;obtain⟨N,cn,rfl,-,-⟩:=qAf hn;obtain⟨C,cc,rfl,-,-⟩:=qAf hc;exact⟨N,cn,C,cc,rfl,rfl,Lay.of_own hn le_,Lay.of_own hc le_⟩
end
theorem qYr (x:Bs) (S:ByteArray):Op.bytesLess (⟨x.toArray⟩:ByteArray).toList S.toList=decide (x<S.data.toList):=by
 rw[Lib.toList_data,Lib.toList_data];first|exact Go.bytesLess_eq _ _|exact Go.Sort.bytesLess_eq _ _|exact Go.Proofs.bytesLess_eq _ _
theorem zBv (x:Bs) (S:ByteArray):((⟨x.toArray⟩:ByteArray).toList==S.toList)=decide (x=S.data.toList):=by
 rw[Lib.toList_data,Lib.toList_data];by_cases e:x=S.data.toList
 · rw[decide_eq_true e,e];simp
 · rw[decide_eq_false e];simpa using e
end Go.Ms
namespace Go.Proofs.YtainiaighnjpfaaGreatDoor
open Go.RowKit Go.Ms Go.Lib Go.Maps Go.WideMaps Go.Rel
abbrev RrL (Kp:Nat→Prop) (B m:Nat) (vn vc:Value) (H:List ChR) (G:Rg) (W:World):Prop:=qDn 112 9 36 Kp B m vn vc H G W
theorem qC1 {Kp:Nat→Prop} (B m:Nat) (vn vc:Value) (H:List ChR) (G:Rg) (S:ByteArray) (w:World) (h:RrL Kp B m vn vc H G w) :
    Calls Tryz.prog 59 #[.pointer (some ⟨m,0,none⟩),.string S] w fun e w'=>e=.returned (.tuple #[.int .i64 (qCq G S.data.toList),.bool (qDd G S.data.toList)])∧Below w.heap.size w w':=by
 obtain⟨N,cn,C,cc,rfl,rfl,hN,hC⟩:=h.vals;have hup:=h.ok.up;have hle:=h.ok.len;have y0:=cb_ 0 (v:=.slice N G.length cn) h.box rfl;obtain⟨gl,hgl⟩:∃gl,G.length=gl:=⟨_,rfl⟩;rw[hgl] at y0 hle;obtain⟨x,hx⟩:∃x,x=S.data.toList:=⟨_,rfl⟩;have hls:=fun p:Bs×List Sc=>qYr p.1 S
 have heq:=fun p:Bs×List Sc=>zBv p.1 S
 rw[←hx];rw[←hx] at hls heq;have HN:=hh_ hN;have HUP:=hh_ hup;have HGL:=hh_ hgl;have HLS:=hh_ hls;have HEQ:=hh_ heq;clear h hN hC hup hgl hls heq hx;go_enter Tryz.func59,Tryz.ntmps59;go_wp2_with fail
 go_loopw [6] (fun s6 wr=> ∃i:Nat,i≤gl∧s6=.int .i64 i∧wr=w∧∀(j:Nat) p,j<i→G[j]?=some p→p.1<x) (fun s6 _=>gl-(RowKit.intOf s6).toNat)
 case atStart=>exact⟨0,Nat.zero_le _,rfl,rfl,fun j p h=>absurd h (by omega)⟩
 case round=>
  obtain⟨i,hi,rfl,rfl,hb⟩:=hrel;have HB:=hh_ hb;clear hb;have ti0:(0:Int)≤i:=by omega
  by_cases hig:i<gl
  · have ti:(i:Int)<gl:=by omega
    obtain⟨p,hp⟩:∃p,G[i]?=some p:=⟨_,List.getElem?_eq_getElem (by rw[HGL.out];exact hig)⟩;obtain⟨g,o,eN,-,y1⟩:=HN.out i _ (qZq hp);subst eN;have hl1:=HLS.out p;have he1:=HEQ.out p;have HP:=hh_ hp;clear hp;obtain⟨T,hT⟩:∃T:ByteArray,T=⟨p.1.toArray⟩:=⟨_,rfl⟩;rw[←hT] at y1 hl1 he1;clear hT;by_cases hl:p.1<x
    · rw[decide_eq_true hl] at hl1;have HL:=hh_ hl;clear hl he1;go_wp2_with fail
      refine⟨⟨i+1,by omega,by go_num,by first|rfl|trivial,fun j q hj hq=>?_⟩,by simp[RowKit.intOf];omega⟩;by_cases e:j=i
      · subst e;rw[HP.out] at hq;cases hq;exact HL.out
      · exact HB.out j q (by omega) hq
    · rw[decide_eq_false hl] at hl1;have hpos:i=qCq G x:=qMh G x i HB.out (by rw[HGL.out];exact hi) (fun q hq=>by rw[HP.out] at hq;cases hq;exact hl);have hhas:qDd G x=decide (p.1=x):=qT8 x HUP.out (by rw[←hpos];exact HP.out);rw[←hhas] at he1;obtain⟨b,hb⟩:∃b,qDd G x=b:=⟨_,rfl⟩;rw[hb] at he1;have HPOS:=hh_ hpos;have HHAS:=hh_ hb;clear hl hpos hhas hb;go_upto_region 4 with fail
      go_quiet (fail)
      all_goals
       go_wp2_with fail
       go_ret2;exact⟨by rw[←HPOS.out,HHAS.out];rfl,by first|exact Below.refl _ _|exact qAa br_ _⟩
  · have ti:¬(i:Int)<gl:=by omega
    have tib:decide (i<gl)=false:=decide_eq_false hig;obtain rfl:i=gl:=by omega
    have hpos:i=qCq G x:=qMh G x i HB.out (by rw[HGL.out];exact Nat.le_refl _) (fun q hq=>by rw[List.getElem?_eq_none (by rw[HGL.out];exact Nat.le_refl _)] at hq;cases hq);have hhas:qDd G x=false:=qSg x HUP.out (by rw[←hpos,HGL.out]);have HPOS:=hh_ hpos;have HHAS:=hh_ hhas;clear hpos hhas;go_upto_region 4 with fail
    go_quiet (fail)
    all_goals
     go_wp2_with fail
     go_ret2;exact⟨by rw[←HPOS.out,HHAS.out];rfl,by first|exact Below.refl _ _|exact qAa br_ _⟩
theorem qUo (c d:Co) (w:World):Calls Tryz.prog 140 #[coA c,coA d] w fun e w'=>e=.returned (.bool (qFa c d))∧Below w.heap.size w w':=by
 obtain⟨i0,s0,⟨k0,u0⟩,n0,m0,t0⟩:=c;obtain⟨i1,s1,⟨k1,u1⟩,n1,m1,t1⟩:=d;have bb:=((Below.refl _ w).alloc le_ (.cells #[.int .i64 i0,.string s0,.int .i64 k0,.bool u0,.bool n0,.int .i64 m0,.string t0] 45)).alloc (by rw[World.size_alloc];omega) (.cells #[.int .i64 i1,.string s1,.int .i64 k1,.bool u1,.bool n1,.int .i64 m1,.string t1] 45);have BB:=hh_ bb;clear bb;show Calls Tryz.prog 140 #[.agg #[.int .i64 i0,.string s0,.int .i64 k0,.bool u0,.bool n0,.int .i64 m0,.string t0],.agg #[.int .i64 i1,.string s1,.int .i64 k1,.bool u1,.bool n1,.int .i64 m1,.string t1]] w _
 have q:∀S T:ByteArray,S.toList=T.toList↔S=T:=fun S T=>by
  rw[Lib.toList_data,Lib.toList_data];exact⟨fun h=>by rw[qBu (s:=S) rfl,qBu (s:=T) rfl,h],fun h=>by rw[h]⟩
 have Q:=hh_ q;clear q;go_enter Tryz.func140,Tryz.ntmps140;go_wp2_with fail
 all_goals
  go_ret;have q:=Q.out;refine⟨?_,by first|exact BB.out|(have h:=BB.out;simp_all)⟩;clear BB Q;congr 2
  unfold qFa
  first
    |(simp_all;done)
    |(by_cases h3:k1=3 <;> by_cases h2:2=k1 <;> simp_all)
end Go.Proofs.YtainiaighnjpfaaGreatDoor
namespace Go.Ms
open Go.RowKit Go.Lib
structure Bx2 (o0 o1:Obj) (w W:World):Prop where
  b0:W.heap[w.heap.size]?=some o0
  b1:W.heap[w.heap.size+1]?=some o1
  bel:Below w.heap.size w W
theorem Bx2.start (va vb:Array Value) (ta tb:TypeId) (w:World):Bx2 (.cells va ta (0,0)) (.cells vb tb (0,0)) w ((w.alloc (.cells va ta)).alloc (.cells vb tb)):=by
 refine⟨bx_ (qAd _ _) _,?_,((Below.refl _ w).alloc le_ _).alloc (by rw[World.size_alloc];omega) _⟩;have:=qAd (w.alloc (.cells va ta)) (.cells vb tb);rw[World.size_alloc] at this;exact this
theorem Bx2.step {o0 o1:Obj} {w W W':World} (h:Bx2 o0 o1 w W) (hb:Below W.heap.size W W'):Bx2 o0 o1 w W':=
  ⟨bk_ h.b0 hb,bk_ h.b1 hb,h.bel.trans (hb.mono h.bel.size)⟩
theorem Bx2.alloc {o0 o1:Obj} {w W:World} (h:Bx2 o0 o1 w W) (o:Obj):Bx2 o0 o1 w (W.alloc o):=h.step ((Below.refl _ W).alloc le_ o)
theorem qP8 (cs:List Co) (v:Int):qDf (fun c=>decide (c.1=v)) cs=match evAt cs v with
    |some k=>(k,true)
    |none=>(0,false):=by
 unfold qDf evAt;rfl
theorem qUu {cs:List Co} {ab:Int} {d:Co} (h:evAt cs d.1=none):qD0 cs ab d=decide (ab<d.1):=by unfold qD0;rw[h]
theorem qS1 {cs:List Co} {ab:Int} {d:Co} {k:Nat} (h:evAt cs d.1=some k):qD0 cs ab d=qFa (cs.getD k zCo) d:=by unfold qD0;rw[h]
theorem qNy {cs:List Co} {ab:Int} {pre:List Co} {x:Co} (h:pre.all (qD0 cs ab)=true) (hx:qD0 cs ab x=true):(pre++[x]).all (qD0 cs ab)=true:=by rw[List.all_append,h];simp[hx]
structure qO7 (g o B:Nat) (i1:Int) (s1:ByteArray) (k1:Int) (u1 n1:Bool) (m1:Int) (t1:ByteArray) (W:World):Prop where
  lt:g<B
  c0:W.cell? ⟨g,o,none⟩=some (.int .i64 i1)
  c1:W.cell? ⟨g,o+1,none⟩=some (.string s1)
  c2:W.cell? ⟨g,o+2,none⟩=some (.int .i64 k1)
  c3:W.cell? ⟨g,o+3,none⟩=some (.bool u1)
  c4:W.cell? ⟨g,o+4,none⟩=some (.bool n1)
  c5:W.cell? ⟨g,o+5,none⟩=some (.int .i64 m1)
  c6:W.cell? ⟨g,o+6,none⟩=some (.string t1)
theorem qO7.below {g o B:Nat} {i1:Int} {s1:ByteArray} {k1:Int} {u1 n1:Bool} {m1:Int} {t1:ByteArray} {W W':World} (h:qO7 g o B i1 s1 k1 u1 n1 m1 t1 W) (hb:Below B W W'):qO7 g o B i1 s1 k1 u1 n1 m1 t1 W':=
  ⟨h.lt,(hb.cell h.lt).trans h.c0,(hb.cell h.lt).trans h.c1,(hb.cell h.lt).trans h.c2,(hb.cell h.lt).trans h.c3,(hb.cell h.lt).trans h.c4,(hb.cell h.lt).trans h.c5,(hb.cell h.lt).trans h.c6⟩
theorem qO7.more {g o B B':Nat} {i1:Int} {s1:ByteArray} {k1:Int} {u1 n1:Bool} {m1:Int} {t1:ByteArray} {W:World} (h:qO7 g o B i1 s1 k1 u1 n1 m1 t1 W) (hb:B≤B'):qO7 g o B' i1 s1 k1 u1 n1 m1 t1 W:=
  ⟨Nat.lt_of_lt_of_le h.lt hb,h.c0,h.c1,h.c2,h.c3,h.c4,h.c5,h.c6⟩
theorem Lay.colAt {W:World} {B:Nat} {A:Option Addr} {cs:List Co} {k:Nat} {i1:Int} {s1:ByteArray} {k1:Int} {u1 n1:Bool} {m1:Int} {t1:ByteArray} (h:Lay W B A (colV cs)) (hk:cs[k]?=some (i1,s1,(k1,u1),n1,m1,t1)):∃g o,A=some ⟨g,o,none⟩∧qO7 g (o+k*7) B i1 s1 k1 u1 n1 m1 t1 W:=by
 obtain⟨g,o,e,hg,h1,h2,h3,h4,h5,h6,h7⟩:=h.co hk;exact⟨g,o,e,hg,h1,h2,h3,h4,h5,h6,h7⟩
end Go.Ms
namespace Go.Proofs.YtainiaighnjpfaaGreatDoor
open Go.RowKit Go.Ms Go.Lib
theorem qMe (A B:Option Addr) (n cap m capm:Nat) (cs:List Co) (w:World) (hn:n=cs.length) (hn':n≤100000) (h0:0<n) (hA:Lay w w.heap.size A (colV cs)) :
    Calls Tryz.prog 96 #[.agg #[.slice A n cap,.slice B m capm]] w fun e w'=>e=.returned (.int .i64 (qB6 cs))∧Below w.heap.size w w':=by
 obtain⟨⟨i1,s1,⟨k1,u1⟩,n1,m1,t1⟩,hc⟩:∃c,cs[n-1]?=some c:=⟨_,List.getElem?_eq_getElem (by omega)⟩
 have hl:qB6 cs=i1:=by
  unfold qB6;rw[List.getLast?_eq_getElem?,←hn,hc];rfl
 obtain⟨g,o,rfl,hg⟩:=hA.colAt hc;have bX:=(Below.refl w.heap.size w).alloc le_ (.cells #[.slice (some ⟨g,o,none⟩) n cap,.slice B m capm] 33);have hx:=(hg.below bX).c0;have hw:=iw_ ((n:Int)-1) (by omega);have i1':(0:Int)≤(n:Int)-1:=by omega
 have i2':(n:Int)-1<n:=by omega
 have i3':(1:Int)≤n:=by omega
 have BX:=hh_ bX;have HL:=hh_ hl;clear bX hl hc hg hA hn;go_enter Tryz.func96,Tryz.ntmps96;go_wp2_with fail
 go_ret;exact⟨congrArg (fun i=>Ending.returned (.int .i64 i)) HL.out.symm,BX.out⟩
theorem qKy (w:World) (A B:Option Addr) (n cap m capm:Nat) (cs:List Co) (v:Int) (hn':n≤maxLen) (hn:n=cs.length) (hA:Lay w w.heap.size A (colV cs)) :
    Calls Tryz.prog 139 #[.agg #[.slice A n cap,.slice B m capm],.int .i64 v] w fun e w'=>e=.returned (.tuple #[.int .i64 (qDf (fun c=>decide (c.1=v)) cs).1,.bool (qDf (fun c=>decide (c.1=v)) cs).2])∧Below w.heap.size w w':=by
 unfold maxLen at hn';obtain⟨X,hX⟩:∃X,X=w.alloc (.cells #[.slice A n cap,.slice B m capm] 33):=⟨_,rfl⟩;have bX:Below w.heap.size w X:=by rw[hX];exact(Below.refl _ w).alloc le_ _
 have qX:X.heap[w.heap.size]?=some (.cells #[.slice A n cap,.slice B m capm] 33 (0,0)):=by rw[hX];exact qAd _ _
 have lA:Lay X X.heap.size A (colV cs):=(hA.below bX).more bX.size;have HA:=hh_ lA;have HN:=hh_ hn;have BX:=hh_ bX;have QX:=hh_ qX;clear hA hn bX qX lA;go_enter Tryz.func139,Tryz.ntmps139;go_wp2_with fail
 rw[←hX];clear hX;go_loopw [6] (fun id wr=> ∃k:Nat,k≤n∧id=.int .i64 k∧Below X.heap.size X wr∧∀(j:Nat) x,j<k→cs[j]?=some x→(fun c=>decide (c.1=v)) x=false) (fun id _=>n-(RowKit.intOf id).toNat)
 case atStart=>exact⟨0,by omega,rfl,Below.refl _ _,fun j c h=>absurd h (by omega)⟩
 case round=>
  obtain⟨k,hk,rfl,hb,hp⟩:=hrel;have HP:=hh_ hp;have q0:=cb_ 0 (bk_ QX.out hb) rfl;clear hp;by_cases hlk:k<n
  · have hki:(k:Int)<n:=by omega
    obtain⟨x,hx⟩:∃x,cs[k]?=some x:=⟨_,List.getElem?_eq_getElem (by rw[←HN.out];omega)⟩;obtain⟨i0,s0,⟨k0,u0⟩,n0,m0,t0⟩:=x;obtain⟨g,o,rfl,hg,h1,h2,h3,h4,h5,h6,h7⟩:=HA.out.co hx;have g1:=(hb.cell hg).trans h1;have g2:=(hb.cell hg).trans h2;simp only at g1 g2;have HX:=hh_ hx;have HB:=hh_ hb;clear hx hb h1 h2 h3 h4 h5 h6 h7;have _:=True.intro;by_cases hpx:i0=v
    · have HR:=hh_ (qTa (p:=(fun c=>decide (c.1=v))) HX.out HP.out (decide_eq_true hpx));have e1:(i0==v)=true:=by simpa using hpx
      clear hpx;go_wp2_with fail
      all_goals (try go_quiet (fail))
      all_goals (go_wp2_with fail)
      all_goals go_ret2
      all_goals exact⟨by rw[HR.out];rfl,BX.out.trans ((qAa HB.out 0).mono BX.out.size)⟩
    · have HPX:=hh_ (decide_eq_false hpx);have e1:(i0==v)=false:=by simpa using hpx
      clear hpx;go_wp2_with fail
      all_goals (try go_quiet (fail))
      all_goals (go_wp2_with fail)
      go_roundw
      case rel=>
       refine⟨k+1,by omega,by go_num,qAa HB.out 0,fun j y hj hy=>?_⟩;by_cases e:j=k
       · subst e;rw[HX.out] at hy;cases hy;exact HPX.out
       · exact HP.out j y (by omega) hy
      case measure=>simp[RowKit.intOf];omega
  · have hki:¬(k:Int)<n:=by omega
    have HR:=hh_ (qOn (p:=(fun c=>decide (c.1=v))) (l:=cs) (fun j x hx=>HP.out j x (by have:=(List.getElem?_eq_some_iff.1 hx).1;have:=HN.out;omega) hx));have HB:=hh_ hb;clear hb;go_wp2_with fail
    go_ret2;exact⟨by rw[HR.out];rfl,BX.out.trans (HB.out.mono BX.out.size)⟩
end Go.Proofs.YtainiaighnjpfaaGreatDoor
