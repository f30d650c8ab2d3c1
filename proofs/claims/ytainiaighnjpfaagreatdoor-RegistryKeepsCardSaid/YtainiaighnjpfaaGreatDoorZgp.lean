/- Registry's laws: a registry, and two rows of versions that are kept. -/
import Derived.Test.YtainiaighnjpfaaGreatDoorZQaj
import Derived.Test.YtainiaighnjpfaaGreatDoorZgo
import Derived.Test.YtainiaighnjpfaaGreatDoorZQad
import Derived.Test.YtainiaighnjpfaaGreatDoorZQak
set_option linter.unusedVariables false
set_option linter.unusedSimpArgs false
namespace Go.Ms
open Go.RowKit Go.Lib
structure qVz (c:Nat) (W W':World):Prop where
  g:W.grownBy W' (some c)
  t:∀(k:Nat) (cs:Array Value) (T:TypeId),W.heap[k]?=some (.cells cs T (0,0))→∃cs',W'.heap[k]?=some (.cells cs' T (0,0))
theorem qVz.set (W:World) (c i:Nat) (u:Value):qVz c W (W.setCell ⟨c,i,none⟩ u):=by
 refine⟨qDm W c i u,fun k cs T h=>?_⟩
 by_cases e:k=c
 · subst e;exact⟨cs.set! i u,by simp[World.setCell,Array.getElem?_modify,h,Array.setIfInBounds]⟩
 · exact⟨cs,(Below.heap_setCell W ⟨c,i,none⟩ u k e).trans h⟩
theorem qVz.trans {c:Nat} {W W1 W2:World} (h:qVz c W W1) (h':qVz c W1 W2):qVz c W W2:=
  ⟨⟨h'.g.os.trans h.g.os,h'.g.tape.trans h.g.tape,h'.g.output.trans h.g.output,Nat.le_trans h.g.size h'.g.size,fun k hk hne=>(h'.g.block k (Nat.lt_of_lt_of_le hk h.g.size) hne).trans (h.g.block k hk hne)⟩,fun k cs T hk=>by
   obtain⟨cs1,h1⟩:=h.t k cs T hk
   exact h'.t k cs1 T h1⟩
theorem qVz.seven (W:World) (c i:Nat) (a0 a1 a2 a3 a4 a5 a6:Value):qVz c W (((((((W.setCell ⟨c,i,none⟩ a0).setCell ⟨c,i+1,none⟩ a1).setCell ⟨c,i+2,none⟩ a2).setCell ⟨c,i+3,none⟩ a3).setCell ⟨c,i+4,none⟩ a4).setCell ⟨c,i+5,none⟩ a5).setCell ⟨c,i+6,none⟩ a6):=
  ((((((qVz.set _ _ _ _).trans (qVz.set _ _ _ _)).trans (qVz.set _ _ _ _)).trans (qVz.set _ _ _ _)).trans (qVz.set _ _ _ _)).trans (qVz.set _ _ _ _)).trans (qVz.set _ _ _ _)
theorem ScT.kwr {Kp:Nat→Prop} {tC tI:TypeId} {W W':World} {c:Nat} {r:SRef} {s:Sc} (h:ScT tC tI W r s) (hg:qVz c W W') (hc:¬Kp c) (hr:RefK Kp r):ScT tC tI W' r s:=
  ⟨h.lay.kwr hg.g hc hr,fun g o e=>by obtain⟨cs,h1⟩:=h.ta g o e;exact hg.t g cs _ h1,fun g o e=>by obtain⟨cs,h1⟩:=h.tb g o e;exact hg.t g cs _ h1⟩
theorem qKu.belowK {Kp:Nat→Prop} {P:Program} {tS tN tR:TypeId} {g:Nat} {G:Rg} {W:World} (h:qKu Kp P tS tN tR g G W):qKu (fun b=>Kp b∧b<W.heap.size) P tS tN tR g G W:=by
 obtain⟨sp,mb,D,h⟩:=h;refine⟨sp,mb,D,h.box,h.snap,h.map,⟨h.inn.size,h.inn.has,h.inn.no,fun x l e=>?_⟩,h.ok⟩;obtain⟨A,c',rs,h1,h2,h3⟩:=h.inn.at_ x l e;have h4:=h2.refsK;exact⟨A,c',rs,h1,h2,fun h0 p e=>⟨h3.1 h0 p e,h4.1 h0 p e⟩,fun r hr=>⟨fun h0 p e=>⟨(h3.2 r hr).1 h0 p e,(h4.2 r hr).1 h0 p e⟩,fun h0 p e=>⟨(h3.2 r hr).2 h0 p e,(h4.2 r hr).2 h0 p e⟩⟩⟩
structure KpSt (P:Program) (tT tN tR tS tC tI:TypeId) (Kp:Nat→Prop) (g kb:Nat) (G:Rg) (va vb:Value) (ra rb:List SRef) (la lb:List Sc) (w W:World):Prop where
  rg:qKu Kp P tT tN tR g G W
  oa:W.ownsRow w.heap.size tS 2 va ra.length (scsV ra)
  ob:W.ownsRow w.heap.size tS 2 vb rb.length (scsV rb)
  ta:∀(i:Nat) r s,ra[i]?=some r→la[i]?=some s→ScT tC tI W r s
  tb:∀(i:Nat) r s,rb[i]?=some r→lb[i]?=some s→ScT tC tI W r s
  na:ra.length=la.length
  nb:rb.length=lb.length
  ne:∀b,va.ownBlock=some b→vb.ownBlock=some b→False
  ka:∀b,va.ownBlock=some b→¬Kp b
  kc:∀b,vb.ownBlock=some b→¬Kp b
  bel:Below w.heap.size w W
  lg:w.heap.size≤g
  lk:w.heap.size≤kb∧kb<W.heap.size
  nk:¬Kp kb
section
variable {P:Program} {tT tN tR tS tC tI:TypeId} {Kp Kq:Nat→Prop} {g kb:Nat} {G G':Rg} {va vb:Value} {ra rb:List SRef} {la lb:List Sc} {w W W':World}
theorem KpSt.to (h:KpSt P tT tN tR tS tC tI Kp g kb G va vb ra rb la lb w W) (hb:Below W.heap.size W W'):KpSt P tT tN tR tS tC tI Kp g kb G va vb ra rb la lb w W':=
  ⟨h.rg.to hb,own_below h.oa hb,own_below h.ob hb,fun i r s h1 h2=>(h.ta i r s h1 h2).to hb,fun i r s h1 h2=>(h.tb i r s h1 h2).to hb,h.na,h.nb,h.ne,h.ka,h.kc,h.bel.trans (hb.mono h.bel.size),h.lg,⟨h.lk.1,Nat.lt_of_lt_of_le h.lk.2 hb.size⟩,h.nk⟩
theorem KpSt.swap (h:KpSt P tT tN tR tS tC tI Kp g kb G va vb ra rb la lb w W):KpSt P tT tN tR tS tC tI Kp g kb G vb va rb ra lb la w W:=
  ⟨h.rg,h.ob,h.oa,h.tb,h.ta,h.nb,h.na,fun b h1 h2=>h.ne b h2 h1,h.kc,h.ka,h.bel,h.lg,h.lk,h.nk⟩
theorem KpSt.fresh (h:KpSt P tT tN tR tS tC tI Kp g kb G va vb ra rb la lb w W) (hb:Below W.heap.size W W'):KpSt P tT tN tR tS tC tI (fun b=>(Kp b∧b<W.heap.size)∨W'.heap.size≤b) g kb G va vb ra rb la lb w W':=by
 have h':=h.to hb;refine⟨(h.rg.belowK.to hb).weak (fun b k=>.inl k),h'.oa,h'.ob,h'.ta,h'.tb,h.na,h.nb,h.ne,fun b e k=>?_,fun b e k=>?_,h'.bel,h.lg,h'.lk,fun k=>?_⟩
 · rcases k with k|k
   · exact h.ka b e k.1
   · have:=(World.ownsRow.lt h'.oa b e).2;omega
 · rcases k with k|k
   · exact h.kc b e k.1
   · have:=(World.ownsRow.lt h'.ob b e).2;omega
 · rcases k with k|k
   · exact h.nk k.1
   · have:=h'.lk.2;omega
theorem EffT.row {T e:TypeId} {B size n:Nat} {v:Value} {xs:List Value} (h:W.ownsRow B e size v n xs) (he:EffT T W W') (hn:e≠T):W'.ownsRow B e size v n xs:=by
 obtain⟨b,hg,hb⟩:=he;refine World.ownsRow.kept h hg ?_
 rcases h.2 with⟨rfl,_⟩|⟨g,cap,cur,rfl,_,hgb,_⟩
 · exact .inl rfl
 · refine .inr (fun e1=>?_);obtain⟨cs,q,hc⟩:=hb g e1.symm;rw[hgb] at hc
   cases hc
   exact hn rfl
theorem KpSt.turn (h:KpSt P tT tN tR tS tC tI Kp g kb G va vb ra rb la lb w W) (hl:qKu Kp P tT tN tR g G' W') (hg:W.grownBy W' (some g)) (h1:tC≠tR) (h2:tI≠tR) (h3:tS≠tR):KpSt P tT tN tR tS tC tI Kp g kb G' va vb ra rb la lb w W':=by
 have he:=h.rg.effT hg;exact⟨hl,EffT.row h.oa he h3,EffT.row h.ob he h3,fun i r s e1 e2=>(h.ta i r s e1 e2).eff he h1 h2,fun i r s e1 e2=>(h.tb i r s e1 e2).eff he h1 h2,h.na,h.nb,h.ne,h.ka,h.kc,h.bel.grown hg h.bel.size (fun k e=>by cases e;exact h.lg),h.lg,⟨h.lk.1,Nat.lt_of_lt_of_le h.lk.2 hg.size⟩,h.nk⟩
theorem KpSt.push {W2:World} {v':Value} {r:SRef} {s:Sc} (h:KpSt P tT tN tR tS tC tI Kp g kb G va vb ra rb la lb w W) (n1:tC≠tS) (n2:tI≠tS) (hr:ScT tC tI W r s)
    (ho:W2.ownsRow w.heap.size tS 2 v' (ra.length+1) (scsV ra++r.vs)) (hg:W.grownBy W2 va.ownBlock) (hn:∀b,v'.ownBlock=some b→va.ownBlock=some b∨W.heap.size≤b) :
    KpSt P tT tN tR tS tC tI (fun b=>Kp b∧b<W.heap.size) g kb G v' vb (ra++[r]) rb (la++[s]) lb w W2:=by
 have he:=EffT.own h.oa hg
 have hreg:qKu (fun b=>Kp b∧b<W.heap.size) P tT tN tR g G W2:=by
  rcases h.oa.2 with⟨rfl,_⟩|⟨c,cap,cur,rfl,_,hq,_,_,hz,_⟩
  · exact h.rg.belowK.to ⟨hg.os,hg.tape,hg.output,hg.size,fun k hk'=>hg.block k hk' (fun e=>by cases e)⟩
  · refine qKu.kwr h.rg.belowK hg (fun k=>h.ka c rfl k.1) hq (fun e1=>?_);rw[hz] at e1;omega
 refine⟨hreg,?_,World.ownsRow.kept h.ob hg ?_,fun i r' s' h1 h2=>?_,fun i r' s' h1 h2=>(h.tb i r' s' h1 h2).eff he n1 n2,by rw[List.length_append,List.length_append,h.na];rfl,h.nb,fun b h1 h2=>?_,fun b h1 k=>?_,fun b h1 k=>h.kc b h1 k.1,qBp h.oa h.bel h.bel.size (Nat.le_refl _) hg,h.lg,⟨h.lk.1,Nat.lt_of_lt_of_le h.lk.2 hg.size⟩,fun k=>h.nk k.1⟩
 · rw[List.length_append,qMo,show scsV [r]=r.vs by simp[scsV]];exact ho
 · cases h8:vb.ownBlock with
  |none=>exact .inl rfl
  |some b=>exact .inr (fun e=>h.ne b e.symm h8)
 · by_cases hi:i<ra.length
   · rw[List.getElem?_append_left hi] at h1;rw[List.getElem?_append_left (by rw[←h.na];exact hi)] at h2;exact(h.ta i r' s' h1 h2).eff he n1 n2
   · have h3:=(List.getElem?_eq_some_iff.1 h1).1;rw[List.length_append,List.length_singleton] at h3
     obtain rfl:i=ra.length:=by omega
     rw[List.getElem?_append_right (Nat.le_refl _),Nat.sub_self] at h1;rw[h.na,List.getElem?_append_right (Nat.le_refl _),Nat.sub_self] at h2
     cases h1
     cases h2
     exact hr.eff he n1 n2
 · rcases hn b h1 with h3|h3
   · exact h.ne b h3 h2
   · have:=(World.ownsRow.lt h.ob b h2).2;omega
 · rcases hn b h1 with h3|h3
   · exact h.ka b h3 k.1
   · have:=k.2;omega
theorem KpSt.boxed {i:Nat} {u:Value} {cs:Array Value} {T:TypeId} (h:KpSt P tT tN tR tS tC tI Kp g kb G va vb ra rb la lb w W) (hq:W.heap[kb]?=some (.cells cs T (0,0))) (hz:cs.size≠1) (h1:tC≠T) (h2:tI≠T) (h3:tS≠T):KpSt P tT tN tR tS tC tI Kp g kb G va vb ra rb la lb w (W.setCell ⟨kb,i,none⟩ u):=by
 have hg:=qDm W kb i u;have he:EffT T W (W.setCell ⟨kb,i,none⟩ u):=EffT.set hq i u;exact⟨qKu.kwr h.rg hg h.nk hq hz,EffT.row h.oa he h3,EffT.row h.ob he h3,fun i r s e1 e2=>(h.ta i r s e1 e2).eff he h1 h2,fun i r s e1 e2=>(h.tb i r s e1 e2).eff he h1 h2,h.na,h.nb,h.ne,h.ka,h.kc,h.bel.grown hg h.bel.size (fun k e=>by cases e;exact h.lk.1),h.lg,⟨h.lk.1,Nat.lt_of_lt_of_le h.lk.2 hg.size⟩,h.nk⟩
theorem KpSt.spoil {c:Nat} {cs:Array Value} (h:KpSt P tT tN tR tS tC tI Kp g kb G va vb ra rb la lb w W) (hs:qVz c W W') (hc:¬Kp c) (hq:W.heap[c]?=some (.cells cs tC (0,0))) (hz:cs.size≠1) (h3:tS≠tC) (hw:w.heap.size≤c) (hd:¬Kq c) (qa:∀r∈ra,RefK Kq r) (qb:∀r∈rb,RefK Kq r):KpSt P tT tN tR tS tC tI Kp g kb G va vb ra rb la lb w W':=by
 have he:EffT tC W W':=⟨some c,hs.g,fun g' e=>by cases e;exact⟨_,_,hq⟩⟩;exact⟨qKu.kwr h.rg hs.g hc hq hz,EffT.row h.oa he h3,EffT.row h.ob he h3,fun i r s e1 e2=>(h.ta i r s e1 e2).kwr hs hd (qa r (List.mem_of_getElem? e1)),fun i r s e1 e2=>(h.tb i r s e1 e2).kwr hs hd (qb r (List.mem_of_getElem? e1)),h.na,h.nb,h.ne,h.ka,h.kc,h.bel.grown hs.g h.bel.size (fun k e=>by cases e;exact hw),h.lg,⟨h.lk.1,Nat.lt_of_lt_of_le h.lk.2 hs.g.size⟩,h.nk⟩
theorem KpSt.scs (h:KpSt P tT tN tR tS tC tI Kp g kb G va vb ra rb la lb w W):∃A c,va=.slice A ra.length c∧qBl W W.heap.size A ra la:=by
 obtain⟨A,c,rfl,-,-⟩:=qAh h.oa;exact⟨A,c,rfl,h.na,Lay.of_own h.oa (Nat.le_refl _),fun i r s h1 h2=>(h.ta i r s h1 h2).lay⟩
theorem KpSt.refs (h:KpSt P tT tN tR tS tC tI Kp g kb G va vb ra rb la lb w W):∀r∈ra,RefK (fun b=>b<W.heap.size) r:=fun r hr=>by
 obtain⟨A,c,-,hs⟩:=h.scs;exact hs.refsK.2 r hr
end
theorem qXp {P:Program} {w:World} {ops:Array Oper} {o:Oper} {a:Act} {K:Act→World→Prop} {Q:Exit→Act→World→Prop} {E:Prop} (hgd:o.guard=none) (s x:Operand) (t:TypeId)
    (ho:o.op=.call { callee:=.builtin .append,args:=#[s,x],argTypes:=#[t,t] })
    (base:Nat) (e:TypeId) (i:TypeInfo) (z:Value) (size bytes:Nat) (ht:P.underlying t=some (.slice e)) (hi:P.info? e=some i) (hz:i.zero=some z)
    (hsize:i.size=size) (hby:i.bytes=bytes) (hzs:z.cells.size=size) (hsz:0<size)
    (v:Value) (n:Nat) (xs:List Value) (hs:a.eval s=v) (hown:w.ownsRow base e size v n xs) (B:Nat) (A:Option Addr) (m c:Nat) (news:List Value) (hx:a.eval x=.slice A m c) (hl:news.length=m*size) (hnews:Lay w B A news) (h1:∀u∈news,u.oneCell'=true)
    (h63:n+m≤maxLen) (hbytes:(n+m)*bytes≤140737488355328) (hbase:base≤w.heap.size)
    (h:∀v' w',w'.ownsRow base e size v' (n+m) (xs++news)→w.grownBy w' v.ownBlock→(∀b,v'.ownBlock=some b→v.ownBlock=some b∨w.heap.size≤b)→K (a.put o.dst v') w') :
    if Region.wanted o (yielded ops a.tmps)=true then Oper.wp P o a w K Q else E:=by
 have hw:Region.wanted o (yielded ops a.tmps)=true:=by simp[Region.wanted,hgd]
 rw[if_pos hw];obtain⟨v',w',hr,h2,h3,h4⟩:=qWa (P:=P) w base t o.type e i z size bytes ht hi hz hsize hby hzs hsz v n xs hown B A m c news hl hnews h1 h63 hbytes hbase;unfold Oper.wp execOp;simp only[ho,resolve,invoke,builtin,Sem.run_bind,Sem.run_pure,Result.andThen_ok,List.map_toArray,List.map_cons,List.map_nil,hs,hx,hr];exact h v' w' h2 h3 h4
def boxK (k:Nat) (v u:Value):Array Value:=if k=0 then #[v,u] else #[u,v]
theorem qWb {k:Nat} (hk:k<2) (v u:Value):(boxK k v u)[k]?=some v:=by
 have:k=0∨k=1:=by omega
 rcases this with rfl|rfl <;> rfl
theorem qW4 (k:Nat) (v u:Value):(boxK k v u).size=2:=by unfold boxK;split <;> rfl
theorem qW8 {w:World} {b k:Nat} {v u:Value} {T:TypeId} (hk:k<2) (h:w.heap[b]?=some (.cells (boxK k v u) T (0,0))) (x:Value):(w.setCell ⟨b,k,none⟩ x).heap[b]?=some (.cells (boxK k x u) T (0,0)):=by
 have:k=0∨k=1:=by omega
 rcases this with rfl|rfl
 · exact two_set0 h x
 · exact qEf h x
def qVy (k:Nat):Bs:=if k=0 then [97] else [98]
theorem qWi {k:Nat} (hk:k<2):(ByteArray.extract ⟨#[97,98]⟩ k (k+1)).data.toList=qVy k:=by
 have:k=0∨k=1:=by omega
 rcases this with rfl|rfl <;> decide
theorem qV9 {k:Nat}:(ByteArray.extract ⟨#[97,98]⟩ k (k+1)).size≤100000:=by
 rw[ByteArray.size_extract];have:(⟨#[97,98]⟩:ByteArray).size=2:=rfl;omega
section
variable {P:Program} {tT tN tR tS tC tI T:TypeId} {Kp:Nat→Prop} {g kb kk:Nat} {G:Rg} {va vb:Value} {ra rb:List SRef} {w W:World}
theorem KpSt.kth (hk:kk<2) (h:KpSt P tT tN tR tS tC tI Kp g kb G va vb ra rb (rgAt G [97]) (rgAt G [98]) w W) (hq:W.heap[kb]?=some (.cells #[va,vb] T (0,0))) :
    ∃v1 v2 r1 r2,KpSt P tT tN tR tS tC tI Kp g kb G v1 v2 r1 r2 (rgAt G (qVy kk)) (rgAt G (qVy (1-kk))) w W∧W.heap[kb]?=some (.cells (boxK kk v1 v2) T (0,0)):=by
 have:kk=0∨kk=1:=by omega
 rcases this with rfl|rfl
 · exact⟨va,vb,ra,rb,h,hq⟩
 · exact⟨vb,va,rb,ra,h.swap,hq⟩
theorem KpSt.std (hk:kk<2) {P0:SRef→Prop} (h:KpSt P tT tN tR tS tC tI Kp g kb G va vb ra rb (rgAt G (qVy kk)) (rgAt G (qVy (1-kk))) w W) (hq:W.heap[kb]?=some (.cells (boxK kk va vb) T (0,0))) (h1:∀r∈ra,P0 r) (h2:∀r∈rb,P0 r) :
    ∃v1 v2 r1 r2,KpSt P tT tN tR tS tC tI Kp g kb G v1 v2 r1 r2 (rgAt G [97]) (rgAt G [98]) w W∧W.heap[kb]?=some (.cells #[v1,v2] T (0,0))∧(∀r∈r1,P0 r)∧∀r∈r2,P0 r:=by
 have:kk=0∨kk=1:=by omega
 rcases this with rfl|rfl
 · exact⟨va,vb,ra,rb,h,hq,h1,h2⟩
 · exact⟨vb,va,rb,ra,h.swap,hq,h2,h1⟩
end
theorem qXf {G:Rg} {k:Nat} (hk:k<2):(rgAt G (qVy k)).length+(rgAt G (qVy (1-k))).length=(rgAt G [97]).length+(rgAt G [98]).length:=by
 have:k=0∨k=1:=by omega
 rcases this with rfl|rfl
 · rfl
 · exact Nat.add_comm _ _
theorem qWx {k:Nat} (hk:k<2):qVy (1-k)≠qVy k:=by
 have:k=0∨k=1:=by omega
 rcases this with rfl|rfl <;> decide
theorem qWz {w:World} {B:Nat} {e:TypeId} {A:Option Addr} {n c:Nat} {l:List Co} (h:qEq w B e (.slice A n c) l) (hn:0<l.length):∃g cs,A=some ⟨g,0,none⟩∧B≤g∧w.heap[g]?=some (.cells cs e (0,0))∧cs.size≠1:=by
 rcases h.2 with⟨_,e1⟩|⟨g,cap,cur,hv,hb,hq,_,_,hz,_⟩
 · omega
 · cases hv
   exact⟨g,cur,rfl,hb,hq,by omega⟩
end Go.Ms
