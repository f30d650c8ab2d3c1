/- Registry's laws: RegistryChain, walked. -/
import Derived.Test.YtainiaighnjpfaaGreatDoorZQaj
import Derived.Test.YtainiaighnjpfaaGreatDoorZgm
import Derived.Test.YtainiaighnjpfaaGreatDoorZQae
set_option linter.unusedVariables false
set_option linter.unusedSimpArgs false
namespace Go.Ms
open Go.RowKit Go.Lib
theorem qXo {P:Program} {w:World} {ops:Array Oper} {rest:List Oper} {o:Oper} {a:Act} {Q:Exit→Act→World→Prop} (hgd:Region.wanted o (yielded ops a.tmps)=true) (s x:Operand) (t:TypeId)
    (ho:o.op=.call { callee:=.builtin .append,args:=#[s,x],argTypes:=#[t,t] })
    (base:Nat) (e:TypeId) (i:TypeInfo) (z:Value) (size bytes:Nat) (ht:P.underlying t=some (.slice e)) (hi:P.info? e=some i) (hz:i.zero=some z)
    (hsize:i.size=size) (hby:i.bytes=bytes) (hzs:z.cells.size=size) (hsz:0<size)
    (v:Value) (n:Nat) (xs:List Value) (hs:a.eval s=v) (hown:w.ownsRow base e size v n xs) (B:Nat) (A:Option Addr) (m c:Nat) (news:List Value) (hx:a.eval x=.slice A m c) (hl:news.length=m*size) (hnews:Lay w B A news) (h1:∀u∈news,u.oneCell'=true)
    (h63:n+m≤maxLen) (hbytes:(n+m)*bytes≤140737488355328) (hbase:base≤w.heap.size)
    (h:∀v' w',w'.ownsRow base e size v' (n+m) (xs++news)→w.grownBy w' v.ownBlock→wpList P ops Q rest (a.put o.dst v') w'):wpList P ops Q (o::rest) a w:=by
 obtain⟨v',w',hr,h2,h3⟩:=qDd (P:=P) w base t o.type e i z size bytes ht hi hz hsize hby hzs hsz v n xs hown B A m c news hl hnews h1 h63 hbytes hbase;unfold wpList;rw[if_pos hgd];refine .inl ?_;unfold Oper.wp execOp;simp only[ho,resolve,invoke,builtin,Sem.run_bind,Sem.run_pure,Result.andThen_ok,List.map_toArray,List.map_cons,List.map_nil,hs,hx,hr];exact h v' w' h2 h3
structure WasB (tS tC tI:TypeId) (bs B:Nat) (r:SRef) (s:Sc) (v:Value) (rs:List SRef) (L:List Sc) (W:World):Prop where
  sb:W.heap[bs]?=some (.cells #[.slice r.a r.n r.c,.slice r.b r.m r.d] tS (0,0))
  sl:qCi W B r s
  own:W.ownsRow B tS 2 v rs.length (scsV rs)
  ty:∀(i:Nat) q t,rs[i]?=some q→L[i]?=some t→ScT tC tI W q t
  len:rs.length=L.length
  hB:B≤W.heap.size
section
variable {tS tC tI tR:TypeId} {bs B g:Nat} {r:SRef} {s:Sc} {v:Value} {rs:List SRef} {L:List Sc} {W W':World}
theorem WasB.to (h:WasB tS tC tI bs B r s v rs L W) (hb:Below W.heap.size W W'):WasB tS tC tI bs B r s v rs L W':=
  ⟨qAa h.sb hb,h.sl.below (hb.mono h.hB),own_below h.own hb,fun i q t h1 h2=>(h.ty i q t h1 h2).to hb,h.len,Nat.le_trans h.hB hb.size⟩
theorem WasB.but {G:Rg} {Kp:Nat→Prop} {P:Program} {tT tN:TypeId} (h:WasB tS tC tI bs B r s v rs L W) (hl:qKu Kp P tT tN tR g G W) (hg:W.grownBy W' (some g)) (h1:tC≠tR) (h2:tI≠tR) (hb:bs≠g) (hgB:g<B):WasB tS tC tI bs B r s v rs L W':=by
 have he:=hl.effT hg;obtain⟨sp,mb,D,ha⟩:=hl;have hlt:=(Array.getElem?_eq_some_iff.1 h.sb).1;refine⟨(hg.block _ hlt (fun e=>hb (by cases e;rfl))).trans h.sb,⟨h.sl.n,h.sl.m,h.sl.nn,h.sl.mm,h.sl.la.but hg ha.box (qNd _),h.sl.lb.but hg ha.box (qM6 _)⟩,World.ownsRow.kept h.own hg ?_,fun i q t e1 e2=>(h.ty i q t e1 e2).eff he h1 h2,h.len,Nat.le_trans h.hB hg.size⟩
 cases hv:v.ownBlock with
 |none=>exact .inl rfl
 |some k=>exact .inr (fun e=>by have:=(World.ownsRow.lt h.own k hv).1;cases e;omega)
theorem WasB.sl2 (h:WasB tS tC tI bs B r s v rs L W):qCi W W.heap.size r s:=⟨h.sl.n,h.sl.m,h.sl.nn,h.sl.mm,h.sl.la.more h.hB,h.sl.lb.more h.hB⟩
theorem WasB.scs (h:WasB tS tC tI bs B r s v rs L W):∃A c,v=.slice A rs.length c∧rs.length≤c∧c≤maxLen∧qBl W W.heap.size A rs L:=by
 obtain⟨A,c,rfl,h1,h2⟩:=qAh h.own;exact⟨A,c,rfl,h1,h2,h.len,Lay.of_own h.own (Nat.le_refl _),fun i r s h1 h2=>(h.ty i r s h1 h2).lay⟩
theorem WasB.push {A':Option Addr} {c':Nat} (h:WasB tS tC tI bs B r s v rs L W) (hW:Below W.heap.size W W') {W2:World} (n1:tC≠tS) (n2:tI≠tS)
    (ho:W2.ownsRow B tS 2 (.slice A' (rs.length+1) c') (rs.length+1) (scsV rs++r.vs)) (hg:W'.grownBy W2 v.ownBlock):qBl W2 W2.heap.size A' (rs++[r]) (L++[s]):=by
 have h':=h.to hW;have he:=EffT.own h'.own hg;have hb:Below B W' W2:=qBp h'.own (Below.refl _ _) h'.hB (Nat.le_refl _) hg;refine⟨by rw[List.length_append,List.length_append,h.len];rfl,?_,fun i r' s' h1 h2=>?_⟩
 · have hl:=Lay.of_own ho (Nat.le_refl _);rw[qMo,show scsV [r]=r.vs by simp[scsV]];exact hl
 · by_cases hi:i<rs.length
   · rw[List.getElem?_append_left hi] at h1;rw[List.getElem?_append_left (by rw[←h.len];exact hi)] at h2;exact((h'.ty i r' s' h1 h2).eff he n1 n2).lay
   · have h3:=(List.getElem?_eq_some_iff.1 h1).1;rw[List.length_append,List.length_singleton] at h3
     obtain rfl:i=rs.length:=by omega
     rw[List.getElem?_append_right (Nat.le_refl _),Nat.sub_self] at h1;rw[h.len,List.getElem?_append_right (Nat.le_refl _),Nat.sub_self] at h2
     cases h1
     cases h2
     have hs:=h'.sl.below hb;exact⟨hs.n,hs.m,hs.nn,hs.mm,hs.la.more (Nat.le_trans h'.hB hg.size),hs.lb.more (Nat.le_trans h'.hB hg.size)⟩
end
end Go.Ms
namespace Go.Proofs.YtainiaighnjpfaaGreatDoor
open Go.RowKit Go.Ms Go.Lib Go.Maps Go.WideMaps Go.Rel
structure ChSt (Kp:Nat→Prop) (g:Nat) (G:Rg) (w W:World):Prop where
  la:RgLK Kp g G W
  bel:Below w.heap.size w W
  lo:w.heap.size≤g
section
variable {Kp:Nat→Prop} {g:Nat} {G G':Rg} {w W W':World}
theorem ChSt.to (h:ChSt Kp g G w W) (hb:Below W.heap.size W W'):ChSt Kp g G w W':=⟨h.la.to hb,h.bel.trans (hb.mono h.bel.size),h.lo⟩
theorem ChSt.turn (h:ChSt Kp g G w W) (hl:RgLK Kp g G' W') (hg:W.grownBy W' (some g)):ChSt Kp g G' w W':=⟨hl,qSm h.bel hg h.bel.size h.lo,h.lo⟩
theorem ChSt.weak (h:ChSt Kp g G w W):ChSt (fun _=>True) g G w W:=⟨h.la.weak (fun _ _=>trivial),h.bel,h.lo⟩
theorem ChSt.grow {B n size:Nat} {e:TypeId} {v:Value} {xs:List Value} (h:ChSt Kp g G w W) (ho:W.ownsRow B e size v n xs) (hg:W.grownBy W' v.ownBlock) (h2:2≤size) (hk:∀b,v.ownBlock=some b→¬Kp b) (hB:w.heap.size≤B):ChSt Kp g G w W':=by
 refine⟨?_,qBp ho h.bel h.bel.size hB hg,h.lo⟩
 rcases ho.2 with⟨rfl,_⟩|⟨c,cap,cur,rfl,_,hq,_,_,hz,_⟩
 · exact h.la.to ⟨hg.os,hg.tape,hg.output,hg.size,fun k hk'=>hg.block k hk' (fun e=>by cases e)⟩
 · refine qKu.kwr h.la hg (hk c rfl) hq (fun e1=>?_);rw[hz] at e1
   rcases cap with _|cap
   · omega
   · have:size≤(cap+1)*size:=Nat.le_mul_of_pos_left _ (Nat.succ_pos _);omega
end
abbrev WasC (bs B:Nat) (r:SRef) (s:Sc) (v:Value) (rs:List SRef) (L:List Sc) (W:World):Prop:=WasB 33 45 3 bs B r s v rs L W
theorem qWc (r q:SRef) (s t:Sc) (b:Bool) (hb:b=true↔s=t) (w:World) (hr:qCi w w.heap.size r s) (hq:qCi w w.heap.size q t) :
    Calls Tryz.prog 35 #[.agg #[.slice r.a r.n r.c,.slice r.b r.m r.d],.agg #[.slice q.a q.n q.c,.slice q.b q.m q.d]] w fun e w'=>e=.returned (.bool b)∧Below w.heap.size w w':=by
 have h:=qIr w r.a r.b q.a q.b r.n r.c r.m r.d q.n q.c q.m q.d s.1 t.1 s.2 t.2 (by have:=hr.nn;unfold maxLen;omega) (by have:=hr.mm;unfold maxLen;omega) (by have:=hq.nn;unfold maxLen;omega) (by have:=hq.mm;unfold maxLen;omega) hr.n hr.m hq.n hq.m hr.la hr.lb hq.la hq.lb
 have e:(decide (s.1=t.1)&&decide (s.2=t.2))=b:=by
  cases b with
  |true=>
   have h2:=hb.1 rfl;rw[h2]
   simp
  |false=>
   rw[Bool.and_eq_false_iff]
   by_cases h1:s.1=t.1
   · exact .inr (decide_eq_false (fun e=>by have:=hb.2 (Prod.ext h1 e);cases this))
   · exact .inl (decide_eq_false h1)
 rw[e] at h;exact h
set_option maxRecDepth 100000 in
set_option maxHeartbeats 8000000 in
theorem qV5 (A:Option Addr) (n c:Nat) (V:List (Int×Int×Int)) (w:World) (hs:qNe w A n V) (hE:Env w) :
    Calls Tryz.prog 7 #[.slice A n c] w fun e w'=>e=.returned (.bool true)∧Below w.heap.size w w':=by
 obtain⟨sc,si,sz0,sz1,sz2⟩:=info_parts qHt
 have n1:(45:TypeId)≠33:=by decide
 have n2:(3:TypeId)≠33:=by decide
 have HS:=Lib.hid hs;have HE:=Lib.hid hE
 have hwk:=qHc w hE;have HWK:=Lib.hid hwk;clear hs hE hwk
 go_enter Tryz.func7,Tryz.ntmps7
 go_wp2_with fail
 refine HWK.out.mono ?_;rintro en w0 ⟨rfl,b0⟩;have B0:=Lib.hid b0;clear b0 HWK
 go_wp2_with fail
 refine(qKl w0).mono ?_;rintro en w1 ⟨g,rfl,l1,b1,o1⟩;have K0:=Lib.hid (show ChSt (fun _=>True) g [] w w1 from⟨l1,B0.out.trans (b1.mono B0.out.size),Nat.le_trans B0.out.size o1⟩);clear l1 b1 o1 B0
 go_wp2_with fail
 go_loopw [4,5] (fun s4 s5 wr=> ∃(k ln:Nat) (G:Rg),k≤n∧k≤20∧s5=.int .i64 k∧s4=.int .i64 ln∧(rgAt G [120]).length=ln∧ChSt (fun _=>True) g G w wr∧ChOk G k) (fun _ s5 _=>20-(RowKit.intOf s5).toNat)
 case atStart=>exact⟨0,0,_,Nat.zero_le _,by omega,rfl,rfl,rfl,K0.out,ChOk.nil⟩
 case round=>
  obtain⟨k,ln,G,hk,hk20,rfl,rfl,hln0,hK,hM⟩:=hrel
  have K:=Lib.hid hK;have MK:=Lib.hid hM;have HLN0:=Lib.hid hln0
  clear hK hM hln0 K0;have hnn:=HS.out.nn
  by_cases hk1:k<n
  · have tk:(k:Int)<n:=by omega
    have tk0:(0:Int)≤k:=by omega
    by_cases hk2:k<20
    · have tk2:(k:Int)<20:=by omega
      obtain⟨ga,oa,⟨x0,x1,x2⟩,eA,-,hN,hx0,hx1,hx2⟩:=HS.out.at_ hk1;subst eA;obtain⟨G',v,e,hgo,hone⟩:=MK.out.add hk2 (x0,x1,x2)
      have HN:=Lib.hid hN;have HX0:=Lib.hid hx0;have HX1:=Lib.hid hx1;have HX2:=Lib.hid hx2;have HGO:=Lib.hid hgo;have ONE:=Lib.hid hone
      clear hN hx0 hx1 hx2 hgo hone;simp only at HX0 HX1 HX2 HN;have y':=(HN.out _ K.out.bel);have y0:=y'.c0;have y1:=y'.c1;have y2:=y'.c2;clear y'
      go_wp2_with fail
      refine(qFb (x0,x1,x2) _ HX0.out HX1.out HX2.out).mono ?_;rintro en w2 ⟨r,rfl,b2,hl2,-⟩;obtain⟨s,hs⟩:∃s,s=qBx (x0,x1,x2):=⟨_,rfl⟩
      have hsz:ScSz s.1:=by rw[hs];exact qFt _
      have hck:qBb s.1 s.2=0:=by rw[hs];unfold qBb;rw[if_pos (qV2 _)]
      rw[←hs] at hl2 HGO;have ONE:=Lib.hid (show qXi G (x0,x1,x2) k G' v e from ONE.out)
      have HSS:=Lib.hid hs;have SZ:=Lib.hid hsz;have CK:=Lib.hid hck
      obtain⟨X,hX⟩:∃X,X=w2.alloc (.cells #[.slice r.a r.n r.c,.slice r.b r.m r.d] 33):=⟨_,rfl⟩
      have bX:Below w2.heap.size w2 X:=by rw[hX];exact(Below.refl _ _).alloc (Nat.le_refl _) _
      have qX:X.heap[w2.heap.size]?=some (.cells #[.slice r.a r.n r.c,.slice r.b r.m r.d] 33 (0,0)):=by rw[hX];exact qAf _ _
      have KX:=Lib.hid ((K.out.to b2).to bX);have SX:=Lib.hid (hl2.to bX);have QX:=Lib.hid qX
      have hgb:g<w2.heap.size:=Nat.lt_of_lt_of_le (RgL.lt K.out.la) b2.size;have HGB:=Lib.hid hgb;clear b2 hl2 bX qX y0 y1 y2 hs hsz hck hgb
      go_upto_region 9 with fail
      rw[←hX]
      generalize w2.heap.size=bs at QX HGB ⊢
      clear hX
      go_wp2_with fail
      have hch:=qV1 g G ⟨#[120]⟩ X (by decide) KX.out.la;rw[show(⟨#[120]⟩:ByteArray).data.toList=[120] from rfl] at hch;refine hch.mono ?_;clear hch;rintro en w3 ⟨vw,rs,rfl,hlen,hst⟩;obtain⟨L,hL⟩:∃L,L=rgAt G [120]:=⟨_,rfl⟩;rw[←hL] at hlen hst
      have hln:L.length=ln:=by rw[hL];exact HLN0.out
      have hrl:rs.length=ln:=hlen.trans hln
      have HLN:=Lib.hid hln;have HRL:=Lib.hid hrl
      have hwas:WasC bs X.heap.size r s vw rs L w3:=⟨qAa QX.out hst.bel,SX.out.below hst.bel,hst.own,hst.each,hlen,hst.bel.size⟩;obtain⟨A3,c3,e3,-,-,-⟩:=hwas.scs;subst e3;rw[hrl]
      obtain⟨Kq,hKq⟩:∃Kq:Nat→Prop,Kq=fun b=>b<X.heap.size∨w3.heap.size≤b:=⟨_,rfl⟩
      have hkq:∀b,w3.heap.size≤b→Kq b:=fun b h=>by rw[hKq];exact .inr h
      have hob:∀b,(Value.slice A3 rs.length c3).ownBlock=some b→¬Kq b:=fun b h=>by have h2:=World.ownsRow.lt hwas.own b h;rw[hKq];show ¬(b<X.heap.size∨w3.heap.size≤b);omega
      rw[hrl] at hob;have k3:ChSt Kq g G w w3:=⟨(qKu.below KX.out.la |>.to hst.bel).weak (fun b h=>by rw[hKq];exact .inl h),(KX.out.to hst.bel).bel,KX.out.lo⟩
      have HKQ:=Lib.hid hkq;have HOB:=Lib.hid hob;have HWX:=Lib.hid KX.out.bel.size
      clear hKq hkq hob
      have K3:=Lib.hid k3;have WS3:=Lib.hid hwas;have HL:=Lib.hid hL;have RL:=Lib.hid hlen
      have HGX:=Lib.hid (show g<X.heap.size by have:=(Array.getElem?_eq_some_iff.1 QX.out).1;have:=HGB.out;omega);have HBG:=Lib.hid (show bs≠g by have:=HGB.out;omega);clear k3 hst hwas hlen hL hln hrl KX SX QX;have z0:=cell_of_block (i:=0) (v:=.slice r.a r.n r.c) WS3.out.sb rfl;have z1:=cell_of_block (i:=1) (v:=.slice r.b r.m r.d) WS3.out.sb rfl
      go_wp2_with fail
      have had:=qV8 (Kp:=Kq) g G ⟨#[120]⟩ r s w3 (by decide) K3.out.la WS3.out.sl2 SZ.out (HE.out.below K3.out.bel) HKQ.out;rw[show(⟨#[120]⟩:ByteArray).data.toList=[120] from rfl,HGO.out] at had;refine had.mono ?_;rintro en w4 ⟨rfl,hl4,hg4⟩
      have K4:=Lib.hid (K3.out.turn hl4 hg4);have WS4:=Lib.hid (WS3.out.but K3.out.la hg4 (by decide) (by decide) HBG.out HGX.out)
      clear hl4 hg4 had K3 WS3 z0 z1
      go_wp2_with fail
      have hch:=qV1 g G' ⟨#[120]⟩ w4 (by decide) K4.out.la;rw[show(⟨#[120]⟩:ByteArray).data.toList=[120] from rfl] at hch;refine hch.mono ?_;clear hch;rintro en w5 ⟨v',rs',rfl,hlen',hst'⟩;obtain⟨A5,c5,rfl,-,-,hscs'⟩:=hst'.scs hlen';obtain⟨L',hL'⟩:∃L',L'=rgAt G' [120]:=⟨_,rfl⟩;rw[←hL'] at hlen' hscs';obtain⟨lm,hlm⟩:∃lm,L'.length=lm:=⟨_,rfl⟩;have hrl':rs'.length=lm:=hlen'.trans hlm;rw[hrl']
      have K5:=Lib.hid (K4.out.to hst'.bel);have WS5:=Lib.hid (WS4.out.to hst'.bel);have N5:=Lib.hid hscs';have HL':=Lib.hid hL';have RL':=Lib.hid hlen'
      have HLM:=Lib.hid hlm;have HRL':=Lib.hid hrl'
      clear hst' hscs' hL' hlen' hlm hrl' K4 WS4
      -- the numbers
      have hln:=HLN.out;have hlm:=HLM.out
      have hlnk:ln≤20:=by have:=MK.out.few;rw[←HL.out,hln] at this;omega
      have hlmk:lm≤21:=by have:=ONE.out.ok.few;rw[←HL'.out,hlm] at this;omega
      have hchn:qAu L'=0:=by rw[HL'.out];exact ONE.out.ok.mv.chain ONE.out.ne
      have hall:∀t∈L',ScSz t.1:=fun t ht=>by rw[HL'.out] at ht;obtain⟨y,e⟩:=ONE.out.ok.mv.all t ht;rw[e];exact qFt y
      have hall0:∀t∈L++[s],ScSz t.1:=fun t ht=>by
       rcases List.mem_append.1 ht with ht|ht
       · rw[HL.out] at ht;obtain⟨y,e⟩:=MK.out.mv.all t ht;rw[e];exact qFt y
       · rw[List.mem_singleton.1 ht];exact SZ.out
      have hway:qXg L s v e L':=by have h:=ONE.out.way;rw[←HL.out,←HL'.out,←HSS.out] at h;exact h
      have hgot:e=0→1≤v∧v=(lm:Nat)∧qHj G' [120] v=(s,0):=by have h:=ONE.out.got;rw[←HL'.out,hlm,←HSS.out] at h;exact h
      have hok2:=ONE.out.ok
      have hk0:k=0→ln=0:=fun h=>by have h2:=MK.out.few;rw[←HL.out,hln,h] at h2;omega
      have hn0:ln=0→k=0:=fun h=>by
       by_cases e:k=0
       · exact e
       · exact absurd (by rw[←HL.out];exact List.eq_nil_of_length_eq_zero (by omega)) (MK.out.mv.nz (by omega))
      have CHN:=Lib.hid hchn;have ALL:=Lib.hid hall;have ALL0:=Lib.hid hall0;have WAY:=Lib.hid hway;have GOT:=Lib.hid hgot;have OK2:=Lib.hid hok2;have KN:=Lib.hid (And.intro hk0 hn0);have HB20:=Lib.hid (And.intro hlnk hlmk)
      have HK20:=Lib.hid hk2;have HK1:=Lib.hid hk1
      clear hchn hall hall0 hway hgot hok2 hk0 hn0 hln hlm hlnk hlmk ONE MK
      obtain⟨vv,hvv⟩:∃vv:Nat,v=(vv:Int)∧vv≤21:=by
       cases WAY.out with
       |again h1 h2 h3 h4=>exact⟨ln,by rw[h2,HLN.out],by have:=HB20.out;omega⟩
       |more h1 h2 h3 h4 h5=>exact⟨ln+1,by rw[h3,HLN.out];rfl,by have:=HB20.out;omega⟩
       |not h1 h2 h3 h4 h5 h6=>exact⟨0,by rw[h4];rfl,by omega⟩
      obtain⟨hve,hvl⟩:=hvv;subst hve;have hlnb:=HB20.out.1;have hlmb:=HB20.out.2;have HWAY:=WAY;clear WAY
      by_cases hln0:ln=0
      · have hmore:e=0∧vv=1∧lm=1∧qAu (L++[s])=0:=by
          have hL0:L=[]:=List.eq_nil_of_length_eq_zero (by rw[HLN.out];exact hln0)
          cases HWAY.out with
          |again h1 h2 h3 h4=>rw[hL0] at h1;cases h1
          |more h1 h2 h3 h4 h5=>exact⟨h4,by rw[HLN.out] at h3;omega,by rw[←HLM.out,h5,List.length_append,HLN.out,hln0];rfl,h2⟩
          |not h1 h2 h3 h4 h5 h6=>exact absurd hL0 h3
        obtain⟨rfl,hv1,hl1,hk1'⟩:=hmore;have KV:=Lib.hid hk1'
        have HV1:=Lib.hid hv1;have HL1:=Lib.hid hl1;have HZ0:=Lib.hid hln0
        clear HWAY hk1' hv1 hl1 hln0;have hg3:=GOT.out rfl
        have hmx:max (vv:Int) 1=(vv:Int):=by (have o1:=HV1.out;have o2:=HL1.out;have o3:=HZ0.out;omega)
        obtain⟨gs,hgs⟩:∃gs,gs=s:=⟨_,rfl⟩;have HGG:=Lib.hid (show qHj G' [120] vv=(gs,0) by rw[hgs];exact hg3.2.2);have HGS:=Lib.hid hgs
        have hvb:(-9223372036854775808:Int)≤vv∧(vv:Int)≤9223372036854775807:=by (have o1:=HV1.out;have o2:=HL1.out;have o3:=HZ0.out;omega)
        have HVB:=Lib.hid hvb;have HG3:=Lib.hid hg3.2.1;clear hg3 hgs hvb
        go_wp2_with fail
        have hget:=qHb g G' ⟨#[120]⟩ vv w5 (by decide) K5.out.la HVB.out;rw[show(⟨#[120]⟩:ByteArray).data.toList=[120] from rfl,HGG.out] at hget;refine hget.mono ?_;clear hget;rintro en w6 ⟨rg,rfl,b6,t6,-,-⟩;obtain⟨X6,hX6⟩:∃X,X=w6.alloc (.cells #[.slice rg.a rg.n rg.c,.slice rg.b rg.m rg.d] 33):=⟨_,rfl⟩
        have bX6:Below w6.heap.size w6 X6:=by rw[hX6];exact(Below.refl _ _).alloc (Nat.le_refl _) _
        have qX6:X6.heap[w6.heap.size]?=some (.cells #[.slice rg.a rg.n rg.c,.slice rg.b rg.m rg.d] 33 (0,0)):=by rw[hX6];exact qAf _ _
        have bb6:=b6.trans (bX6.mono b6.size)
        have K6:=Lib.hid (K5.out.to bb6);have WS6:=Lib.hid (WS5.out.to bb6);have N6:=Lib.hid (N5.out.to bb6);have Q6:=Lib.hid qX6;have R6:=Lib.hid (t6.lay.to bX6)
        clear b6 t6 bX6 qX6 bb6 K5 WS5 N5 hmx
        go_upto_region 13 with fail
        rw[←hX6]
        generalize w6.heap.size=bg at Q6 ⊢
        clear hX6
        have hne1:((ln:Int) != ln)=false:=by simp
        have hne2:((lm:Int) != lm)=false:=by simp
        have hz:((0:Int) != 0)=false:=rfl
        go_wp2_with fail
        have hla:=qBq g G' ⟨#[120]⟩ X6 (by decide) K6.out.la;rw[show(⟨#[120]⟩:ByteArray).data.toList=[120] from rfl,←HL'.out,HLM.out] at hla;refine hla.mono ?_;clear hla;rintro en w7 ⟨rfl,hw7⟩;rw[hw7];clear hw7
        go_wp2_with fail
        have hch:=qH5 X6 A5 lm c5 rs' L' (by have:=HB20.out.2;(have o1:=HV1.out;have o2:=HL1.out;have o3:=HZ0.out;omega)) HRL'.out.symm N6.out ALL.out (HE.out.below K6.out.bel);rw[CHN.out] at hch;refine hch.mono ?_;clear hch;rintro en w8 ⟨rfl,b8⟩
        have K7:=Lib.hid (K6.out.to b8);have WS7:=Lib.hid (WS6.out.to b8);have Q7:=Lib.hid (qAa Q6.out b8);have R7:=Lib.hid (R6.out.to b8)
        clear b8 K6 WS6 Q6 R6 N6;have z0:=cell_of_block (i:=0) (v:=.slice r.a r.n r.c) WS7.out.sb rfl;have z1:=cell_of_block (i:=1) (v:=.slice r.b r.m r.d) WS7.out.sb rfl
        go_wp2_with fail
        have hsl:=WS7.out.sl2;have hcc:=qEv w8 r.a r.b r.n r.c r.m r.d s.1 s.2 SZ.out hsl.nn hsl.mm hsl.n hsl.m hsl.la hsl.lb (HE.out.below K7.out.bel);rw[CK.out] at hcc;refine hcc.mono ?_;clear hcc hsl;rintro en w9 ⟨rfl,b9⟩
        have K9:=Lib.hid (K7.out.to b9);have WS9:=Lib.hid (WS7.out.to b9);have Q9:=Lib.hid (qAa Q7.out b9);have R9:=Lib.hid (R7.out.to b9)
        clear b9 K7 WS7 Q7 R7 z0 z1;have z0:=cell_of_block (i:=0) (v:=.slice r.a r.n r.c) WS9.out.sb rfl;have z1:=cell_of_block (i:=1) (v:=.slice r.b r.m r.d) WS9.out.sb rfl;have q0:=cell_of_block (i:=0) (v:=.slice rg.a rg.n rg.c) Q9.out rfl;have q1:=cell_of_block (i:=1) (v:=.slice rg.b rg.m rg.d) Q9.out rfl;have tv1:decide ((vv:Int)<ln)=false:=decide_eq_false (by (have o1:=HV1.out;have o2:=HL1.out;have o3:=HZ0.out;omega));have tv1b:decide (vv<ln)=false:=decide_eq_false (by (have o1:=HV1.out;have o2:=HL1.out;have o3:=HZ0.out;omega))
        have hw1:IntKind.i64.wrap ((ln:Int)+1)=(ln:Int)+1:=IntWalk.i64_in _ (by have:=HB20.out.1;(have o1:=HV1.out;have o2:=HL1.out;have o3:=HZ0.out;omega));have tv2:decide ((ln:Int)+1<vv)=false:=decide_eq_false (by (have o1:=HV1.out;have o2:=HL1.out;have o3:=HZ0.out;omega));have tv2b:decide (ln+1<vv)=false:=decide_eq_false (by (have o1:=HV1.out;have o2:=HL1.out;have o3:=HZ0.out;omega))
        have tv3:((vv:Int) != lm)=false:=by simp;have:=HG3.out;(have o1:=HV1.out;have o2:=HL1.out;have o3:=HZ0.out;omega)
        go_wp2_with fail
        have hsm:=qWc rg r gs s true ⟨fun _=>HGS.out,fun _=>rfl⟩ w9 R9.out WS9.out.sl2;refine hsm.mono ?_;clear hsm;rintro en w10 ⟨rfl,b10⟩
        have K8:=Lib.hid (K9.out.to b10);have WS8:=Lib.hid (WS9.out.to b10)
        clear b10 K9 WS9 Q9 R9 z0 z1 q0 q1;have tl0:decide ((0:Int)<ln)=false:=decide_eq_false (by (have o1:=HV1.out;have o2:=HL1.out;have o3:=HZ0.out;omega));have tl0b:decide (0<ln)=false:=decide_eq_false (by (have o1:=HV1.out;have o2:=HL1.out;have o3:=HZ0.out;omega))
        go_upto_region 17 with fail
        refine qAk [isV (.int .i64 (ln:Nat)),isV (.bool false),isV (.bool false),isV (undef),isV (undef),isV (undef),isV (undef),isV (undef),isV (undef),isV (undef),isV (.bool false),isV (.bool false)] (by kernel_rfl) (by kernel_rfl) ?_ ?_
        ·
          refine rb ?_;refine rf (fun ev wo E=>?_) ?_
          · have e117:ev (.tmp 117)=.int .i64 (ln:Nat):=E.e 0;have ec:=E.const;have h0:=tl0;have h1:=tl0b;go_simp;exact rv
          refine rc 0 ?_;refine ro 0 ?_;refine ro 0 ?_;refine ro 1 ?_;refine ro 2 ?_;refine ro 1 ?_;refine ro 0 ?_;refine ro 2 ?_;refine rf (fun ev wo E=>?_) ?_
          · have e119:ev (.tmp 119)=.bool false:=E.e 0;have e126:ev (.tmp 126)=undef:=E.e 1;have ec:=E.const;go_simp;exact rv
          refine⟨qAy 0 (qA0.free rfl) (.inr rfl) rfl rfl rfl rfl (qAm _),?_⟩;trivial
        · intro wz bz
          (iterate 12 rintro _ rfl)
          have K:=Lib.hid (K8.out.to bz);have WS:=Lib.hid (WS8.out.to bz)
          clear bz K8 WS8;simp only[qA1];go_simp
          have tv9:((vv:Int)==ln)=false:=by simp;(have o1:=HV1.out;have o2:=HL1.out;have o3:=HZ0.out;omega)
          have tk9:((k:Int)==0)=true:=by simp;exact KN.out.2 (by (have o1:=HV1.out;have o2:=HL1.out;have o3:=HZ0.out;omega))
          have tv8:((vv:Int) != 1)=false:=by simp;(have o1:=HV1.out;have o2:=HL1.out;have o3:=HZ0.out;omega)
          have z0:=cell_of_block (i:=0) (v:=.slice r.a r.n r.c) WS.out.sb rfl;have z1:=cell_of_block (i:=1) (v:=.slice r.b r.m r.d) WS.out.sb rfl;have bn:=(Below.refl wz.heap.size wz).alloc (Nat.le_refl _) (.cells #[.slice r.a r.n r.c,.slice r.b r.m r.d] 33)
          have WN:=Lib.hid (WS.out.to bn);have HNW:=Lib.hid (qDr wz r.vs 33);have HONE:=Lib.hid (fun u hu=>qI9 [r] u (by simpa[scsV] using hu):∀u∈r.vs,u.oneCell'=true);have BN:=Lib.hid bn
          have hon:=WN.out.own;rw[HRL.out] at hon
          have HON:=Lib.hid hon;have KNW:=Lib.hid (K.out.to bn)
          clear bn hon
          go_wp2_with (at_builtin;refine qXo rfl (.tmp 150) (.tmp 152) _ rfl X.heap.size 33 sc _ 2 48 qFu si sz0 sz1 sz2 rfl (by (have o1:=HV1.out;have o2:=HL1.out;have o3:=HZ0.out;omega)) (.slice A3 ln c3) ln (scsV rs) rfl HON.out _ (some ⟨wz.heap.size,0,none⟩) 1 1 r.vs rfl rfl HNW.out HONE.out (by have:=HB20.out.1;unfold maxLen;(have o1:=HV1.out;have o2:=HL1.out;have o3:=HZ0.out;omega)) (by have:=HB20.out.1;(have o1:=HV1.out;have o2:=HL1.out;have o3:=HZ0.out;omega)) WN.out.hB ?_;intro v8 w11 hown8 hg8;have OW8:=Lib.hid hown8;have HG8:=Lib.hid hg8;clear hown8 hg8;obtain⟨A8,c8,hv8,-,-⟩:=qAh OW8.out;subst hv8)
          have hpu:=WN.out.push (Below.refl _ _) n1 n2 (by have h:=OW8.out;rw[←HRL.out] at h;exact h) (by rw[HRL.out];exact HG8.out);have kg:=KNW.out.grow HON.out HG8.out (by (have o1:=HV1.out;have o2:=HL1.out;have o3:=HZ0.out;omega)) HOB.out HWX.out;have KG:=Lib.hid kg;clear kg;have hcx:=qH5 w11 A8 (ln+1) c8 (rs++[r]) (L++[s]) (by have:=HB20.out.1;(have o1:=HV1.out;have o2:=HL1.out;have o3:=HZ0.out;omega)) (by rw[List.length_append,HRL.out];rfl) hpu ALL0.out (HE.out.below KG.out.bel)
          refine(by rw[KV.out] at hcx;exact hcx:Calls _ _ _ _ _).mono ?_;rintro en w12 ⟨rfl,b12⟩;have KZ:=Lib.hid ((KG.out.to b12).weak);clear b12 hcx hpu
          go_wp2_with fail
          exact⟨⟨k+1,lm,G',by omega,by omega,by go_num,rfl,by rw[←HL'.out];exact HLM.out,KZ.out,OK2.out⟩,by simp[RowKit.intOf];omega⟩
      · cases HWAY.out with
       |again h1 h2 h3 h4=>
        subst h3;have HW1:=Lib.hid h1
        have hv1:vv=ln:=by rw[HLN.out] at h2;omega
        have hl1:lm=ln:=by rw[←HLM.out,h4,HLN.out]
        have HV1:=Lib.hid hv1;have HL1:=Lib.hid hl1;have HZ0:=Lib.hid hln0
        clear h1 h2 h4 HWAY hv1 hl1 hln0;have hg3:=GOT.out rfl
        have hmx:max (vv:Int) 1=(vv:Int):=by (have o1:=HV1.out;have o2:=HL1.out;have o3:=HZ0.out;omega)
        obtain⟨gs,hgs⟩:∃gs,gs=s:=⟨_,rfl⟩;have HGG:=Lib.hid (show qHj G' [120] vv=(gs,0) by rw[hgs];exact hg3.2.2);have HGS:=Lib.hid hgs
        have hvb:(-9223372036854775808:Int)≤vv∧(vv:Int)≤9223372036854775807:=by (have o1:=HV1.out;have o2:=HL1.out;have o3:=HZ0.out;omega)
        have HVB:=Lib.hid hvb;have HG3:=Lib.hid hg3.2.1;clear hg3 hgs hvb
        go_wp2_with fail
        have hget:=qHb g G' ⟨#[120]⟩ vv w5 (by decide) K5.out.la HVB.out;rw[show(⟨#[120]⟩:ByteArray).data.toList=[120] from rfl,HGG.out] at hget;refine hget.mono ?_;clear hget;rintro en w6 ⟨rg,rfl,b6,t6,-,-⟩;obtain⟨X6,hX6⟩:∃X,X=w6.alloc (.cells #[.slice rg.a rg.n rg.c,.slice rg.b rg.m rg.d] 33):=⟨_,rfl⟩
        have bX6:Below w6.heap.size w6 X6:=by rw[hX6];exact(Below.refl _ _).alloc (Nat.le_refl _) _
        have qX6:X6.heap[w6.heap.size]?=some (.cells #[.slice rg.a rg.n rg.c,.slice rg.b rg.m rg.d] 33 (0,0)):=by rw[hX6];exact qAf _ _
        have bb6:=b6.trans (bX6.mono b6.size)
        have K6:=Lib.hid (K5.out.to bb6);have WS6:=Lib.hid (WS5.out.to bb6);have N6:=Lib.hid (N5.out.to bb6);have Q6:=Lib.hid qX6;have R6:=Lib.hid (t6.lay.to bX6)
        clear b6 t6 bX6 qX6 bb6 K5 WS5 N5 hmx
        go_upto_region 13 with fail
        rw[←hX6]
        generalize w6.heap.size=bg at Q6 ⊢
        clear hX6
        have hne1:((ln:Int) != ln)=false:=by simp
        have hne2:((lm:Int) != lm)=false:=by simp
        have hz:((0:Int) != 0)=false:=rfl
        go_wp2_with fail
        have hla:=qBq g G' ⟨#[120]⟩ X6 (by decide) K6.out.la;rw[show(⟨#[120]⟩:ByteArray).data.toList=[120] from rfl,←HL'.out,HLM.out] at hla;refine hla.mono ?_;clear hla;rintro en w7 ⟨rfl,hw7⟩;rw[hw7];clear hw7
        go_wp2_with fail
        have hch:=qH5 X6 A5 lm c5 rs' L' (by have:=HB20.out.2;(have o1:=HV1.out;have o2:=HL1.out;have o3:=HZ0.out;omega)) HRL'.out.symm N6.out ALL.out (HE.out.below K6.out.bel);rw[CHN.out] at hch;refine hch.mono ?_;clear hch;rintro en w8 ⟨rfl,b8⟩
        have K7:=Lib.hid (K6.out.to b8);have WS7:=Lib.hid (WS6.out.to b8);have Q7:=Lib.hid (qAa Q6.out b8);have R7:=Lib.hid (R6.out.to b8)
        clear b8 K6 WS6 Q6 R6 N6;have z0:=cell_of_block (i:=0) (v:=.slice r.a r.n r.c) WS7.out.sb rfl;have z1:=cell_of_block (i:=1) (v:=.slice r.b r.m r.d) WS7.out.sb rfl
        go_wp2_with fail
        have hsl:=WS7.out.sl2;have hcc:=qEv w8 r.a r.b r.n r.c r.m r.d s.1 s.2 SZ.out hsl.nn hsl.mm hsl.n hsl.m hsl.la hsl.lb (HE.out.below K7.out.bel);rw[CK.out] at hcc;refine hcc.mono ?_;clear hcc hsl;rintro en w9 ⟨rfl,b9⟩
        have K9:=Lib.hid (K7.out.to b9);have WS9:=Lib.hid (WS7.out.to b9);have Q9:=Lib.hid (qAa Q7.out b9);have R9:=Lib.hid (R7.out.to b9)
        clear b9 K7 WS7 Q7 R7 z0 z1;have z0:=cell_of_block (i:=0) (v:=.slice r.a r.n r.c) WS9.out.sb rfl;have z1:=cell_of_block (i:=1) (v:=.slice r.b r.m r.d) WS9.out.sb rfl;have q0:=cell_of_block (i:=0) (v:=.slice rg.a rg.n rg.c) Q9.out rfl;have q1:=cell_of_block (i:=1) (v:=.slice rg.b rg.m rg.d) Q9.out rfl;have tv1:decide ((vv:Int)<ln)=false:=decide_eq_false (by (have o1:=HV1.out;have o2:=HL1.out;have o3:=HZ0.out;omega));have tv1b:decide (vv<ln)=false:=decide_eq_false (by (have o1:=HV1.out;have o2:=HL1.out;have o3:=HZ0.out;omega))
        have hw1:IntKind.i64.wrap ((ln:Int)+1)=(ln:Int)+1:=IntWalk.i64_in _ (by have:=HB20.out.1;(have o1:=HV1.out;have o2:=HL1.out;have o3:=HZ0.out;omega));have tv2:decide ((ln:Int)+1<vv)=false:=decide_eq_false (by (have o1:=HV1.out;have o2:=HL1.out;have o3:=HZ0.out;omega));have tv2b:decide (ln+1<vv)=false:=decide_eq_false (by (have o1:=HV1.out;have o2:=HL1.out;have o3:=HZ0.out;omega))
        have tv3:((vv:Int) != lm)=false:=by simp;have:=HG3.out;(have o1:=HV1.out;have o2:=HL1.out;have o3:=HZ0.out;omega)
        go_wp2_with fail
        have hsm:=qWc rg r gs s true ⟨fun _=>HGS.out,fun _=>rfl⟩ w9 R9.out WS9.out.sl2;refine hsm.mono ?_;clear hsm;rintro en w10 ⟨rfl,b10⟩
        have K8:=Lib.hid (K9.out.to b10);have WS8:=Lib.hid (WS9.out.to b10)
        clear b10 K9 WS9 Q9 R9 z0 z1 q0 q1;obtain⟨m,hm⟩:∃m,ln=m+1:=⟨ln-1,by (have o1:=HV1.out;have o2:=HL1.out;have o3:=HZ0.out;omega)⟩;obtain⟨sl,hsl⟩:∃t,L[m]?=some t:=⟨_,List.getElem?_eq_getElem (by rw[HLN.out];(have o1:=HV1.out;have o2:=HL1.out;have o3:=HZ0.out;omega))⟩;obtain⟨rl,hrl⟩:∃t,rs[m]?=some t:=⟨_,List.getElem?_eq_getElem (by rw[HRL.out];(have o1:=HV1.out;have o2:=HL1.out;have o3:=HZ0.out;omega))⟩
        have hlast:L.getLast?=some sl:=by rw[List.getLast?_eq_getElem?,HLN.out,hm];exact hsl
        obtain⟨A9,c9,e9,-,-,hsc9⟩:=WS8.out.scs
        cases e9
        obtain⟨gw,ow,ea,tl⟩:=hsc9.at_ hrl;have RLS:=Lib.hid (WS8.out.ty m rl sl hrl hsl).lay;have TL:=Lib.hid tl;subst ea
        have hwm:IntKind.i64.wrap ((ln:Int)-1)=(m:Int):=by rw[show(ln:Int)-1=m by (have o1:=HV1.out;have o2:=HL1.out;have o3:=HZ0.out;omega)];exact IntWalk.i64_in _ (by have:=HB20.out.1;(have o1:=HV1.out;have o2:=HL1.out;have o3:=HZ0.out;omega))
        have tm1:(m:Int)<ln:=by (have o1:=HV1.out;have o2:=HL1.out;have o3:=HZ0.out;omega)
        have hm2:m<ln:=by (have o1:=HV1.out;have o2:=HL1.out;have o3:=HZ0.out;omega)
        have tl0:decide ((0:Int)<ln)=true:=decide_eq_true (by (have o1:=HV1.out;have o2:=HL1.out;have o3:=HZ0.out;omega));have tl0b:decide (0<ln)=true:=decide_eq_true (by (have o1:=HV1.out;have o2:=HL1.out;have o3:=HZ0.out;omega));have HSM:=Lib.hid (show sl=s by have h:=HW1.out;rw[hlast] at h;exact Option.some.inj h);clear hsl hrl hlast hsc9 tl hm
        go_upto_region 17 with fail
        refine qAk [isV (.int .i64 (ln:Nat)),isV (.bool true),isV (.bool true),isV (.slice (some ⟨gw,ow,none⟩) ln c3),isV (.int .i64 (ln:Nat)),isV (.int .i64 (m:Nat)),isV (.pointer (some ⟨gw,ow+m*2,none⟩)),isV (.agg #[.slice rl.a rl.n rl.c,.slice rl.b rl.m rl.d]),isV (.agg #[.slice r.a r.n r.c,.slice r.b r.m r.d]),isV (.bool true),isV (.bool true),isV (.bool true)] (by kernel_rfl) (by kernel_rfl) ?_ ?_
        ·
          refine rb ?_;refine rf (fun ev wo E=>?_) ?_
          · have e117:ev (.tmp 117)=.int .i64 (ln:Nat):=E.e 0;have ec:=E.const;have h0:=tl0;have h1:=tl0b;go_simp;exact rv
          refine rc 0 ?_;refine rbq 0 ?_;refine rbq 0 ?_;refine rq 1 (fun ev wo E=>?_) ?_
          · have e121:ev (.tmp 121)=.int .i64 (ln:Nat):=E.e 0;have ec:=E.const;have h0:=hwm;go_simp;exact rv
          refine rq 2 (fun ev wo E=>?_) ?_
          · have e120:ev (.tmp 120)=.slice (some ⟨gw,ow,none⟩) ln c3:=E.e 0;have e122:ev (.tmp 122)=.int .i64 (m:Nat):=E.e 1;have h1:=tm1;have h2:=hm2;go_simp;exact rv
          refine rq 1 (fun ev wo E=>?_) ?_
          · have e123:ev (.tmp 123)=.pointer (some ⟨gw,ow+m*2,none⟩):=E.e 0;have hx0:=(E.bel.cell TL.out.lt).trans TL.out.c0;have hx1:=(E.bel.cell TL.out.lt).trans TL.out.c1;go_simp;exact rv
          refine rq 0 (fun ev wo E=>?_) ?_
          · have e6:ev (.tmp 6)=.pointer (some ⟨bs,0,none⟩):=(E.base 6 rfl).trans rfl;have hx0:=cell_of_block (i:=0) (qAa WS8.out.sb E.bel) rfl;have hx1:=cell_of_block (i:=1) (qAa WS8.out.sb E.bel) rfl;go_simp;exact rv
          refine rq 2 (fun ev wo E=>?_) ?_
          · have e124:ev (.tmp 124)=.agg #[.slice rl.a rl.n rl.c,.slice rl.b rl.m rl.d]:=E.e 0;have e125:ev (.tmp 125)=.agg #[.slice r.a r.n r.c,.slice r.b r.m r.d]:=E.e 1;have ef:=E.func;have hsm:=qWc rl r sl s true ⟨fun _=>HSM.out,fun _=>rfl⟩ wo (RLS.out.to E.bel) (WS8.out.to E.bel).sl2;go_simp;refine qAe (hsm.mono ?_);rintro e w' ⟨rfl,hb⟩;exact⟨_,rfl,hb,rfl⟩
          refine rf (fun ev wo E=>?_) ?_
          · have e119:ev (.tmp 119)=.bool true:=E.e 0;have e126:ev (.tmp 126)=.bool true:=E.e 1;have ec:=E.const;go_simp;exact rv
          refine⟨qAy 0 (qA0.free rfl) (.inr rfl) rfl rfl rfl rfl (qAm _),?_⟩;trivial
        · intro wz bz
          (iterate 12 rintro _ rfl)
          have K:=Lib.hid (K8.out.to bz);have WS:=Lib.hid (WS8.out.to bz)
          clear bz K8 WS8 TL RLS HSM hwm tm1 hm2;simp only[qA1];go_simp
          have tv1:((vv:Int)==ln)=true:=by simp;(have o1:=HV1.out;have o2:=HL1.out;have o3:=HZ0.out;omega)
          have tk9:((k:Int)==0)=false:=by simp;intro h;have:=KN.out.1 h;(have o1:=HV1.out;have o2:=HL1.out;have o3:=HZ0.out;omega)
          go_wp2_with fail
          exact⟨⟨k+1,lm,G',by omega,by omega,by go_num,rfl,by rw[←HL'.out];exact HLM.out,K.out.weak,OK2.out⟩,by simp[RowKit.intOf];omega⟩
       |more h1 h2 h3 h4 h5=>
        subst h4;have HW1:=Lib.hid h1
        have hv1:vv=ln+1:=by rw[HLN.out] at h3;omega
        have hl1:lm=ln+1:=by rw[←HLM.out,h5,List.length_append,HLN.out];rfl
        have KV:=Lib.hid h2
        have HV1:=Lib.hid hv1;have HL1:=Lib.hid hl1;have HZ0:=Lib.hid hln0
        clear h1 h2 h3 h5 HWAY hv1 hl1 hln0;have hg3:=GOT.out rfl
        have hmx:max (vv:Int) 1=(vv:Int):=by (have o1:=HV1.out;have o2:=HL1.out;have o3:=HZ0.out;omega)
        obtain⟨gs,hgs⟩:∃gs,gs=s:=⟨_,rfl⟩;have HGG:=Lib.hid (show qHj G' [120] vv=(gs,0) by rw[hgs];exact hg3.2.2);have HGS:=Lib.hid hgs
        have hvb:(-9223372036854775808:Int)≤vv∧(vv:Int)≤9223372036854775807:=by (have o1:=HV1.out;have o2:=HL1.out;have o3:=HZ0.out;omega)
        have HVB:=Lib.hid hvb;have HG3:=Lib.hid hg3.2.1;clear hg3 hgs hvb
        go_wp2_with fail
        have hget:=qHb g G' ⟨#[120]⟩ vv w5 (by decide) K5.out.la HVB.out;rw[show(⟨#[120]⟩:ByteArray).data.toList=[120] from rfl,HGG.out] at hget;refine hget.mono ?_;clear hget;rintro en w6 ⟨rg,rfl,b6,t6,-,-⟩;obtain⟨X6,hX6⟩:∃X,X=w6.alloc (.cells #[.slice rg.a rg.n rg.c,.slice rg.b rg.m rg.d] 33):=⟨_,rfl⟩
        have bX6:Below w6.heap.size w6 X6:=by rw[hX6];exact(Below.refl _ _).alloc (Nat.le_refl _) _
        have qX6:X6.heap[w6.heap.size]?=some (.cells #[.slice rg.a rg.n rg.c,.slice rg.b rg.m rg.d] 33 (0,0)):=by rw[hX6];exact qAf _ _
        have bb6:=b6.trans (bX6.mono b6.size)
        have K6:=Lib.hid (K5.out.to bb6);have WS6:=Lib.hid (WS5.out.to bb6);have N6:=Lib.hid (N5.out.to bb6);have Q6:=Lib.hid qX6;have R6:=Lib.hid (t6.lay.to bX6)
        clear b6 t6 bX6 qX6 bb6 K5 WS5 N5 hmx
        go_upto_region 13 with fail
        rw[←hX6]
        generalize w6.heap.size=bg at Q6 ⊢
        clear hX6
        have hne1:((ln:Int) != ln)=false:=by simp
        have hne2:((lm:Int) != lm)=false:=by simp
        have hz:((0:Int) != 0)=false:=rfl
        go_wp2_with fail
        have hla:=qBq g G' ⟨#[120]⟩ X6 (by decide) K6.out.la;rw[show(⟨#[120]⟩:ByteArray).data.toList=[120] from rfl,←HL'.out,HLM.out] at hla;refine hla.mono ?_;clear hla;rintro en w7 ⟨rfl,hw7⟩;rw[hw7];clear hw7
        go_wp2_with fail
        have hch:=qH5 X6 A5 lm c5 rs' L' (by have:=HB20.out.2;(have o1:=HV1.out;have o2:=HL1.out;have o3:=HZ0.out;omega)) HRL'.out.symm N6.out ALL.out (HE.out.below K6.out.bel);rw[CHN.out] at hch;refine hch.mono ?_;clear hch;rintro en w8 ⟨rfl,b8⟩
        have K7:=Lib.hid (K6.out.to b8);have WS7:=Lib.hid (WS6.out.to b8);have Q7:=Lib.hid (qAa Q6.out b8);have R7:=Lib.hid (R6.out.to b8)
        clear b8 K6 WS6 Q6 R6 N6;have z0:=cell_of_block (i:=0) (v:=.slice r.a r.n r.c) WS7.out.sb rfl;have z1:=cell_of_block (i:=1) (v:=.slice r.b r.m r.d) WS7.out.sb rfl
        go_wp2_with fail
        have hsl:=WS7.out.sl2;have hcc:=qEv w8 r.a r.b r.n r.c r.m r.d s.1 s.2 SZ.out hsl.nn hsl.mm hsl.n hsl.m hsl.la hsl.lb (HE.out.below K7.out.bel);rw[CK.out] at hcc;refine hcc.mono ?_;clear hcc hsl;rintro en w9 ⟨rfl,b9⟩
        have K9:=Lib.hid (K7.out.to b9);have WS9:=Lib.hid (WS7.out.to b9);have Q9:=Lib.hid (qAa Q7.out b9);have R9:=Lib.hid (R7.out.to b9)
        clear b9 K7 WS7 Q7 R7 z0 z1;have z0:=cell_of_block (i:=0) (v:=.slice r.a r.n r.c) WS9.out.sb rfl;have z1:=cell_of_block (i:=1) (v:=.slice r.b r.m r.d) WS9.out.sb rfl;have q0:=cell_of_block (i:=0) (v:=.slice rg.a rg.n rg.c) Q9.out rfl;have q1:=cell_of_block (i:=1) (v:=.slice rg.b rg.m rg.d) Q9.out rfl;have tv1:decide ((vv:Int)<ln)=false:=decide_eq_false (by (have o1:=HV1.out;have o2:=HL1.out;have o3:=HZ0.out;omega));have tv1b:decide (vv<ln)=false:=decide_eq_false (by (have o1:=HV1.out;have o2:=HL1.out;have o3:=HZ0.out;omega))
        have hw1:IntKind.i64.wrap ((ln:Int)+1)=(ln:Int)+1:=IntWalk.i64_in _ (by have:=HB20.out.1;(have o1:=HV1.out;have o2:=HL1.out;have o3:=HZ0.out;omega));have tv2:decide ((ln:Int)+1<vv)=false:=decide_eq_false (by (have o1:=HV1.out;have o2:=HL1.out;have o3:=HZ0.out;omega));have tv2b:decide (ln+1<vv)=false:=decide_eq_false (by (have o1:=HV1.out;have o2:=HL1.out;have o3:=HZ0.out;omega))
        have tv3:((vv:Int) != lm)=false:=by simp;have:=HG3.out;(have o1:=HV1.out;have o2:=HL1.out;have o3:=HZ0.out;omega)
        go_wp2_with fail
        have hsm:=qWc rg r gs s true ⟨fun _=>HGS.out,fun _=>rfl⟩ w9 R9.out WS9.out.sl2;refine hsm.mono ?_;clear hsm;rintro en w10 ⟨rfl,b10⟩
        have K8:=Lib.hid (K9.out.to b10);have WS8:=Lib.hid (WS9.out.to b10)
        clear b10 K9 WS9 Q9 R9 z0 z1 q0 q1;obtain⟨m,hm⟩:∃m,ln=m+1:=⟨ln-1,by (have o1:=HV1.out;have o2:=HL1.out;have o3:=HZ0.out;omega)⟩;obtain⟨sl,hsl⟩:∃t,L[m]?=some t:=⟨_,List.getElem?_eq_getElem (by rw[HLN.out];(have o1:=HV1.out;have o2:=HL1.out;have o3:=HZ0.out;omega))⟩;obtain⟨rl,hrl⟩:∃t,rs[m]?=some t:=⟨_,List.getElem?_eq_getElem (by rw[HRL.out];(have o1:=HV1.out;have o2:=HL1.out;have o3:=HZ0.out;omega))⟩
        have hlast:L.getLast?=some sl:=by rw[List.getLast?_eq_getElem?,HLN.out,hm];exact hsl
        obtain⟨A9,c9,e9,-,-,hsc9⟩:=WS8.out.scs
        cases e9
        obtain⟨gw,ow,ea,tl⟩:=hsc9.at_ hrl;have RLS:=Lib.hid (WS8.out.ty m rl sl hrl hsl).lay;have TL:=Lib.hid tl;subst ea
        have hwm:IntKind.i64.wrap ((ln:Int)-1)=(m:Int):=by rw[show(ln:Int)-1=m by (have o1:=HV1.out;have o2:=HL1.out;have o3:=HZ0.out;omega)];exact IntWalk.i64_in _ (by have:=HB20.out.1;(have o1:=HV1.out;have o2:=HL1.out;have o3:=HZ0.out;omega))
        have tm1:(m:Int)<ln:=by (have o1:=HV1.out;have o2:=HL1.out;have o3:=HZ0.out;omega)
        have hm2:m<ln:=by (have o1:=HV1.out;have o2:=HL1.out;have o3:=HZ0.out;omega)
        have tl0:decide ((0:Int)<ln)=true:=decide_eq_true (by (have o1:=HV1.out;have o2:=HL1.out;have o3:=HZ0.out;omega));have tl0b:decide (0<ln)=true:=decide_eq_true (by (have o1:=HV1.out;have o2:=HL1.out;have o3:=HZ0.out;omega));have HSM:=Lib.hid (show ¬sl=s from fun e=>HW1.out (by rw[hlast,e]));clear hsl hrl hlast hsc9 tl hm
        go_upto_region 17 with fail
        refine qAk [isV (.int .i64 (ln:Nat)),isV (.bool true),isV (.bool true),isV (.slice (some ⟨gw,ow,none⟩) ln c3),isV (.int .i64 (ln:Nat)),isV (.int .i64 (m:Nat)),isV (.pointer (some ⟨gw,ow+m*2,none⟩)),isV (.agg #[.slice rl.a rl.n rl.c,.slice rl.b rl.m rl.d]),isV (.agg #[.slice r.a r.n r.c,.slice r.b r.m r.d]),isV (.bool false),isV (.bool false),isV (.bool false)] (by kernel_rfl) (by kernel_rfl) ?_ ?_
        ·
          refine rb ?_;refine rf (fun ev wo E=>?_) ?_
          · have e117:ev (.tmp 117)=.int .i64 (ln:Nat):=E.e 0;have ec:=E.const;have h0:=tl0;have h1:=tl0b;go_simp;exact rv
          refine rc 0 ?_;refine rbq 0 ?_;refine rbq 0 ?_;refine rq 1 (fun ev wo E=>?_) ?_
          · have e121:ev (.tmp 121)=.int .i64 (ln:Nat):=E.e 0;have ec:=E.const;have h0:=hwm;go_simp;exact rv
          refine rq 2 (fun ev wo E=>?_) ?_
          · have e120:ev (.tmp 120)=.slice (some ⟨gw,ow,none⟩) ln c3:=E.e 0;have e122:ev (.tmp 122)=.int .i64 (m:Nat):=E.e 1;have h1:=tm1;have h2:=hm2;go_simp;exact rv
          refine rq 1 (fun ev wo E=>?_) ?_
          · have e123:ev (.tmp 123)=.pointer (some ⟨gw,ow+m*2,none⟩):=E.e 0;have hx0:=(E.bel.cell TL.out.lt).trans TL.out.c0;have hx1:=(E.bel.cell TL.out.lt).trans TL.out.c1;go_simp;exact rv
          refine rq 0 (fun ev wo E=>?_) ?_
          · have e6:ev (.tmp 6)=.pointer (some ⟨bs,0,none⟩):=(E.base 6 rfl).trans rfl;have hx0:=cell_of_block (i:=0) (qAa WS8.out.sb E.bel) rfl;have hx1:=cell_of_block (i:=1) (qAa WS8.out.sb E.bel) rfl;go_simp;exact rv
          refine rq 2 (fun ev wo E=>?_) ?_
          · have e124:ev (.tmp 124)=.agg #[.slice rl.a rl.n rl.c,.slice rl.b rl.m rl.d]:=E.e 0;have e125:ev (.tmp 125)=.agg #[.slice r.a r.n r.c,.slice r.b r.m r.d]:=E.e 1;have ef:=E.func;have hsm:=qWc rl r sl s false ⟨fun e=>(by cases e),fun e=>absurd e HSM.out⟩ wo (RLS.out.to E.bel) (WS8.out.to E.bel).sl2;go_simp;refine qAe (hsm.mono ?_);rintro e w' ⟨rfl,hb⟩;exact⟨_,rfl,hb,rfl⟩
          refine rf (fun ev wo E=>?_) ?_
          · have e119:ev (.tmp 119)=.bool true:=E.e 0;have e126:ev (.tmp 126)=.bool false:=E.e 1;have ec:=E.const;go_simp;exact rv
          refine⟨qAy 0 (qA0.free rfl) (.inr rfl) rfl rfl rfl rfl (qAm _),?_⟩;trivial
        · intro wz bz
          (iterate 12 rintro _ rfl)
          have K:=Lib.hid (K8.out.to bz);have WS:=Lib.hid (WS8.out.to bz)
          clear bz K8 WS8 TL RLS HSM hwm tm1 hm2;simp only[qA1];go_simp
          have tv9:((vv:Int)==ln)=false:=by simp;(have o1:=HV1.out;have o2:=HL1.out;have o3:=HZ0.out;omega)
          have tk9:((k:Int)==0)=false:=by simp;intro h;have:=KN.out.1 h;(have o1:=HV1.out;have o2:=HL1.out;have o3:=HZ0.out;omega)
          have z0:=cell_of_block (i:=0) (v:=.slice r.a r.n r.c) WS.out.sb rfl;have z1:=cell_of_block (i:=1) (v:=.slice r.b r.m r.d) WS.out.sb rfl;have bn:=(Below.refl wz.heap.size wz).alloc (Nat.le_refl _) (.cells #[.slice r.a r.n r.c,.slice r.b r.m r.d] 33)
          have WN:=Lib.hid (WS.out.to bn);have HNW:=Lib.hid (qDr wz r.vs 33);have HONE:=Lib.hid (fun u hu=>qI9 [r] u (by simpa[scsV] using hu):∀u∈r.vs,u.oneCell'=true);have BN:=Lib.hid bn
          have hon:=WN.out.own;rw[HRL.out] at hon
          have HON:=Lib.hid hon;have KNW:=Lib.hid (K.out.to bn)
          clear bn hon
          go_wp2_with (at_builtin;refine qXo rfl (.tmp 150) (.tmp 152) _ rfl X.heap.size 33 sc _ 2 48 qFu si sz0 sz1 sz2 rfl (by (have o1:=HV1.out;have o2:=HL1.out;have o3:=HZ0.out;omega)) (.slice (some ⟨gw,ow,none⟩) ln c3) ln (scsV rs) rfl HON.out _ (some ⟨wz.heap.size,0,none⟩) 1 1 r.vs rfl rfl HNW.out HONE.out (by have:=HB20.out.1;unfold maxLen;(have o1:=HV1.out;have o2:=HL1.out;have o3:=HZ0.out;omega)) (by have:=HB20.out.1;(have o1:=HV1.out;have o2:=HL1.out;have o3:=HZ0.out;omega)) WN.out.hB ?_;intro v8 w11 hown8 hg8;have OW8:=Lib.hid hown8;have HG8:=Lib.hid hg8;clear hown8 hg8;obtain⟨A8,c8,hv8,-,-⟩:=qAh OW8.out;subst hv8)
          have hpu:=WN.out.push (Below.refl _ _) n1 n2 (by have h:=OW8.out;rw[←HRL.out] at h;exact h) (by rw[HRL.out];exact HG8.out);have kg:=KNW.out.grow HON.out HG8.out (by (have o1:=HV1.out;have o2:=HL1.out;have o3:=HZ0.out;omega)) HOB.out HWX.out;have KG:=Lib.hid kg;clear kg;have hcx:=qH5 w11 A8 (ln+1) c8 (rs++[r]) (L++[s]) (by have:=HB20.out.1;(have o1:=HV1.out;have o2:=HL1.out;have o3:=HZ0.out;omega)) (by rw[List.length_append,HRL.out];rfl) hpu ALL0.out (HE.out.below KG.out.bel)
          refine(by rw[KV.out] at hcx;exact hcx:Calls _ _ _ _ _).mono ?_;rintro en w12 ⟨rfl,b12⟩;have KZ:=Lib.hid ((KG.out.to b12).weak);clear b12 hcx hpu
          go_wp2_with fail
          exact⟨⟨k+1,lm,G',by omega,by omega,by go_num,rfl,by rw[←HL'.out];exact HLM.out,KZ.out,OK2.out⟩,by simp[RowKit.intOf];omega⟩
       |not h1 h2 h3 h4 h5 h6=>
        subst h5;have HW1:=Lib.hid h1
        have hv1:vv=0:=by omega
        have hl1:lm=ln:=by rw[←HLM.out,h6,HLN.out]
        have HLL:=Lib.hid hl1;obtain⟨kv,hkv⟩:∃kv,qAu (L++[s])=kv:=⟨_,rfl⟩;have KV:=Lib.hid hkv
        have hkn:(kv==0)=false:=by rw[beq_eq_false_iff_ne,←hkv];exact h2
        have HV1:=Lib.hid hv1;have HL1:=Lib.hid hl1;have HZ0:=Lib.hid hln0
        clear h1 h2 h3 h4 h6 hkv HWAY hv1 hl1 hln0
        have hmx:max (vv:Int) 1=1:=by (have o1:=HV1.out;have o2:=HL1.out;have o3:=HZ0.out;omega)
        obtain⟨gs,gf,hgg⟩:∃gs gf,qHj G' [120] 1=(gs,gf):=⟨_,_,rfl⟩;have HGG:=Lib.hid hgg;clear hgg
        go_wp2_with fail
        have hget:=qHb g G' ⟨#[120]⟩ 1 w5 (by decide) K5.out.la (by decide);rw[show(⟨#[120]⟩:ByteArray).data.toList=[120] from rfl,HGG.out] at hget;refine hget.mono ?_;clear hget;rintro en w6 ⟨rg,rfl,b6,t6,-,-⟩;obtain⟨X6,hX6⟩:∃X,X=w6.alloc (.cells #[.slice rg.a rg.n rg.c,.slice rg.b rg.m rg.d] 33):=⟨_,rfl⟩
        have bX6:Below w6.heap.size w6 X6:=by rw[hX6];exact(Below.refl _ _).alloc (Nat.le_refl _) _
        have qX6:X6.heap[w6.heap.size]?=some (.cells #[.slice rg.a rg.n rg.c,.slice rg.b rg.m rg.d] 33 (0,0)):=by rw[hX6];exact qAf _ _
        have bb6:=b6.trans (bX6.mono b6.size)
        have K6:=Lib.hid (K5.out.to bb6);have WS6:=Lib.hid (WS5.out.to bb6);have N6:=Lib.hid (N5.out.to bb6);have Q6:=Lib.hid qX6;have R6:=Lib.hid (t6.lay.to bX6)
        clear b6 t6 bX6 qX6 bb6 K5 WS5 N5 hmx
        go_upto_region 13 with fail
        rw[←hX6]
        generalize w6.heap.size=bg at Q6 ⊢
        clear hX6
        have hne1:((ln:Int) != ln)=false:=by simp
        have hne2:((lm:Int) != lm)=false:=by simp
        have hz:((0:Int) != 0)=false:=rfl
        go_wp2_with fail
        have hla:=qBq g G' ⟨#[120]⟩ X6 (by decide) K6.out.la;rw[show(⟨#[120]⟩:ByteArray).data.toList=[120] from rfl,←HL'.out,HLM.out] at hla;refine hla.mono ?_;clear hla;rintro en w7 ⟨rfl,hw7⟩;rw[hw7];clear hw7
        go_wp2_with fail
        have hch:=qH5 X6 A5 lm c5 rs' L' (by have:=HB20.out.2;(have o1:=HV1.out;have o2:=HL1.out;have o3:=HZ0.out;omega)) HRL'.out.symm N6.out ALL.out (HE.out.below K6.out.bel);rw[CHN.out] at hch;refine hch.mono ?_;clear hch;rintro en w8 ⟨rfl,b8⟩
        have K7:=Lib.hid (K6.out.to b8);have WS7:=Lib.hid (WS6.out.to b8);have Q7:=Lib.hid (qAa Q6.out b8);have R7:=Lib.hid (R6.out.to b8)
        clear b8 K6 WS6 Q6 R6 N6;have z0:=cell_of_block (i:=0) (v:=.slice r.a r.n r.c) WS7.out.sb rfl;have z1:=cell_of_block (i:=1) (v:=.slice r.b r.m r.d) WS7.out.sb rfl
        go_wp2_with fail
        have hsl:=WS7.out.sl2;have hcc:=qEv w8 r.a r.b r.n r.c r.m r.d s.1 s.2 SZ.out hsl.nn hsl.mm hsl.n hsl.m hsl.la hsl.lb (HE.out.below K7.out.bel);rw[CK.out] at hcc;refine hcc.mono ?_;clear hcc hsl;rintro en w9 ⟨rfl,b9⟩
        have K8:=Lib.hid (K7.out.to b9);have WS8:=Lib.hid (WS7.out.to b9)
        clear b9 K7 WS7 Q7 R7 z0 z1;obtain⟨w10,hw10⟩:∃w10,w10=w9:=⟨_,rfl⟩;rw[←hw10] at K8 WS8 ⊢;clear hw10
        have tv1:((vv:Int) != 0)=false:=by simp;(have o1:=HV1.out;have o2:=HL1.out;have o3:=HZ0.out;omega)
        have tv3:((lm:Int) != ln)=false:=by simp;have:=HLL.out;(have o1:=HV1.out;have o2:=HL1.out;have o3:=HZ0.out;omega)
        obtain⟨m,hm⟩:∃m,ln=m+1:=⟨ln-1,by (have o1:=HV1.out;have o2:=HL1.out;have o3:=HZ0.out;omega)⟩;obtain⟨sl,hsl⟩:∃t,L[m]?=some t:=⟨_,List.getElem?_eq_getElem (by rw[HLN.out];(have o1:=HV1.out;have o2:=HL1.out;have o3:=HZ0.out;omega))⟩;obtain⟨rl,hrl⟩:∃t,rs[m]?=some t:=⟨_,List.getElem?_eq_getElem (by rw[HRL.out];(have o1:=HV1.out;have o2:=HL1.out;have o3:=HZ0.out;omega))⟩
        have hlast:L.getLast?=some sl:=by rw[List.getLast?_eq_getElem?,HLN.out,hm];exact hsl
        obtain⟨A9,c9,e9,-,-,hsc9⟩:=WS8.out.scs
        cases e9
        obtain⟨gw,ow,ea,tl⟩:=hsc9.at_ hrl;have RLS:=Lib.hid (WS8.out.ty m rl sl hrl hsl).lay;have TL:=Lib.hid tl;subst ea
        have hwm:IntKind.i64.wrap ((ln:Int)-1)=(m:Int):=by rw[show(ln:Int)-1=m by (have o1:=HV1.out;have o2:=HL1.out;have o3:=HZ0.out;omega)];exact IntWalk.i64_in _ (by have:=HB20.out.1;(have o1:=HV1.out;have o2:=HL1.out;have o3:=HZ0.out;omega))
        have tm1:(m:Int)<ln:=by (have o1:=HV1.out;have o2:=HL1.out;have o3:=HZ0.out;omega)
        have hm2:m<ln:=by (have o1:=HV1.out;have o2:=HL1.out;have o3:=HZ0.out;omega)
        have tl0:decide ((0:Int)<ln)=true:=decide_eq_true (by (have o1:=HV1.out;have o2:=HL1.out;have o3:=HZ0.out;omega));have tl0b:decide (0<ln)=true:=decide_eq_true (by (have o1:=HV1.out;have o2:=HL1.out;have o3:=HZ0.out;omega));have HSM:=Lib.hid (show ¬sl=s from fun e=>HW1.out (by rw[hlast,e]));clear hsl hrl hlast hsc9 tl hm
        go_upto_region 17 with fail
        refine qAk [isV (.int .i64 (ln:Nat)),isV (.bool true),isV (.bool true),isV (.slice (some ⟨gw,ow,none⟩) ln c3),isV (.int .i64 (ln:Nat)),isV (.int .i64 (m:Nat)),isV (.pointer (some ⟨gw,ow+m*2,none⟩)),isV (.agg #[.slice rl.a rl.n rl.c,.slice rl.b rl.m rl.d]),isV (.agg #[.slice r.a r.n r.c,.slice r.b r.m r.d]),isV (.bool false),isV (.bool false),isV (.bool false)] (by kernel_rfl) (by kernel_rfl) ?_ ?_
        ·
          refine rb ?_;refine rf (fun ev wo E=>?_) ?_
          · have e117:ev (.tmp 117)=.int .i64 (ln:Nat):=E.e 0;have ec:=E.const;have h0:=tl0;have h1:=tl0b;go_simp;exact rv
          refine rc 0 ?_;refine rbq 0 ?_;refine rbq 0 ?_;refine rq 1 (fun ev wo E=>?_) ?_
          · have e121:ev (.tmp 121)=.int .i64 (ln:Nat):=E.e 0;have ec:=E.const;have h0:=hwm;go_simp;exact rv
          refine rq 2 (fun ev wo E=>?_) ?_
          · have e120:ev (.tmp 120)=.slice (some ⟨gw,ow,none⟩) ln c3:=E.e 0;have e122:ev (.tmp 122)=.int .i64 (m:Nat):=E.e 1;have h1:=tm1;have h2:=hm2;go_simp;exact rv
          refine rq 1 (fun ev wo E=>?_) ?_
          · have e123:ev (.tmp 123)=.pointer (some ⟨gw,ow+m*2,none⟩):=E.e 0;have hx0:=(E.bel.cell TL.out.lt).trans TL.out.c0;have hx1:=(E.bel.cell TL.out.lt).trans TL.out.c1;go_simp;exact rv
          refine rq 0 (fun ev wo E=>?_) ?_
          · have e6:ev (.tmp 6)=.pointer (some ⟨bs,0,none⟩):=(E.base 6 rfl).trans rfl;have hx0:=cell_of_block (i:=0) (qAa WS8.out.sb E.bel) rfl;have hx1:=cell_of_block (i:=1) (qAa WS8.out.sb E.bel) rfl;go_simp;exact rv
          refine rq 2 (fun ev wo E=>?_) ?_
          · have e124:ev (.tmp 124)=.agg #[.slice rl.a rl.n rl.c,.slice rl.b rl.m rl.d]:=E.e 0;have e125:ev (.tmp 125)=.agg #[.slice r.a r.n r.c,.slice r.b r.m r.d]:=E.e 1;have ef:=E.func;have hsm:=qWc rl r sl s false ⟨fun e=>(by cases e),fun e=>absurd e HSM.out⟩ wo (RLS.out.to E.bel) (WS8.out.to E.bel).sl2;go_simp;refine qAe (hsm.mono ?_);rintro e w' ⟨rfl,hb⟩;exact⟨_,rfl,hb,rfl⟩
          refine rf (fun ev wo E=>?_) ?_
          · have e119:ev (.tmp 119)=.bool true:=E.e 0;have e126:ev (.tmp 126)=.bool false:=E.e 1;have ec:=E.const;go_simp;exact rv
          refine⟨qAy 0 (qA0.free rfl) (.inr rfl) rfl rfl rfl rfl (qAm _),?_⟩;trivial
        · intro wz bz
          (iterate 12 rintro _ rfl)
          have K:=Lib.hid (K8.out.to bz);have WS:=Lib.hid (WS8.out.to bz)
          clear bz K8 WS8 TL RLS HSM hwm tm1 hm2;simp only[qA1];go_simp
          have tv9:((vv:Int)==ln)=false:=by simp;(have o1:=HV1.out;have o2:=HL1.out;have o3:=HZ0.out;omega)
          have tk9:((k:Int)==0)=false:=by simp;intro h;have:=KN.out.1 h;(have o1:=HV1.out;have o2:=HL1.out;have o3:=HZ0.out;omega)
          have z0:=cell_of_block (i:=0) (v:=.slice r.a r.n r.c) WS.out.sb rfl;have z1:=cell_of_block (i:=1) (v:=.slice r.b r.m r.d) WS.out.sb rfl;have bn:=(Below.refl wz.heap.size wz).alloc (Nat.le_refl _) (.cells #[.slice r.a r.n r.c,.slice r.b r.m r.d] 33)
          have WN:=Lib.hid (WS.out.to bn);have HNW:=Lib.hid (qDr wz r.vs 33);have HONE:=Lib.hid (fun u hu=>qI9 [r] u (by simpa[scsV] using hu):∀u∈r.vs,u.oneCell'=true);have BN:=Lib.hid bn
          have hon:=WN.out.own;rw[HRL.out] at hon
          have HON:=Lib.hid hon;have KNW:=Lib.hid (K.out.to bn)
          clear bn hon
          go_wp2_with (at_builtin;refine qXo rfl (.tmp 150) (.tmp 152) _ rfl X.heap.size 33 sc _ 2 48 qFu si sz0 sz1 sz2 rfl (by (have o1:=HV1.out;have o2:=HL1.out;have o3:=HZ0.out;omega)) (.slice (some ⟨gw,ow,none⟩) ln c3) ln (scsV rs) rfl HON.out _ (some ⟨wz.heap.size,0,none⟩) 1 1 r.vs rfl rfl HNW.out HONE.out (by have:=HB20.out.1;unfold maxLen;(have o1:=HV1.out;have o2:=HL1.out;have o3:=HZ0.out;omega)) (by have:=HB20.out.1;(have o1:=HV1.out;have o2:=HL1.out;have o3:=HZ0.out;omega)) WN.out.hB ?_;intro v8 w11 hown8 hg8;have OW8:=Lib.hid hown8;have HG8:=Lib.hid hg8;clear hown8 hg8;obtain⟨A8,c8,hv8,-,-⟩:=qAh OW8.out;subst hv8)
          have hpu:=WN.out.push (Below.refl _ _) n1 n2 (by have h:=OW8.out;rw[←HRL.out] at h;exact h) (by rw[HRL.out];exact HG8.out);have kg:=KNW.out.grow HON.out HG8.out (by (have o1:=HV1.out;have o2:=HL1.out;have o3:=HZ0.out;omega)) HOB.out HWX.out;have KG:=Lib.hid kg;clear kg;have hcx:=qH5 w11 A8 (ln+1) c8 (rs++[r]) (L++[s]) (by have:=HB20.out.1;(have o1:=HV1.out;have o2:=HL1.out;have o3:=HZ0.out;omega)) (by rw[List.length_append,HRL.out];rfl) hpu ALL0.out (HE.out.below KG.out.bel)
          refine(by rw[KV.out] at hcx;exact hcx:Calls _ _ _ _ _).mono ?_;rintro en w12 ⟨rfl,b12⟩;have KZ:=Lib.hid ((KG.out.to b12).weak);clear b12 hcx hpu
          go_wp2_with fail
          exact⟨⟨k+1,lm,G',by omega,by omega,by go_num,rfl,by rw[←HL'.out];exact HLM.out,KZ.out,OK2.out⟩,by simp[RowKit.intOf];omega⟩
    · have tk2:¬((k:Int)<20):=by omega
      go_wp2_with fail
      have hla:=qBq g G ⟨#[120]⟩ wr (by decide) K.out.la;rw[show(⟨#[120]⟩:ByteArray).data.toList=[120] from rfl,HLN0.out] at hla;refine hla.mono ?_;rintro en w8 ⟨rfl,hw8⟩;rw[hw8];clear hw8 hla
      have hee:((ln:Int)==ln)=true:=by simp
      go_wp2_with fail
      go_ret
      exact⟨rfl,K.out.bel⟩
  · have tk:¬((k:Int)<n):=by omega
    go_wp2_with fail
    have hla:=qBq g G ⟨#[120]⟩ wr (by decide) K.out.la;rw[show(⟨#[120]⟩:ByteArray).data.toList=[120] from rfl,HLN0.out] at hla;refine hla.mono ?_;rintro en w8 ⟨rfl,hw8⟩;rw[hw8];clear hw8 hla
    have hee:((ln:Int)==ln)=true:=by simp
    go_wp2_with fail
    go_ret
    exact⟨rfl,K.out.bel⟩
end Go.Proofs.YtainiaighnjpfaaGreatDoor
