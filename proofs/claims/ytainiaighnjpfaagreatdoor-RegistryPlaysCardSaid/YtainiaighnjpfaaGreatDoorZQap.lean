/- Registries by definition: New, Last, Move, Chain, Subjects. Registries by definition: Chain, Get. Registries by definition, plainly: one more version; one more subject. Registry's laws: a schema of one's own, spoilt; what lies elsewhere stands. -/
import Derived.Test.YtainiaighnjpfaaGreatDoorZQao
set_option maxHeartbeats 2000000
set_option maxRecDepth 100000
set_option linter.unusedVariables false
set_option linter.unusedSimpArgs false
namespace Go.Ms
open Go.RowKit Go.Lib Go.Maps
structure zBs (m g o gl cc ps:Nat) (A:Option Addr) (n c:Nat) (rs:List SRef) (L:List Sc) (w:World):Prop where
  at_:∀W,Below w.heap.size w W→W.cell? ⟨m,1,none⟩=some (.slice (some ⟨g,o,none⟩) gl cc)∧W.cell? ⟨g,o+ps,none⟩=some (.slice A n c)∧qA0 W W.heap.size A rs L
  lt:ps<gl
  n:n=L.length
  few:L.length≤64
theorem qDn.hit {tR tN tC:TypeId} {Kp:Nat→Prop} {B m:Nat} {vn vc:Value} {H:List ChR} {G:Rg} {W:World} (h:qDn tR tN tC Kp B m vn vc H G W) {x:Bs} (hb:qDd G x=true) :
    ∃g o cc A n c rs,vc=.slice (some ⟨g,o,none⟩) G.length cc∧H[qCq G x]?=some (A,n,c)∧zBs m g o G.length cc (qCq G x) A n c rs (rgAt G x) W∧qDt Kp A rs:=by
 obtain⟨l,h1,h2,h3⟩:=qGx x h.ok.up hb;have hlt:=(List.getElem?_eq_some_iff.1 h2).1;obtain⟨⟨A,n,c⟩,hq⟩:∃q,H[qCq G x]?=some q:=⟨_,List.getElem?_eq_getElem (by rw[h.len];exact hlt)⟩;obtain⟨e,rs,h4,h5⟩:=h.each _ _ _ hq h2;have hc:=h.co;obtain⟨C,cc,rfl,-,-⟩:=qAf hc;obtain⟨g,o,eC,hgb,y2⟩:=Lay.of_own hc le_ _ _ (qZr hq);subst eC;rw[h3];refine⟨g,o,cc,A,n,c,rs,rfl,hq,⟨fun W' hb'=>⟨cb_ 1 (bk_ h.box hb') rfl,(hb'.cell hgb).trans y2,h4.to hb'⟩,hlt,e,?_⟩,h5⟩;exact h.ok.few _ (List.mem_of_getElem? h2)
end Go.Ms
namespace Go.Proofs.YtainiaighnjpfaaGreatDoor
open Go.RowKit Go.Ms Go.Lib Go.Maps Go.WideMaps Go.Rel
theorem qSl (Kp:Nat→Prop) (w:World):Calls Tryz.prog 23 #[] w fun e w'=> ∃m,e=.returned (.pointer (some ⟨m,0,none⟩))∧RrL Kp w.heap.size m (.slice none 0 0) (.slice none 0 0) [] [] w'∧Below w.heap.size w w'∧m=w.heap.size:=by
 obtain⟨Y,hY⟩:∃Y,Y=w.alloc (.cells #[.slice none 0 0,.slice none 0 0] 112):=⟨_,rfl⟩;have bY:Below w.heap.size w Y:=by rw[hY];exact br_.alloc le_ _
 have qY:Y.heap[w.heap.size]?=some (.cells #[.slice none 0 0,.slice none 0 0] 112 (0,0)):=by rw[hY];exact qAd _ _
 have hl:RrL Kp w.heap.size w.heap.size (.slice none 0 0) (.slice none 0 0) [] [] Y:=⟨qY,World.ownsRow_nil _ _ _ _,World.ownsRow_nil _ _ _ _,rfl,fun i h p e=>by simp at e,qPk,Nat.le_refl _⟩;have HL:=hh_ hl;have BY:=hh_ bY;clear bY qY hl;go_enter Tryz.func23,Tryz.ntmps23;go_wp2_with fail
 rw[←hY];clear hY;go_ret;exact⟨_,rfl,HL.out,BY.out,rfl⟩
theorem qQs {Kp:Nat→Prop} (B m:Nat) (vn vc:Value) (H:List ChR) (G:Rg) (S:ByteArray) (w:World) (h:RrL Kp B m vn vc H G w) :
    Calls Tryz.prog 64 #[.pointer (some ⟨m,0,none⟩),.string S] w fun e w'=>e=.returned (.int .i64 (rgAt G S.data.toList).length)∧Below w.heap.size w w':=by
 have hp:=qC1 B m vn vc H G S w h;obtain⟨x,hx⟩:∃x,x=S.data.toList:=⟨_,rfl⟩;rw[←hx] at hp ⊢;obtain⟨b,hb⟩:∃b,qDd G x=b:=⟨_,rfl⟩;rw[hb] at hp;obtain⟨ln,hln⟩:∃ln,(rgAt G x).length=ln:=⟨_,rfl⟩;rw[hln]
 cases b with
 |false=>
  have hz:=(qIv x h.ok.up hb).2.1;have h0:ln=0:=by rw[←hln,hz];rfl
  subst h0;have HP:=hh_ hp;clear hp hx hln hz hb h;go_enter Tryz.func64,Tryz.ntmps64;go_wp2_with fail
  refine HP.out.mono ?_;rintro e w1 ⟨rfl,b1⟩;have B1:=hh_ b1;clear b1;go_wp2_with fail
  go_ret;exact⟨rfl,B1.out⟩
 |true=>
  obtain⟨g,o,cc,A,n,c,rs,rfl,-,hit,-⟩:=h.hit hb;obtain⟨gl,hgl⟩:∃gl,G.length=gl:=⟨_,rfl⟩;obtain⟨ps,hps⟩:∃ps,qCq G x=ps:=⟨_,rfl⟩;rw[hgl,hps] at hit;rw[hps] at hp;have hn2:n=ln:=hit.n.trans hln;subst hn2;have HP:=hh_ hp;have HIT:=hh_ hit;have hlt:=hit.lt;clear hp hx hln hb h hit hgl hps;go_enter Tryz.func64,Tryz.ntmps64;go_wp2_with fail
  refine HP.out.mono ?_;rintro e w1 ⟨rfl,b1⟩;obtain⟨y1,y2,-⟩:=HIT.out.at_ w1 b1;have tp:(ps:Int)<gl:=by omega
  have tp0:(0:Int)≤ps:=by omega
  have B1:=hh_ b1;clear b1;go_wp2_with fail
  go_ret;exact⟨rfl,B1.out⟩
theorem qQt {Kp:Nat→Prop} (B m:Nat) (vn vc:Value) (H:List ChR) (G:Rg) (S:ByteArray) (f t:Int) (C:Option Addr) (q qcap:Nat) (r:List Cl) (w:World) (h:RrL Kp B m vn vc H G w) (hz:∀s∈rgAt G S.data.toList,ScR s.1)
    (hf: -9223372036854775808≤f∧f≤9223372036854775807) (ht: -9223372036854775808≤t∧t≤9223372036854775807) (hr:qIm w C q r) (hok:CsOk r) :
    Calls Tryz.prog 31 #[.pointer (some ⟨m,0,none⟩),.string S,.int .i64 f,.int .i64 t,.slice C q qcap] w
      (qJq w (if (qAp G S.data.toList).isSome=true then (qBz (rgAt G S.data.toList) f t r).1 else []) (if (qAp G S.data.toList).isSome=true then (qBz (rgAt G S.data.toList) f t r).2 else 130)):=by
 have hp:=qC1 B m vn vc H G S w h;obtain⟨x,hx⟩:∃x,x=S.data.toList:=⟨_,rfl⟩;rw[←hx] at hp hz ⊢;change Calls _ _ _ _ (qJq w (if qDd G x=true then _ else _) (if qDd G x=true then _ else _));obtain⟨b,hb⟩:∃b,qDd G x=b:=⟨_,rfl⟩;rw[hb] at hp ⊢
 cases b with
 |false=>
  simp only[Bool.false_eq_true,if_false];have HP:=hh_ hp;clear hp hx hb h hz hf ht hr hok;go_enter Tryz.func31,Tryz.ntmps31;go_wp2_with fail
  refine HP.out.mono ?_;rintro e w1 ⟨rfl,b1⟩;have B1:=hh_ b1;clear b1;go_wp2_with fail
  go_ret2;exact⟨_,rfl,World.ownsRow_nil _ _ _ _,B1.out⟩
 |true=>
  simp only[if_true];obtain⟨g,o,cc,A,n,c,rs,rfl,-,hit,-⟩:=h.hit hb;obtain⟨gl,hgl⟩:∃gl,G.length=gl:=⟨_,rfl⟩;obtain⟨ps,hps⟩:∃ps,qCq G x=ps:=⟨_,rfl⟩;rw[hgl,hps] at hit;rw[hps] at hp;obtain⟨L,hL⟩:∃L,rgAt G x=L:=⟨_,rfl⟩;rw[hL] at hit hz ⊢;have hca:=fun (W:World) (hb:Below w.heap.size w W)=>qQ6 W A n c rs L f t C q qcap r (by rw[hit.n];have:=hit.few;omega) (by rw[hit.n];exact((hit.at_ W hb).2.2).len.symm) (hit.at_ W hb).2.2 hz hf ht (hr.to hb) hok
  have HP:=hh_ hp;have HIT:=hh_ hit;have HCA:=hh_ hca;have hlt:=hit.lt;clear hp hx hb h hit hgl hps hL hz hf ht hr hok hca;go_enter Tryz.func31,Tryz.ntmps31;go_wp2_with fail
  refine HP.out.mono ?_;rintro e w1 ⟨rfl,b1⟩;obtain⟨y1,y2,-⟩:=HIT.out.at_ w1 b1;have tp:(ps:Int)<gl:=by omega
  have tp0:(0:Int)≤ps:=by omega
  have B1:=hh_ b1;clear b1;go_wp2_with fail
  refine(HCA.out w1 B1.out).mono ?_;rintro e w2 ⟨v,rfl,ho,hb⟩;have HO:=hh_ (qAv ho B1.out.size);have HB:=hh_ (B1.out.trans (hb.mono B1.out.size));clear ho hb;go_wp2_with fail
  go_ret2;exact⟨v,rfl,HO.out,HB.out⟩
theorem qMp:(Tryz.prog.info? 9).map (fun i=>(i.zero,i.size,i.bytes))=some (some (.string ⟨#[]⟩),1,16):=by kernel_rfl
theorem qMo (w:World) (A:Option Addr) (n cap:Nat) (xs:List Bs) (hn':n≤100000) (hn:xs.length=n) (hA:Lay w w.heap.size A (xs.map encStr)) :
    Calls Tryz.prog 99 #[.slice A n cap] w fun e w'=> ∃v,e=.returned v∧w'.ownsRow w.heap.size 9 1 v n (xs.map encStr)∧Below w.heap.size w w':=by
 obtain⟨i0,hi,hz0,hz1,hz2⟩:=info_parts qMp;have HA:=hh_ hA;have HN:=hh_ hn
 have h1:∀u∈xs.map encStr,u.oneCell'=true:=fun u hu=>by
  obtain⟨y,_,rfl⟩:=List.mem_map.1 hu;rfl
 have H1:=hh_ h1;clear hA hn h1;go_enter Tryz.func99,Tryz.ntmps99;go_wp2_with (at_builtin;refine qAi rfl (.tmp 4) (.tmp 5) _ rfl w.heap.size 9 i0 _ 1 16 Tryz.underlying53 hi hz0 hz1 hz2 rfl (by omega) (.slice none 0 0) 0 [] rfl (World.ownsRow_nil _ _ _ _) _ A n cap (xs.map encStr) rfl (by rw[List.length_map,HN.out];omega) HA.out H1.out ml_ (by omega) le_ ?_;intro v1 w1 hown1 hg1;have O1:=hh_ hown1;have G1:=hh_ hg1;clear hown1 hg1)
 go_ret;refine⟨_,rfl,?_,qAh (World.ownsRow_nil w w.heap.size 9 1) br_ le_ le_ G1.out⟩;have h:=O1.out;rw[Nat.zero_add,List.nil_append] at h;exact h
theorem qKh {Kp:Nat→Prop} (B m:Nat) (vn vc:Value) (H:List ChR) (G:Rg) (w:World) (h:RrL Kp B m vn vc H G w) :
    Calls Tryz.prog 67 #[.pointer (some ⟨m,0,none⟩)] w fun e w'=> ∃v,e=.returned v∧w'.ownsRow w.heap.size 9 1 v G.length (nmsV G)∧Below w.heap.size w w':=by
 obtain⟨N,cn,C,cc,rfl,rfl,hN,hC⟩:=h.vals;have hle:=h.ok.len;have y0:=cb_ 0 (v:=.slice N G.length cn) h.box rfl;have hct:=qMo w N G.length cn (G.map Prod.fst) (by omega) (List.length_map ..) hN;have HCT:=hh_ hct;generalize G.length=gl at y0 HCT ⊢;clear h hN hC hct hle;go_enter Tryz.func67,Tryz.ntmps67;go_wp2_with fail
 refine HCT.out.mono ?_;rintro e w1 ⟨v,rfl,ho,hb⟩;have HO:=hh_ ho;have HB:=hh_ hb;clear ho hb;go_wp2_with fail
 go_ret;exact⟨v,rfl,HO.out,HB.out⟩
theorem qEg (r:SRef) (s:Sc) (w:World) (h:qBv w w.heap.size r s):Calls Tryz.prog 25 #[.agg #[.slice r.a r.n r.c,.slice r.b r.m r.d]] w fun e w'=>
    ∃r':SRef,e=.returned (.agg #[.slice r'.a r'.n r'.c,.slice r'.b r'.m r'.d])∧Below w.heap.size w w'∧ScT 45 3 w' r' s∧qBw w' w.heap.size 45 (.slice r'.a r'.n r'.c) s.1∧OwnI w' w.heap.size 3 (.slice r'.b r'.m r'.d) s.2:=by
 refine(qO0 w r.a r.b r.n r.c r.m r.d s.1 s.2 h.nn h.mm h.n h.m h.la h.lb).mono ?_;rintro e w' ⟨A',c',B',d',rfl,h1,h2,hb⟩;exact⟨⟨A',r.n,c',B',r.m,d'⟩,rfl,hb,qYw h1 h2 h.n h.m h.nn h.mm,h1,h2⟩
theorem qN7 {Kp:Nat→Prop} (B m:Nat) (vn vc:Value) (H:List ChR) (G:Rg) (S:ByteArray) (w:World) (h:RrL Kp B m vn vc H G w) :
    Calls Tryz.prog 66 #[.pointer (some ⟨m,0,none⟩),.string S] w (zBu w (rgAt G S.data.toList)):=by
 obtain⟨sc,si,sz0,sz1,sz2⟩:=info_parts qCz;have n1:(45:TypeId)≠33:=by decide
 have n2:(3:TypeId)≠33:=by decide
 have hp:=qC1 B m vn vc H G S w h;obtain⟨x,hx⟩:∃x,x=S.data.toList:=⟨_,rfl⟩;rw[←hx] at hp ⊢;obtain⟨b,hb⟩:∃b,qDd G x=b:=⟨_,rfl⟩;rw[hb] at hp
 cases b with
 | false=>
  have hz:=(qIv x h.ok.up hb).2.1;rw[hz];have HP:=hh_ hp;clear hp hx hz hb h;go_enter Tryz.func66,Tryz.ntmps66;go_wp2_with fail
  refine HP.out.mono ?_;rintro e w1 ⟨rfl,b1⟩;have B1:=hh_ b1;clear b1;go_wp2_with fail
  go_loopw [5] (fun s5 wr=>s5=.slice none 0 0∧Below w.heap.size w wr) (fun _ _=>0)
  case atStart=>exact⟨rfl,B1.out⟩
  case round=>
   obtain⟨rfl,b2⟩:=hrel;have B2:=hh_ b2;clear b2;go_wp2_with fail
   go_ret;exact⟨_,[],rfl,rfl,⟨World.ownsRow_nil _ _ _ _,fun i r s h=>by simp at h,Nat.zero_le _,B2.out⟩⟩
 | true=>
  obtain⟨g,o,cc,A,n,c,rs,rfl,-,hit,-⟩:=h.hit hb;obtain⟨gl,hgl⟩:∃gl,G.length=gl:=⟨_,rfl⟩;obtain⟨ps,hps⟩:∃ps,qCq G x=ps:=⟨_,rfl⟩;rw[hgl,hps] at hit;rw[hps] at hp;obtain⟨L,hL⟩:∃L,rgAt G x=L:=⟨_,rfl⟩;rw[hL] at hit ⊢;have hlen:n≤64:=by rw[hit.n];exact hit.few
  have HP:=hh_ hp;have HIT:=hh_ hit;have HN:=hh_ hit.n;have hlt:=hit.lt;have tp:(ps:Int)<gl:=by omega
  have tp0:(0:Int)≤ps:=by omega
  clear hp hx hb h hit hgl hps hL;go_enter Tryz.func66,Tryz.ntmps66;go_wp2_with fail
  refine HP.out.mono ?_;rintro e w1 ⟨rfl,b1⟩;have B1:=hh_ b1;clear b1;go_wp2_with fail
  go_loopw [5,8] (fun s5 s8 wr=> ∃(k:Nat) (qs:List SRef),k≤n∧s8=.int .i64 k∧qs.length=k∧CkSt 33 45 3 s5 qs L w wr) (fun _ s8 _=>n-(RowKit.intOf s8).toNat)
  case atStart=>exact⟨0,[],Nat.zero_le _,rfl,rfl,CkSt.nil.to B1.out⟩
  case round=>
   obtain⟨k,qs,hk,rfl,hq,hst⟩:=hrel;obtain⟨c0,c1,hsc⟩:=HIT.out.at_ wr hst.bel;by_cases hk2:k<n
   · have tk:(k:Int)<n:=by omega
     have tk0:(0:Int)≤k:=by omega
     obtain⟨s,hs⟩:∃s,L[k]?=some s:=⟨_,List.getElem?_eq_getElem (by rw[←HN.out];exact hk2)⟩;obtain⟨r,hr⟩:∃r,rs[k]?=some r:=⟨_,List.getElem?_eq_getElem (by rw[hsc.len,←HN.out];exact hk2)⟩;obtain⟨ga,oa,ea,ta⟩:=hsc.at_ hr;subst ea;have y0:=ta.c0;have y1:=ta.c1;have hone:=hsc.each k r s hr hs;have ST:=hh_ hst;have HS:=hh_ hs;have HO:=hh_ hone;have HQ:=hh_ hq;clear hst hs hone ta hr hq hsc;go_wp2_with fail
     refine(qEg r s wr HO.out).mono ?_;rintro e w2 ⟨r',rfl,hb,ht,-,-⟩;have bn:=(Below.refl w2.heap.size w2).alloc le_ (.cells #[.slice r'.a r'.n r'.c,.slice r'.b r'.m r'.d] 33);have S2:=hh_ ((ST.out.to hb).to bn);have T2:=hh_ (ht.to bn);have HNW:=hh_ (qBs w2 r'.vs 33);have HONE:=hh_ (fun u hu=>qD2 [r'] u (by simpa[scsV] using hu):∀u∈r'.vs,u.oneCell'=true);have hsz:=S2.out.bel.size;have HSZ:=hh_ hsz;have hql:=HQ.out;clear hb ht bn ST y0 y1 c0 c1 hsz;go_wp2_with (at_builtin;refine qAi rfl (.tmp 30) (.tmp 42) _ rfl w.heap.size 33 sc _ 2 48 qC8 si sz0 sz1 sz2 rfl (by omega) _ _ _ rfl S2.out.own _ (some ⟨w2.heap.size,0,none⟩) 1 1 r'.vs rfl rfl HNW.out HONE.out ml_ (by omega) HSZ.out ?_;intro v8 w8 hown8 hg8;have S8:=hh_ (S2.out.push n1 n2 (by rw[hql];exact HS.out) T2.out hown8 hg8);clear hown8 hg8)
     go_roundw
     case rel=>exact⟨k+1,_,by omega,by go_num,by rw[List.length_append,hql];rfl,S8.out⟩
     case measure=>simp[RowKit.intOf];omega
   · have tk:¬((k:Int)<n):=by omega
     obtain rfl:k=n:=by omega
     have ST:=hh_ hst;have HQ:=hh_ hq;clear hst hq hsc;go_wp2_with fail
     go_ret;exact⟨_,qs,rfl,HQ.out.trans HN.out,ST.out⟩
theorem qR6 {Kp:Nat→Prop} (B m:Nat) (vn vc:Value) (H:List ChR) (G:Rg) (S:ByteArray) (v:Int) (w:World) (h:RrL Kp B m vn vc H G w) (hv: -9223372036854775808≤v∧v≤9223372036854775807) :
    Calls Tryz.prog 29 #[.pointer (some ⟨m,0,none⟩),.string S,.int .i64 v] w (qWe w (qEc G S.data.toList v).1 (qEc G S.data.toList v).2):=by
 obtain⟨X,hX⟩:∃X,X=w.alloc (.cells #[.slice none 0 0,.slice none 0 0] 33):=⟨_,rfl⟩;have bX:Below w.heap.size w X:=by rw[hX];exact(Below.refl _ w).alloc le_ _
 have qX:X.heap[w.heap.size]?=some (.cells #[.slice none 0 0,.slice none 0 0] 33 (0,0)):=by rw[hX];exact qAd _ _
 have hX':=h.to bX;have hp:=qC1 B m vn vc H G S X hX';obtain⟨x,hx⟩:∃x,x=S.data.toList:=⟨_,rfl⟩;rw[←hx] at hp ⊢;have HQX:=hh_ qX;have BX:=hh_ bX
 have fin:∀W,Below X.heap.size X W→∀(E:Int),qWe w ([],[]) E (.returned (.tuple #[.agg #[.slice none 0 0,.slice none 0 0],.int .i64 E])) ((W.setCell ⟨w.heap.size,0,none⟩ (.slice none 0 0)).setCell ⟨w.heap.size,1,none⟩ (.slice none 0 0)):=fun W hb E=>
  qL6 _ _ _ (((BX.out.trans (hb.mono BX.out.size)).setCell (p:=⟨w.heap.size,0,none⟩) le_ _).setCell (p:=⟨w.heap.size,1,none⟩) le_ _)
 have FIN:=hh_ fin;clear bX qX fin;obtain⟨b,hb⟩:∃b,qDd G x=b:=⟨_,rfl⟩;rw[hb] at hp
 cases b with
 |false=>
  have hk:=(qIv x h.ok.up hb).1;have hg:qEc G x v=(([],[]),130):=by unfold qEc;rw[hk]
  rw[hg];have HP:=hh_ hp;clear hp hx hb h hX' hk hg;go_enter Tryz.func29,Tryz.ntmps29;go_wp2_with fail
  rw[←hX];clear hX;refine HP.out.mono ?_;rintro e w1 ⟨rfl,b1⟩;have q1:=bk_ HQX.out b1;have x0:=cb_ 0 (v:=.slice none 0 0) q1 rfl;have x1:=cb_ 1 (v:=.slice none 0 0) q1 rfl;have f0:=fz_ 0 q1;have f1:=fz_ 1 q1;have q3:=qGd q1 (.slice none 0 0) (.slice none 0 0);have z0:=cb_ 0 (v:=.slice none 0 0) q3 rfl;have z1:=cb_ 1 (v:=.slice none 0 0) q3 rfl;have B1:=hh_ b1;clear b1 q1 q3;go_wp2_with fail
  refine bodyPost_ret (v:=.tuple #[.agg #[.slice none 0 0,.slice none 0 0],.int .i64 130]) ?_ rfl ?_
  · simp[results,Tryz.results29,Tryz.f29,go_sem,z0,z1]
  exact FIN.out _ B1.out _
 |true=>
  obtain⟨g,o,cc,A,n,c,rs,rfl,-,hit,-⟩:=hX'.hit hb;obtain⟨l,hlk,-,hat⟩:=qGx x h.ok.up hb;obtain⟨gl,hgl⟩:∃gl,G.length=gl:=⟨_,rfl⟩;obtain⟨ps,hps⟩:∃ps,qCq G x=ps:=⟨_,rfl⟩;rw[hgl,hps] at hit;rw[hps] at hp;rw[hat] at hit;have hlen:n≤64:=by rw[hit.n];exact hit.few
  have hlt:=hit.lt;have tp:(ps:Int)<gl:=by omega
  have tp0:(0:Int)≤ps:=by omega
  have HP:=hh_ hp;have HIT:=hh_ hit;have HN:=hh_ hit.n;by_cases hr:v<1∨(n:Int)<v
  · have hg:qEc G x v=(([],[]),131):=by unfold qEc;rw[hlk];simp only;rw[if_pos (by rw[←HN.out];exact hr)]
    rw[hg];clear hp hx hb h hX' hg hit hlk hat hgl hps;go_enter Tryz.func29,Tryz.ntmps29;go_wp2_with fail
    rw[←hX];clear hX;refine HP.out.mono ?_;rintro e w1 ⟨rfl,b1⟩;obtain⟨c0,c1,-⟩:=HIT.out.at_ w1 b1;have q1:=bk_ HQX.out b1;have x0:=cb_ 0 (v:=.slice none 0 0) q1 rfl;have x1:=cb_ 1 (v:=.slice none 0 0) q1 rfl;have f0:=fz_ 0 q1;have f1:=fz_ 1 q1;have q3:=qGd q1 (.slice none 0 0) (.slice none 0 0);have z0:=cb_ 0 (v:=.slice none 0 0) q3 rfl;have z1:=cb_ 1 (v:=.slice none 0 0) q3 rfl;have B1:=hh_ b1;clear b1 q1 q3;by_cases h1:v<1
    · have d1:decide (v<1)=true:=decide_eq_true h1;clear hr;go_wp2_with fail
      refine bodyPost_ret (v:=.tuple #[.agg #[.slice none 0 0,.slice none 0 0],.int .i64 131]) ?_ rfl ?_
      · simp[results,Tryz.results29,Tryz.f29,go_sem,z0,z1]
      exact FIN.out _ B1.out _
    · have d1:decide (v<1)=false:=decide_eq_false h1;have d2:decide ((n:Int)<v)=true:=decide_eq_true (hr.resolve_left h1);clear hr h1;go_wp2_with fail
      refine bodyPost_ret (v:=.tuple #[.agg #[.slice none 0 0,.slice none 0 0],.int .i64 131]) ?_ rfl ?_
      · simp[results,Tryz.results29,Tryz.f29,go_sem,z0,z1]
      exact FIN.out _ B1.out _
  · obtain⟨k,rfl⟩:∃k:Nat,v=(k:Int)+1:=⟨(v-1).toNat,by omega⟩;have hkn:k<n:=by omega
    have hkl:k<l.length:=by rw[←HN.out];exact hkn
    obtain⟨s,hs⟩:∃s,l[k]?=some s:=⟨_,List.getElem?_eq_getElem hkl⟩
    have hg:qEc G x ((k:Int)+1)=(s,0):=by
     unfold qEc;rw[hlk];simp only;rw[if_neg (by rw[←HN.out];exact hr),show((k:Int)+1-1).toNat=k by omega,List.getD_eq_getElem?_getD,hs];rfl
    rw[hg];have HS:=hh_ hs;have HKL:=hh_ hkl;have d1:decide ((k:Int)+1<1)=false:=decide_eq_false (by omega);have d2:decide ((n:Int)<(k:Int)+1)=false:=decide_eq_false (by omega);have hw1:IntKind.i64.wrap ((k:Int)+1-1)=(k:Int):=by rw[show(k:Int)+1-1=k by omega];exact IntWalk.i64_in _ (by omega)
    have hw2:IntKind.i64.wrap (k:Int)=(k:Int):=IntWalk.i64_in _ (by omega);have h3:(k:Int)<n:=by omega
    have h30:(0:Int)≤k:=by omega
    clear hp hx hb h hX' hg hit hlk hat hgl hps hr hs hkl;go_enter Tryz.func29,Tryz.ntmps29;go_wp2_with fail
    rw[←hX];clear hX;refine HP.out.mono ?_;rintro e w1 ⟨rfl,b1⟩;obtain⟨c0,c1,hsc⟩:=HIT.out.at_ w1 b1;obtain⟨r,hr⟩:∃r,rs[k]?=some r:=⟨_,List.getElem?_eq_getElem (by rw[hsc.len];exact HKL.out)⟩;obtain⟨ga,oa,ea,ta⟩:=hsc.at_ hr;subst ea;have hone:=hsc.each k r s hr HS.out;have y0:=ta.c0;have y1:=ta.c1;have HO:=hh_ hone;have B1:=hh_ b1;clear hsc ta hone hr b1;go_wp2_with fail
    refine(qEg r s w1 HO.out).mono ?_;rintro e w2 ⟨r',rfl,hb,ht,o1,o2⟩;have q2:=bk_ HQX.out (B1.out.trans (hb.mono B1.out.size));have u0:=cb_ 0 (v:=.slice none 0 0) q2 rfl;have u1:=cb_ 1 (v:=.slice none 0 0) q2 rfl;have g0:=fz_ 0 q2;have g1:=fz_ 1 q2;have q4:=qGd q2 (.slice r'.a r'.n r'.c) (.slice r'.b r'.m r'.d);have y2:=cb_ 0 (v:=.slice r'.a r'.n r'.c) q4 rfl;have y3:=cb_ 1 (v:=.slice r'.b r'.m r'.d) q4 rfl;have bb:=BX.out.trans ((B1.out.trans (hb.mono B1.out.size)).mono BX.out.size);have b2:Below w.heap.size w ((w2.setCell ⟨w.heap.size,0,none⟩ (.slice r'.a r'.n r'.c)).setCell ⟨w.heap.size,1,none⟩ (.slice r'.b r'.m r'.d)):=(bb.setCell (p:=⟨w.heap.size,0,none⟩) le_ _).setCell (p:=⟨w.heap.size,1,none⟩) le_ _;have e1:=EffT.set q2 0 (.slice r'.a r'.n r'.c);have e2:=EffT.set (two_set0 q2 (.slice r'.a r'.n r'.c)) 1 (.slice r'.b r'.m r'.d);have n1:(45:TypeId)≠33:=by decide
    have n2:(3:TypeId)≠33:=by decide
    have ht2:=(ht.eff e1 n1 n2).eff e2 n1 n2;have hXz:w.heap.size<w1.heap.size:=Nat.lt_of_lt_of_le (Array.getElem?_eq_some_iff.1 HQX.out).1 B1.out.size;have o12:=qAv (own_set' (own_set' o1 (i:=0) hXz (.slice r'.a r'.n r'.c)) (i:=1) hXz (.slice r'.b r'.m r'.d)) (Nat.le_of_lt hXz);have o22:=qAv (own_set' (own_set' o2 (i:=0) hXz (.slice r'.a r'.n r'.c)) (i:=1) hXz (.slice r'.b r'.m r'.d)) (Nat.le_of_lt hXz);have B2:=hh_ b2;have HT:=hh_ ht2;have O1:=hh_ o12;have O2:=hh_ o22;clear hb ht o1 o2 q2 q4 b2 e1 e2 ht2 o12 o22 y0 y1 bb c0 c1;go_wp2_with fail
    refine bodyPost_ret (v:=.tuple #[.agg #[.slice r'.a r'.n r'.c,.slice r'.b r'.m r'.d],.int .i64 0]) ?_ rfl ?_
    · simp[results,Tryz.results29,Tryz.f29,go_sem,y2,y3]
    exact⟨r',rfl,B2.out,HT.out,O1.out,O2.out⟩
end Go.Proofs.YtainiaighnjpfaaGreatDoor
namespace Go.Ms
open Go.RowKit Go.Lib Go.Maps
theorem qVd {α β:Type} {Q:α→β→Prop} {H:List α} {G:List β} (h:∀(i:Nat) a b,H[i]?=some a→G[i]?=some b→Q a b) {k:Nat} {a':α} {b':β} (hq:Q a' b'):∀(i:Nat) a b,(H.set k a')[i]?=some a→(G.set k b')[i]?=some b→Q a b:=by
 intro i a b h1 h2;rw[List.getElem?_set] at h1 h2;by_cases e:k=i
 · rw[if_pos e] at h1 h2;split at h1
   · split at h2
     · cases h1;cases h2;exact hq
     · cases h2
   · cases h1
 · rw[if_neg e] at h1 h2;exact h i a b h1 h2
theorem qYa {α:Type} (l:List α) (k:Nat) (x:α) (hk:k≤l.length) (i:Nat):(l.take k++[x]++l.drop k)[i]?=if i<k then l[i]? else if i=k then some x else l[i-1]?:=by
 have hl:(l.take k).length=k:=by rw[List.length_take];omega
 by_cases h1:i<k
 · rw[if_pos h1,List.append_assoc,List.getElem?_append_left (by omega),List.getElem?_take_of_lt h1]
 · rw[if_neg h1,List.append_assoc,List.getElem?_append_right (by omega),hl];by_cases h2:i=k
   · rw[if_pos h2,h2,Nat.sub_self];rfl
   · rw[if_neg h2];obtain⟨d,hd⟩:∃d,i-k=d+1:=⟨i-k-1,by omega⟩;rw[hd];show(l.drop k)[d]?=_
     rw[List.getElem?_drop,show k+d=i-1 by omega]
theorem qWs {α β:Type} {Q:α→β→Prop} {H:List α} {G:List β} (h:∀(i:Nat) a b,H[i]?=some a→G[i]?=some b→Q a b) {k:Nat} (hk:k≤H.length) (hl:H.length=G.length) {a':α} {b':β} (hq:Q a' b') :
    ∀(i:Nat) a b,(H.take k++[a']++H.drop k)[i]?=some a→(G.take k++[b']++G.drop k)[i]?=some b→Q a b:=by
 intro i a b h1 h2;rw[qYa H k a' hk] at h1;rw[qYa G k b' (by omega)] at h2;by_cases e1:i<k
 · rw[if_pos e1] at h1 h2;exact h i a b h1 h2
 · rw[if_neg e1] at h1 h2;by_cases e2:i=k
   · rw[if_pos e2] at h1 h2;cases h1;cases h2;exact hq
   · rw[if_neg e2] at h1 h2;exact h (i-1) a b h1 h2
theorem qLt {α:Type} (l:List α) (k:Nat) (x:α) (hk:k≤l.length):(l.take k++[x]++l.drop k).length=l.length+1:=by
 rw[List.length_append,List.length_append,List.length_take,List.length_drop,List.length_singleton];omega
theorem qUy (H:List ChR) (k:Nat) (h:ChR):chsV (H.set k h)=(chsV H).set k (.slice h.1 h.2.1 h.2.2):=by unfold chsV;rw[List.map_set]
theorem qWq (H:List ChR) (k:Nat) (h:ChR):chsV (H.take k++[h]++H.drop k)=(chsV H).take k++[.slice h.1 h.2.1 h.2.2]++(chsV H).drop k:=by unfold chsV;simp
theorem qWd (G:Rg) (k:Nat) (p:Bs×List Sc):nmsV (G.take k++[p]++G.drop k)=(nmsV G).take k++[.string ⟨p.1.toArray⟩]++(nmsV G).drop k:=by unfold nmsV;simp
theorem qXh {G:Rg} {k:Nat} {x:Bs} {l l':List Sc} (h:G[k]?=some (x,l)):nmsV (G.set k (x,l'))=nmsV G:=by
 unfold nmsV;rw[List.map_set,List.map_set];refine List.ext_getElem? fun i=>?_
 rw[List.getElem?_set];by_cases e:k=i
 · rw[if_pos e];subst e;have hl:=(List.getElem?_eq_some_iff.1 h).1;rw[if_pos (by rw[List.length_map,List.length_map];exact hl),List.getElem?_map,List.getElem?_map,h];rfl
 · rw[if_neg e]
theorem qIr {w:World} {B:Nat} {A:Option Addr} {xs:List Value} (h:Lay w B A xs) (k:Nat):Lay w B A (xs.take k):=fun j u hu=>by
 by_cases hj:j<k
 · rw[List.getElem?_take_of_lt hj] at hu;exact h j u hu
 · rw[List.getElem?_eq_none (by rw[List.length_take];omega)] at hu;cases hu
theorem qWg {w:World} {B g o:Nat} {xs:List Value} (h:Lay w B (some ⟨g,o,none⟩) xs) (k:Nat):Lay w B (some ⟨g,o+k,none⟩) (xs.drop k):=fun j u hu=>by
 rw[List.getElem?_drop] at hu;obtain⟨g',o',e,hlt,hc⟩:=h (k+j) u hu;cases e;exact⟨g,o+k,rfl,hlt,by rw[Nat.add_assoc];exact hc⟩
theorem qB1 {w w1 w2:World} {r:Option Nat} (h:w.grownBy w1 r) (h':w1.grownBy w2 r):w.grownBy w2 r:=
  ⟨h'.os.trans h.os,h'.tape.trans h.tape,h'.output.trans h.output,Nat.le_trans h.size h'.size,fun k hk hne=>(h'.block k (Nat.lt_of_lt_of_le hk h.size) hne).trans (h.block k hk hne)⟩
theorem qBi {w w1:World} (h:Below w.heap.size w w1) (r:Option Nat):w.grownBy w1 r:=⟨h.os,h.tape,h.output,h.size,fun k hk _=>h.block k hk⟩
theorem qBm {w w1:World} (h:w.grownBy w1 none):Below w.heap.size w w1:=⟨h.os,h.tape,h.output,h.size,fun k hk=>h.block k hk (fun e=>by cases e)⟩
theorem qCr.kwrT {Kp:Nat→Prop} {P:Program} {tS tN tR:TypeId} {g c:Nat} {G:Rg} {W W':World} (h:qCr Kp P tS tN tR g G W) (hg:W.grownBy W' (some c)) (hc:¬Kp c) {a:Array Value} {T:TypeId} {q:Nat×Nat} (hq:W.heap[c]?=some (.cells a T q)) (h1:T≠tR) (h2:T≠tN):qCr Kp P tS tN tR g G W':=by
 obtain⟨sp,mb,D,h⟩:=h
 have hs:sp≠c:=fun e=>by
  have h3:=h.snap;rw[e,hq] at h3;cases h3;exact h2 rfl
 have hn:g≠c:=fun e=>by
  have h3:=h.box;rw[e,hq] at h3;cases h3;exact h1 rfl
 have hm:mb≠c:=fun e=>by
  obtain⟨es,clock,hb,_⟩:=h.map;rw[e,hq] at hb;cases hb
 have go:∀{k:Nat} {o:Obj},k≠c→W.heap[k]?=some o→W'.heap[k]?=some o:=fun hk ho=>(hg.block _ (Array.getElem?_eq_some_iff.1 ho).1 (fun e=>hk (by cases e;rfl))).trans ho
 exact⟨sp,mb,D,go hn h.box,go hs h.snap,h.map.kept hg (by simpa using hm),⟨h.inn.size,h.inn.has,h.inn.no,fun x l e=>by obtain⟨A,c',rs,h1,h2,h3⟩:=h.inn.at_ x l e;exact⟨A,c',rs,h1,h2.kwr hg hc h3,h3⟩⟩,h.ok⟩
theorem qCr.kwrO {Kp:Nat→Prop} {P:Program} {tS tN tR:TypeId} {g:Nat} {G:Rg} {W W':World} {B size n:Nat} {e:TypeId} {v:Value} {xs:List Value} (h:qCr Kp P tS tN tR g G W) (ho:W.ownsRow B e size v n xs) (hg:W.grownBy W' v.ownBlock) (hc:∀c,v.ownBlock=some c→¬Kp c) (h1:e≠tR) (h2:e≠tN):qCr Kp P tS tN tR g G W':=by
 rcases ho.2 with⟨rfl,_⟩|⟨c,cap,cur,rfl,_,hq,_⟩
 · exact h.to (qBm hg)
 · exact h.kwrT hg (hc c rfl) hq h1 h2
theorem qDn.kwrO {tR tN tC:TypeId} {Kp:Nat→Prop} {Bm m:Nat} {vn vc:Value} {H:List ChR} {G:Rg} {W W':World} {B size n:Nat} {e:TypeId} {v:Value} {xs:List Value} (h:qDn tR tN tC Kp Bm m vn vc H G W) (ho:W.ownsRow B e size v n xs) (hg:W.grownBy W' v.ownBlock) (hc:∀c,v.ownBlock=some c→¬Kp c) (h1:tR≠e) (h2:tN≠e) (h3:tC≠e):qDn tR tN tC Kp Bm m vn vc H G W':=by
 rcases ho.2 with⟨rfl,_⟩|⟨c,cap,cur,rfl,_,hq,_⟩
 · exact h.to (qBm hg)
 · exact h.kwr hg (hc c rfl) hq h1 h2 h3
theorem qR2 {w:World} {B:Nat} {e:TypeId} {A:Option Addr} {n c:Nat} {l:List Int} (h:OwnI w B e (.slice A n c) l) (hn:0<l.length):∃g,A=some ⟨g,0,none⟩:=by
 rcases h.2 with⟨_,e1⟩|⟨g,cap,cur,hv,_⟩
 · omega
 · cases hv;exact⟨g,rfl⟩
theorem qU1 (l:List Int) (k:Nat) (x:Int):(intV l).set k (.int .i64 x)=intV (l.set k x):=by unfold intV;rw[List.map_set]
theorem qU6 {w:World} {B n cap g:Nat} {e:TypeId} {l:List Int} {k:Nat} (h:OwnI w B e (.slice (some ⟨g,0,none⟩) n cap) l) (x:Int):OwnI (w.setCell ⟨g,k,none⟩ (.int .i64 x)) B e (.slice (some ⟨g,0,none⟩) n cap) (l.set k x):=by
 have hl:=h.lay;have h':w.ownsRow B e 1 (.slice (some ⟨g,0,none⟩) n cap) n (intV l):=by unfold OwnI at h;rw[←hl.1] at h;exact h
 unfold OwnI;rw[List.length_set,←hl.1,←qU1];exact(World.ownsRow.stored h' _ _).1
end Go.Ms
