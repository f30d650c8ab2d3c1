/- Evolve: a schema's columns handed over one after the other. Evolve: the ids of a schema's key columns. Evolve: the reference's keys. -/
import Derived.Test.YtainiaighnjpfaaGreatDoorZQv
set_option maxHeartbeats 4000000
set_option maxRecDepth 100000
set_option linter.unusedVariables false
set_option linter.unusedSimpArgs false
namespace Go.Ms
open Go.RowKit Go.Lib
structure qW3 (tS:TypeId) (Bx:Nat) (A:Option Addr) (n cap:Nat) (B:Option Addr) (m capm:Nat) (cs:List Co) (ks:List Int) (W:World):Prop where
  box:W.heap[Bx]?=some (.cells #[.slice A n cap,.slice B m capm] tS (0,0))
  lay:Lay W W.heap.size A (colV cs)
  layk:Lay W W.heap.size B (intV ks)
theorem qW3.below {tS:TypeId} {Bx:Nat} {A:Option Addr} {n cap:Nat} {B:Option Addr} {m capm:Nat} {cs:List Co} {ks:List Int} {W W':World} (h:qW3 tS Bx A n cap B m capm cs ks W) (hb:Below W.heap.size W W'):qW3 tS Bx A n cap B m capm cs ks W':=
  ⟨bk_ h.box hb,(h.lay.below hb).more hb.size,(h.layk.below hb).more hb.size⟩
end Go.Ms
namespace Go.Proofs.YtainiaighnjpfaaGreatDoor
open Go.RowKit Go.Ms Go.Lib Go.Shelf
attribute [local go_sem] Oper.semAt_some
abbrev qPr (Bx:Nat) (A:Option Addr) (n cap:Nat) (B:Option Addr) (m capm:Nat) (cs:List Co) (ks:List Int) (W:World):Prop:=qW3 33 Bx A n cap B m capm cs ks W
theorem qOc (A B:Option Addr) (n cap m capm:Nat) (w:World):Calls Tryz.prog 87 #[.agg #[.slice A n cap,.slice B m capm]] w fun e w'=>e=.returned (.func (.func 118) #[] #[.pointer (some ⟨w.heap.size,0,none⟩)])∧w'=w.alloc (.cells #[.slice A n cap,.slice B m capm] 33):=by
 go_enter Tryz.func87,Tryz.ntmps87;go_wp2_with fail
 go_ret;exact⟨rfl,rfl⟩
theorem qOr (d:Nat) (Bx:Nat) (A B:Option Addr) (n cap m capm:Nat) (cs:List Co) (ks:List Int) (hn:n=cs.length) (hn':n≤100000) :
    qOj Fence.wide d Tryz.prog 118 Bx (fun c:Co=>#[.int .i64 c.1,coA c]) cs (qPr Bx A n cap B m capm cs ks):=by
 intro l J Jx W hR hJ hJx hY h0;have hbx:=hR _ _ h0;have c0:=cb_ 0 hbx.box rfl;have HR:=hh_ hR;have HN:=hh_ hn;clear hR hn hbx;refine callsIn_of_wp Tryz.func118 rfl trivial ?_ rfl;simp only[Tryz.ntmps118,List.size_toArray,List.length_cons,List.length_nil,Nat.reduceAdd,Nat.reduceSub,Array.replicate_succ,Array.replicate_zero,List.push_toArray,List.append_toArray,List.nil_append,List.cons_append];have hdp:Fence.wide.depth.isSome=true→1≤d:=fun h=>absurd h (by decide)
 gi_wp2
 gi_loopw [8] (fun i wr=> ∃k:Nat,i=.int .i64 k∧k≤n∧J (cs.take k) wr) (fun i _=>n-(RowKit.intOf i).toNat)
 case atStart=>exact⟨0,rfl,by omega,h0⟩
 case round=>
  obtain⟨k,rfl,hk,hj⟩:=hrel;have HJ:=hh_ hj;clear hj;by_cases hlk:k<n
  · have hki:(k:Int)<n:=by omega
    obtain⟨c,hc⟩:∃c,cs[k]?=some c:=⟨_,List.getElem?_eq_getElem (by rw[←HN.out];exact hlk)⟩
    have hpre:cs.take k++[c] <+: cs:=by
     have e:cs.take (k+1)=cs.take k++[c]:=by rw[List.take_add_one,hc];rfl
     rw[←e];exact List.take_prefix _ _
    have hsn:cs.take (k+1)=cs.take k++[c]:=by rw[List.take_add_one,hc];rfl
    have hsc:=HR.out _ _ HJ.out;obtain⟨g,o,rfl,hg,g1,g2,g3,g4,g5,g6,g7⟩:=hsc.lay.co hc;obtain⟨i0,s0,⟨k0,u0⟩,n0,m0,t0⟩:=c;simp only at g1 g2 g3 g4 g5 g6 g7;have hjn:=hJ _ _ _ HJ.out (World.grownBy_alloc wr (.cells #[.int .i64 i0,.string s0,.int .i64 k0,.bool u0,.bool n0,.int .i64 m0,.string t0] 45) none);obtain⟨fn,tmps,assign,body,hy,hr⟩:=hY _ _ _ hjn hpre;simp only[coA] at hy;have HRR:=hh_ hr;have HSN:=hh_ hsn;clear hr hsn hsc hpre hjn hc;gi_wp2
    refine⟨hdp,HRR.out.mono ?_⟩;rintro e W' (⟨rfl,hj2⟩|⟨rfl,hx2⟩)
    · have HJ2:=hh_ hj2;clear hj2 hy;gi_wp2
      go_roundw
      case rel=>exact⟨k+1,by go_num,by omega,by rw[HSN.out];exact HJ2.out⟩
      case measure=>simp[RowKit.intOf];omega
    · clear hy;gi_wp2
      refine bodyPost_ret (results_none rfl _ _ _) rfl ?_;exact⟨⟨_,rfl⟩,.inr ⟨_,hx2⟩⟩
  · have hki:¬(k:Int)<n:=by omega
    have hall:cs.take k=cs:=List.take_of_length_le (by have:=HN.out;omega);have HALL:=hh_ hall;clear hall;gi_wp2
    go_end0;refine⟨⟨_,rfl⟩,.inl ?_⟩;rw[←HALL.out];exact HJ.out
theorem qNa (A B:Option Addr) (n cap m capm:Nat) (cs:List Co) (ks:List Int) (w:World) (hn:n=cs.length) (hn':n≤100000) (hA:Lay w w.heap.size A (colV cs)) (hB:Lay w w.heap.size B (intV ks)) :
    Calls Tryz.prog 71 #[.agg #[.slice A n cap,.slice B m capm]] w fun e w'=>e=.returned (.int .i64 (qB6 cs))∧Below w.heap.size w w':=by
 have HN:=hh_ hn;have HA:=hh_ hA;have HB:=hh_ hB;clear hn hA hB;refine(callsIn_wide (n:=6)).1 ?_;have hdp:Fence.wide.depth.isSome=true→1≤6:=fun h=>absurd h (by decide)
 refine callsIn_of_wp_marks Tryz.func71 rfl trivial ?_ rfl;simp only[Tryz.ntmps71,List.size_toArray,List.length_cons,List.length_nil,Nat.reduceAdd,Nat.reduceSub,Array.replicate_succ,Array.replicate_zero,List.push_toArray,List.append_toArray,List.nil_append,List.cons_append];gi_wp2_with (refine⟨trivial,?_⟩;gi_at_call 87;refine(callsIn_wide.2 (qOc A B n cap m capm _)).mono ?_;rintro e w' ⟨rfl,hw⟩;rw[hw];clear hw)
 obtain⟨X,hX⟩:∃X,X=((w.alloc (.cells #[.slice A n cap,.slice B m capm] 33)).alloc (.cells #[.int .i64 0] 3)).alloc (.cells #[.slice A n cap,.slice B m capm] 33):=⟨_,rfl⟩;have bX:Below w.heap.size w X:=by rw[hX];exact(((Below.refl _ w).alloc le_ _).alloc (by simp only[World.size_alloc];omega) _).alloc (by simp only[World.size_alloc];omega) _
 have sX:X.heap.size=w.heap.size+3:=by rw[hX];simp only[World.size_alloc]
 have q1:X.heap[w.heap.size+1]?=some (.cells #[.int .i64 0] 3 (0,0)):=by rw[hX];have:=qAd (w.alloc (.cells #[.slice A n cap,.slice B m capm] 33)) (.cells #[.int .i64 0] 3);rw[World.size_alloc] at this;exact bx_ this _
 have q2:X.heap[w.heap.size+2]?=some (.cells #[.slice A n cap,.slice B m capm] 33 (0,0)):=by rw[hX];have:=qAd ((w.alloc (.cells #[.slice A n cap,.slice B m capm] 33)).alloc (.cells #[.int .i64 0] 3)) (.cells #[.slice A n cap,.slice B m capm] 33);rw[World.size_alloc,World.size_alloc] at this;exact this
 rw[←hX];clear hX
 refine qF5 rfl (by omega) (gf:=118) (Bs:=w.heap.size+1+1) (R:=qPr (w.heap.size+1+1) A n cap B m capm cs ks) rfl trivial (enters_of Tryz.func118 (by kernel_rfl) rfl) (qOr 5 (w.heap.size+1+1) A B n cap m capm cs ks HN.out hn') (fun _=>rfl)
   (fun pre W=>W.heap[w.heap.size+1]?=some (.cells #[.int .i64 (qB6 pre)] 3 (0,0))∧W.heap[w.heap.size+2]?=some (.cells #[.slice A n cap,.slice B m capm] 33 (0,0))∧Below w.heap.size w W)
   (fun x pre W=>W.heap[w.heap.size+1]?=some (.cells #[.int .i64 (qB6 (pre++[x]))] 3 (0,0))∧W.heap[w.heap.size+2]?=some (.cells #[.slice A n cap,.slice B m capm] 33 (0,0))∧Below w.heap.size w W)
   (fun _ _ _=>False) ?hR ?hI ?hIa ?hIx ?h0
   (fun x=>{ tmps:=#[.agg #[.slice A n cap,.slice B m capm],.pointer (some ⟨w.heap.size,0,none⟩),.pointer (some ⟨w.heap.size+1,0,none⟩),.agg #[.slice A n cap,.slice B m capm],.func (.func 118) #[] #[.pointer (some ⟨w.heap.size+1+1,0,none⟩)],.int .i64 x.1,coA x,undef],defers:=[] }) ?assign ?body ?done ?stop
 case hR=>exact fun s W h=>⟨h.2.1,(HA.out.below h.2.2).more h.2.2.size,(HB.out.below h.2.2).more h.2.2.size⟩
 case hI=>
  rintro pre V V' row ⟨h1,h2,h3⟩ hg hr;have hne:∀k:Nat,k<w.heap.size+3→some k≠row:=fun k hk e=>by have:=(hr k e.symm).1;omega
  exact⟨(hg.block _ (Array.getElem?_eq_some_iff.1 h1).1 (hne _ (by omega))).trans h1,(hg.block _ (Array.getElem?_eq_some_iff.1 h2).1 (hne _ (by omega))).trans h2,h3.grown hg h3.size (fun k e=>by have:=(hr k e).1;omega)⟩
 case hIa=>
  rintro x pre V V' row ⟨h1,h2,h3⟩ hg hr;have hne:∀k:Nat,k<w.heap.size+3→some k≠row:=fun k hk e=>by have:=(hr k e.symm).1;omega
  exact⟨(hg.block _ (Array.getElem?_eq_some_iff.1 h1).1 (hne _ (by omega))).trans h1,(hg.block _ (Array.getElem?_eq_some_iff.1 h2).1 (hne _ (by omega))).trans h2,h3.grown hg h3.size (fun k e=>by have:=(hr k e).1;omega)⟩
 case hIx=>exact fun c s V V' row h _ _=>h.elim
 case h0=>exact⟨q1,q2,bX⟩
 case assign=>
  rintro l pre x W K hp ⟨h1,h2,h3⟩ hK;have y1:=cb_ 0 h1 rfl;have f1:=fz_ 0 h1;have hK2:=hK (W.setCell ⟨w.heap.size+1,0,none⟩ (.int .i64 x.1)) ((KeepsOthers.setCell W _ _).from _) ⟨by rw[qTh];exact Go.Ms.ms_one_set h1 _,qAj h2 (by omega) _,h3.setCell (p:=⟨w.heap.size+1,0,none⟩) (by simp only;omega) _⟩;have HK:=hh_ hK2;clear hK hK2 h1 h2 h3 hp;gi_wp2
  exact HK.out
 case body=>
  rintro l pre x W hp hi;have HI:=hh_ hi;clear hi hp;gi_wp2
  exact⟨KeepsFrom.refl _ _,HI.out⟩
 case stop=>exact fun D c pre W hD h=>h.elim
 case done=>
  rintro D W hD ⟨h1,h2,h3⟩ hK;have y1:=cb_ 0 h1 rfl;have f1:=fz_ 0 h1;have H1:=hh_ h1;have H3:=hh_ h3;have HK:=hh_ hK;clear h1 h2 h3 hK;gi_wp2
  have hk2:(W.setCell ⟨w.heap.size+1,0,none⟩ (.int .i64 (qB6 cs))).heap[D]?=some (.deferred (some [])):=qAj HK.out (by omega) _;have hb1:=Go.Ms.ms_one_set H1.out (.int .i64 (qB6 cs));have z1:=cb_ 0 (qBe (o':=.deferred none) hb1 (show w.heap.size+1≠D by omega)) rfl;refine⟨by simp,.inl ⟨_,_,rfl,run_takeDeferred hk2,?_⟩⟩;refine⟨.int .i64 (qB6 cs),?_,?_⟩
  · simp[results,Tryz.results71,Tryz.f71,go_sem,z1]
  · exact⟨rfl,(H3.out.setCell (p:=⟨w.heap.size+1,0,none⟩) (by simp only;omega) _).grown (grownBy_putObj' _ D (.deferred none)) (H3.out.setCell (p:=⟨w.heap.size+1,0,none⟩) (by simp only;omega) (.int .i64 (qB6 cs))).size (fun k e=>by cases e;omega)⟩
end Go.Proofs.YtainiaighnjpfaaGreatDoor
namespace Go.Ms
open Go.RowKit Go.Lib
def qJn (cs:List Co) (ks:List Int):Prop:= ∀k∈ks,0≤k∧k<cs.length
theorem qKf (cs:List Co) (ks:List Int) {k:Nat} {q:Int} {c:Co} (hq:ks[k]?=some q) (h0:0≤q) (hc:cs[q.toNat]?=some c):(qA6 (cs,ks)).take (k+1)=(qA6 (cs,ks)).take k++[c.1]:=by
 unfold qA6;rw[List.take_add_one,List.getElem?_map,hq];simp[List.getD_eq_getElem?_getD,hc]
theorem qDr (cs:List Co) (ks:List Int):(qA6 (cs,ks)).length=ks.length:=by unfold qA6;rw[List.length_map]
end Go.Ms
namespace Go.Proofs.YtainiaighnjpfaaGreatDoor
open Go.RowKit Go.Ms Go.Lib Go.Shelf
theorem qKv (A B:Option Addr) (n cap m capm:Nat) (cs:List Co) (ks:List Int) (w:World) (hn:n=cs.length) (hm:m=ks.length) (hn':n≤100000) (hm':m≤100000) (hA:Lay w w.heap.size A (colV cs)) (hB:Lay w w.heap.size B (intV ks)) (hk:qJn cs ks) :
    Calls Tryz.prog 104 #[.agg #[.slice A n cap,.slice B m capm]] w fun e w'=> ∃v,e=.returned v∧OwnI w' w.heap.size 3 v (qA6 (cs,ks))∧Below w.heap.size w w':=by
 obtain⟨ii,ki,kz0,kz1,kz2⟩:=info_parts qFq;have HN:=hh_ hn;have HM:=hh_ hm;have HA:=hh_ hA;have HB:=hh_ hB;have HKI:=hh_ hk;have hb0:(w.alloc (.cells #[.slice A n cap,.slice B m capm] 33)).heap[w.heap.size]?=some (.cells #[.slice A n cap,.slice B m capm] 33 (0,0)):=qAd _ _;have H0:=hh_ hb0;have c1:=cb_ 1 hb0 rfl;clear hn hm hA hB hk hb0;go_enter Tryz.func104,Tryz.ntmps104;go_wp2_with fail
 go_loopw [2,8] (fun v i wr=> ∃k:Nat,i=.int .i64 k∧k≤m∧wr.ownsRow (w.heap.size+1) 3 1 v k (intV ((qA6 (cs,ks)).take k))∧wr.heap[w.heap.size]?=some (.cells #[.slice A n cap,.slice B m capm] 33 (0,0))∧Below w.heap.size w wr∧w.heap.size+1≤wr.heap.size) (fun _ i _=>m-(RowKit.intOf i).toNat)
 case atStart=>exact⟨0,rfl,by omega,World.ownsRow_nil _ _ _ _,H0.out,(Below.refl _ w).alloc le_ _,by rw[World.size_alloc];omega⟩
 case round=>
  obtain⟨k,rfl,hk,hown,hbx,hbw,hsz⟩:=hrel;obtain⟨A3,c3,rfl,hc3,hcm3⟩:=qAf hown;have OW:=hh_ hown;have HBX:=hh_ hbx;have HBW:=hh_ hbw;have d0:=cb_ 0 hbx rfl;clear hown hbx hbw;by_cases hlk:k<m
  · have hki:(k:Int)<m:=by omega
    obtain⟨q,hq⟩:∃q,ks[k]?=some q:=⟨_,List.getElem?_eq_getElem (by rw[←HM.out];exact hlk)⟩;obtain⟨q0,q1⟩:=HKI.out q (List.mem_of_getElem? hq);obtain⟨t,rfl⟩:∃t:Nat,q=t:=⟨q.toNat,by omega⟩;have htn:t<n:=by rw[HN.out];omega
    have hti:(t:Int)<n:=by omega
    obtain⟨c,hc⟩:∃c,cs[t]?=some c:=⟨_,List.getElem?_eq_getElem (by rw[←HN.out];exact htn)⟩;obtain⟨g,o,rfl,hg,h1⟩:=HB.out.num hq;obtain⟨g',o',rfl,hg',j1,-⟩:=HA.out.co hc;have g1:=(HBW.out.cell hg).trans h1;have g2:=(HBW.out.cell hg').trans j1;have htk:=qKf cs ks hq q0 hc;obtain⟨x,hx⟩:∃x,c.1=x:=⟨_,rfl⟩;rw[hx] at g2 htk;have HTK:=hh_ htk;clear hq q0 q1 hc hg h1 hg' j1 htk hx;have hnew:Lay (wr.alloc (.cells #[.int .i64 x] 3)) (wr.alloc (.cells #[.int .i64 x] 3)).heap.size (some ⟨wr.heap.size,0,none⟩) (intV [x]):=qBs wr [.int .i64 x] 3;have bal:=(Below.refl wr.heap.size wr).alloc le_ (.cells #[.int .i64 x] 3);have hO6:=own_below OW.out bal;have hz6:w.heap.size+1≤(wr.alloc (.cells #[.int .i64 x] 3)).heap.size:=by rw[World.size_alloc];omega
    have O6:=hh_ hO6;have HNew:=hh_ hnew;have BAL:=hh_ bal;clear hO6 hnew bal
    go_wp2_with (first
      |(at_builtin;refine qAi rfl (.tmp 12) (.tmp 19) _ rfl (w.heap.size+1) 3 ii _ 1 8 Tryz.underlying31 ki kz0 kz1 kz2 rfl (by omega) _ _ _ rfl O6.out _ (some ⟨wr.heap.size,0,none⟩) 1 1 (intV [x]) rfl rfl HNew.out (qFk _) ml_ (by omega) hz6 ?_;intro v7 w7 hown7 hg7;have HO7:=hh_ hown7;have HBX7:=hh_ ((hg7.block _ (Array.getElem?_eq_some_iff.1 (bk_ HBX.out BAL.out)).1 (fun e=>by have:=(World.ownsRow.lt O6.out _ e.symm).1;omega)).trans (bk_ HBX.out BAL.out));have HB7:=hh_ (qAh O6.out (HBW.out.trans (BAL.out.mono HBW.out.size)) (by omega) (by omega) hg7);have hz7:=Nat.le_trans hz6 hg7.size;clear hown7 hg7))
    go_roundw
    case rel=>
     refine⟨k+1,by go_num,by omega,?_,HBX7.out,HB7.out,hz7⟩;rw[HTK.out,qI1];exact HO7.out
    case measure=>simp[RowKit.intOf];omega
  · have hki:¬(k:Int)<m:=by omega
    obtain rfl:k=m:=by omega
    have hall:(qA6 (cs,ks)).take k=qA6 (cs,ks):=List.take_of_length_le (by rw[qDr];have:=HM.out;omega);have hl:(qA6 (cs,ks)).length=k:=by rw[qDr];exact HM.out.symm
    have hfin:OwnI wr w.heap.size 3 (.slice A3 k c3) (qA6 (cs,ks)):=by
     have:=qAv OW.out (show w.heap.size≤w.heap.size+1 by omega);rw[hall] at this;unfold OwnI;rw[hl];exact this
    have HF:=hh_ hfin;clear hall hl hfin;go_wp2_with fail
    go_ret;exact⟨_,rfl,HF.out,HBW.out⟩
theorem qKe (A B:Option Addr) (n cap m capm:Nat) (cs:List Co) (ks:List Int) (w:World) (hn:n=cs.length) (hm:m=ks.length) (hn':n≤100000) (hm':m≤100000) (hA:Lay w w.heap.size A (colV cs)) (hB:Lay w w.heap.size B (intV ks)) (hk:qJn cs ks) :
    Calls Tryz.prog 141 #[.agg #[.slice A n cap,.slice B m capm]] w fun e w'=> ∃v,e=.returned v∧OwnI w' w.heap.size 3 v (qA6 (cs,ks))∧Below w.heap.size w w':=by
 obtain⟨ii,ki,kz0,kz1,kz2⟩:=info_parts qFq;have HN:=hh_ hn;have HM:=hh_ hm;have HA:=hh_ hA;have HB:=hh_ hB;have HKI:=hh_ hk;have hb0:(w.alloc (.cells #[.slice A n cap,.slice B m capm] 33)).heap[w.heap.size]?=some (.cells #[.slice A n cap,.slice B m capm] 33 (0,0)):=qAd _ _;have H0:=hh_ hb0;have c1:=cb_ 1 hb0 rfl;clear hn hm hA hB hk hb0;go_enter Tryz.func141,Tryz.ntmps141;go_wp2_with fail
 go_loopw [3,4] (fun v i wr=> ∃k:Nat,i=.int .i64 k∧k≤m∧wr.ownsRow (w.heap.size+1) 3 1 v k (intV ((qA6 (cs,ks)).take k))∧wr.heap[w.heap.size]?=some (.cells #[.slice A n cap,.slice B m capm] 33 (0,0))∧Below w.heap.size w wr∧w.heap.size+1≤wr.heap.size) (fun _ i _=>m-(RowKit.intOf i).toNat)
 case atStart=>exact⟨0,rfl,by omega,World.ownsRow_nil _ _ _ _,H0.out,(Below.refl _ w).alloc le_ _,by rw[World.size_alloc];omega⟩
 case round=>
  obtain⟨k,rfl,hk,hown,hbx,hbw,hsz⟩:=hrel;obtain⟨A3,c3,rfl,hc3,hcm3⟩:=qAf hown;have OW:=hh_ hown;have HBX:=hh_ hbx;have HBW:=hh_ hbw;have d0:=cb_ 0 hbx rfl;have d1:=cb_ 1 hbx rfl;clear hown hbx hbw;by_cases hlk:k<m
  · have hki:(k:Int)<m:=by omega
    obtain⟨q,hq⟩:∃q,ks[k]?=some q:=⟨_,List.getElem?_eq_getElem (by rw[←HM.out];exact hlk)⟩;obtain⟨q0,q1⟩:=HKI.out q (List.mem_of_getElem? hq);obtain⟨t,rfl⟩:∃t:Nat,q=t:=⟨q.toNat,by omega⟩;have htn:t<n:=by rw[HN.out];omega
    have hti:(t:Int)<n:=by omega
    obtain⟨c,hc⟩:∃c,cs[t]?=some c:=⟨_,List.getElem?_eq_getElem (by rw[←HN.out];exact htn)⟩;obtain⟨g,o,rfl,hg,h1⟩:=HB.out.num hq;obtain⟨g',o',rfl,hg',j1,-⟩:=HA.out.co hc;have g1:=(HBW.out.cell hg).trans h1;have g2:=(HBW.out.cell hg').trans j1;have htk:=qKf cs ks hq q0 hc;obtain⟨x,hx⟩:∃x,c.1=x:=⟨_,rfl⟩;rw[hx] at g2 htk;have HTK:=hh_ htk;clear hq q0 q1 hc hg h1 hg' j1 htk hx;have hnew:Lay (wr.alloc (.cells #[.int .i64 x] 3)) (wr.alloc (.cells #[.int .i64 x] 3)).heap.size (some ⟨wr.heap.size,0,none⟩) (intV [x]):=qBs wr [.int .i64 x] 3;have bal:=(Below.refl wr.heap.size wr).alloc le_ (.cells #[.int .i64 x] 3);have hO6:=own_below OW.out bal;have hz6:w.heap.size+1≤(wr.alloc (.cells #[.int .i64 x] 3)).heap.size:=by rw[World.size_alloc];omega
    have bdr:Below (wr.alloc (.cells #[.int .i64 x] 3)).heap.size (wr.alloc (.cells #[.int .i64 x] 3)) (wr.alloc (.cells #[.int .i64 x] 3)).drew:=qAa br_ 1;have hO6d:=own_below hO6 bdr;have hnewd:Lay (wr.alloc (.cells #[.int .i64 x] 3)).drew (wr.alloc (.cells #[.int .i64 x] 3)).drew.heap.size (some ⟨wr.heap.size,0,none⟩) (intV [x]):=hnew.below bdr;have hbald:Below wr.heap.size wr (wr.alloc (.cells #[.int .i64 x] 3)).drew:=bal.trans (bdr.mono bal.size);have O6:=hh_ hO6d;have HNew:=hh_ hnewd;have BAL:=hh_ hbald;clear bdr hO6d hnewd hbald;clear hO6 hnew bal;go_wp2_with fail
    go_region_law (first
      |(refine qI4 rfl (.tmp 12) (.tmp 23) 31 rfl (w.heap.size+1) 3 ii _ 1 8 Tryz.underlying31 ki kz0 kz1 kz2 rfl (by omega) (.slice A3 k c3) k (intV ((qA6 (cs,ks)).take k)) rfl O6.out _ (some ⟨wr.heap.size,0,none⟩) 1 1 (intV [x]) rfl rfl HNew.out (qFk _) ml_ (by omega) hz6 ?_;intro v7 w7 hown7 hg7;have HO7:=hh_ hown7;have HBX7:=hh_ ((hg7.block _ (Array.getElem?_eq_some_iff.1 (bk_ HBX.out BAL.out)).1 (fun e=>by have:=(World.ownsRow.lt O6.out _ e.symm).1;omega)).trans (bk_ HBX.out BAL.out));have HB7:=hh_ (qAh O6.out (HBW.out.trans (BAL.out.mono HBW.out.size)) (Nat.le_trans (Nat.le_succ _) hz6) (by omega) hg7);have hz7:=Nat.le_trans hz6 hg7.size;clear hown7 hg7))
    all_goals (go_wp2_with fail)
    all_goals (go_roundw)
    all_goals first
      | (refine⟨k+1,by go_num,by omega,?_,HBX7.out,HB7.out,hz7⟩
         rw[HTK.out,qI1]
         exact HO7.out)
      |(simp[RowKit.intOf];omega)
  · have hki:¬(k:Int)<m:=by omega
    obtain rfl:k=m:=by omega
    have hall:(qA6 (cs,ks)).take k=qA6 (cs,ks):=List.take_of_length_le (by rw[qDr];have:=HM.out;omega);have hl:(qA6 (cs,ks)).length=k:=by rw[qDr];exact HM.out.symm
    have hfin:OwnI wr w.heap.size 3 (.slice A3 k c3) (qA6 (cs,ks)):=by
     have:=qAv OW.out (show w.heap.size≤w.heap.size+1 by omega);rw[hall] at this;unfold OwnI;rw[hl];exact this
    have HF:=hh_ hfin;clear hall hl hfin;go_wp2_with fail
    go_ret;exact⟨_,rfl,HF.out,HBW.out⟩
end Go.Proofs.YtainiaighnjpfaaGreatDoor
