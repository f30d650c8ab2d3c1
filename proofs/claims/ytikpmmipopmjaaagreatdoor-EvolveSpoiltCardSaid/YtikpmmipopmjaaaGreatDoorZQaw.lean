/- Evolve's laws: the versions of a seed, walked. -/
import Derived.Test.YtikpmmipopmjaaaGreatDoorZQau
import Derived.Test.YtikpmmipopmjaaaGreatDoorZQav
import Derived.Test.YtikpmmipopmjaaaGreatDoorZQae
import Derived.Deep.DeepCutAuto
import Derived.Deep.CutBlock
set_option linter.unusedVariables false
set_option linter.unusedSimpArgs false
namespace Go.Ms
open Go.RowKit Go.Lib
structure ChA (tD tS tC tI:TypeId) (va:Array Value) (v:Value) (l:List Co) (w W:World):Prop where
  b1:W.heap[w.heap.size]?=some (.cells va tD (0,0))
  kb:W.heap[w.heap.size+3]?=some (.cells #[.int .i64 0] tI (0,0))
  b4:W.heap[w.heap.size+4]?=some (.cells #[v,.slice (some ⟨w.heap.size+3,0,none⟩) 1 1] tS (0,0))
  own:qBt W (w.heap.size+2) tC v l
  bel:Below w.heap.size w W
  sz:w.heap.size+5≤W.heap.size
theorem ChA.step {tD tS tC tI:TypeId} {va:Array Value} {v:Value} {l:List Co} {w W W':World} (h:ChA tD tS tC tI va v l w W) (hb:Below W.heap.size W W'):ChA tD tS tC tI va v l w W':=
  ⟨qAb h.b1 hb,qAb h.kb hb,qAb h.b4 hb,own_below h.own hb,h.bel.trans (hb.mono h.bel.size),Nat.le_trans h.sz hb.size⟩
theorem ChA.push {tD tS tC tI:TypeId} {va:Array Value} {v v':Value} {l:List Co} {c:Co} {w W W':World} (h:ChA tD tS tC tI va v l w W) (n1:tD≠tC) (n2:tS≠tC) (n3:tI≠tC) (ho:W'.ownsRow (w.heap.size+2) tC 7 v' (l.length+1) (colV l++coV c)) (hg:W.grownBy W' v.ownBlock) :
    ChA tD tS tC tI va v' (l++[c]) w (W'.setCell ⟨w.heap.size+4,0,none⟩ v'):=by
 have he:=EffT.own h.own hg
 have ho2:qBt W' (w.heap.size+2) tC v' (l++[c]):=by
  unfold qBt;rw[List.length_append,qJn,show colV [c]=coV c by simp[colV]];exact ho
 have q4:=he.keep h.b4 n2
 have hne:v'.ownBlock=none∨v'.ownBlock≠some (w.heap.size+4):=by
  rcases ho.2 with⟨hv',_⟩|⟨g,cap,cur,hv',_,hgb,_⟩
  · exact .inl (by rw[hv'];rfl)
  · refine .inr fun e=>?_
    rw[hv'] at e
    simp[Value.ownBlock] at e
    subst e;rw[hgb] at q4
    cases q4
    exact n2 rfl
 exact⟨qAj (he.keep h.b1 n1) (by omega) _,qAj (he.keep h.kb n3) (by omega) _,two_set0 q4 _,World.ownsRow.kept ho2 (qAm W' _ _ _) hne,(qBr h.own h.bel h.bel.size (by omega) hg).setCell (p:=⟨w.heap.size+4,0,none⟩) (by simp only;omega) _,by simp only[World.size_setCell];exact Nat.le_trans h.sz hg.size⟩
theorem qI6 (n:Int):∀(l:List Int) (i:Nat),qBq i (l++[n])=qBq i l++[qE3 (((i+l.length:Nat):Int)+2) (qEe (i+l.length)) (n%8)]
  |[],i=>rfl
  |a::r,i=>by
   show qE3 _ _ _::qBq (i+1) (r++[n])=_
   rw[qI6 n r (i+1),List.length_cons,show i+1+r.length=i+(r.length+1) by omega];rfl
theorem qXw {k:Nat} (h:k<6):(⟨#[99]⟩:ByteArray)++ByteArray.extract ⟨#[97,98,99,100,101,102]⟩ k (k+1)=qEe k:=by
 have:k=0∨k=1∨k=2∨k=3∨k=4∨k=5:=by omega
 rcases this with rfl|rfl|rfl|rfl|rfl|rfl <;> decide +kernel
theorem qXc {k:Nat} (h:k<7):(⟨#[110]⟩:ByteArray)++ByteArray.extract ⟨#[97,98,99,100,101,102,103]⟩ k (k+1)=qGj k:=by
 have:k=0∨k=1∨k=2∨k=3∨k=4∨k=5∨k=6:=by omega
 rcases this with rfl|rfl|rfl|rfl|rfl|rfl|rfl <;> decide +kernel
theorem zAj {q:Int} (h1: -9223372036854775808≤q) (h2:q≤9223372036854775807): -9223372036854775808≤q.tdiv 2∧q.tdiv 2≤9223372036854775807:=by
 by_cases h:0≤q
 · rw[Int.tdiv_eq_ediv_of_nonneg h];omega
 · have e:q.tdiv 2= -((-q).tdiv 2):=by rw[Int.neg_tdiv,Int.neg_neg]
   rw[e,Int.tdiv_eq_ediv_of_nonneg (by omega)];omega
theorem qOn (a:Nat) (ha:a<9223372036854775808):bits .and .i64 (a:Int) 1=(a:Int)%2:=by
 have h1:(BitVec.ofInt 64 (a:Int)).toNat=a:=by
  rw[BitVec.ofInt_natCast,BitVec.toNat_ofNat];exact Nat.mod_eq_of_lt (by omega)
 have h2:(BitVec.ofInt 64 (1:Int)).toNat=1:=by decide
 show IntKind.i64.wrap ((BitVec.ofInt 64 (a:Int) &&& BitVec.ofInt 64 1).toNat:Int)=_
 rw[BitVec.toNat_and,h1,h2,IntKind.wrap_i64,Nat.and_one_is_mod];omega
theorem qYf (x:Int) (h0:0≤x) (h1:x<9223372036854775808):bits .and .i64 x 1=x%2:=by
 obtain⟨a,rfl⟩:=Int.eq_ofNat_of_zero_le h0;exact qOn a (by omega)
theorem qNv (q:Int) (k:Nat):bits .and .i64 (q%65536/2^k) 1=(q%65536/2^k)%2:=by
 have h0:0≤q%65536:=by omega
 have h2:(0:Int)≤2^k:=Int.pow_nonneg (by omega);have h3:=Int.ediv_le_self (a:=q%65536) (2^k) h0;exact qYf _ (Int.ediv_nonneg h0 h2) (by omega)
end Go.Ms
namespace Go.Proofs.YtikpmmipopmjaaaGreatDoor
open Go.RowKit Go.Ms Go.Lib Go.Shelf Go.Rel
abbrev ChB0 (va:Array Value) (v:Value) (r:SRef) (rs:List SRef) (ss:List Sc) (s:List Co) (w W:World):Prop:=ChB 45 25 59 3 va v r rs ss s w W
abbrev ChA0 (va:Array Value) (v:Value) (l:List Co) (w W:World):Prop:=ChA 45 25 59 3 va v l w W
set_option maxRecDepth 100000 in
set_option maxHeartbeats 4000000 in
theorem qPu (w :World) (A B:Option Addr) (n cap m capm:Nat) (C:List Int) (V:List (Int×Int×Int)) (hn:n=C.length) (hm:m=V.length) (hn':n≤maxLen) (hm':m≤maxLen) (hA:Lay w w.heap.size A (intV C)) (hC:∀x∈C, -9223372036854775808≤x∧x≤9223372036854775807) (hB:Lay w w.heap.size B (v3V V)) (hV:∀x∈V, -9223372036854775808≤x.1∧x.1≤9223372036854775807∧ -9223372036854775808≤x.2.1∧x.2.1≤9223372036854775807∧ -9223372036854775808≤x.2.2∧x.2.2≤9223372036854775807) :
    Calls Tryz.prog 27 #[.agg #[.slice A n cap,.slice B m capm]] w fun e w'=> ∃A' c' rs,e=.returned (.slice A' rs.length c')∧qDb w' w'.heap.size A' rs (qEj C V)∧Below w.heap.size w w':=by
 unfold maxLen at hn' hm';obtain⟨ic,ci,cz0,cz1,cz2⟩:=info_parts qDm;obtain⟨sc,si,sz0,sz1,sz2⟩:=info_parts qHh
 have HN:=Lib.hid hn;have HM:=Lib.hid hm;have HA:=Lib.hid hA;have HC:=Lib.hid hC;have HB:=Lib.hid hB;have HV:=Lib.hid hV
 clear hn hm hA hC hB hV
 go_enter Tryz.func27,Tryz.ntmps27
 go_upto_block 0 with fail
 obtain⟨X,hX⟩:∃X,X=((((w.alloc (.cells #[.slice A n cap,.slice B m capm] 45)).alloc (.cells (coV qEo).toArray 59)).alloc (.cells (coV qEo).toArray 59)).alloc (.cells #[.int .i64 0] 3)).alloc (.cells #[.slice (some ⟨w.heap.size+1+1,0,none⟩) 1 1,.slice (some ⟨w.heap.size+1+1+1,0,none⟩) 1 1] 25):=⟨_,rfl⟩
 have hst0:ChA0 #[.slice A n cap,.slice B m capm] (.slice (some ⟨w.heap.size+2,0,none⟩) 1 1) (qEo::qBq 0 (C.take 0)) w X:=by
  have at_:=fun (W:World) (o:Obj) (k:Nat) (h:W.heap.size=k)=>(h▸qAf W o:(W.alloc o).heap[k]?=some o)
  refine⟨?_,?_,?_,?_,?_,?_⟩
  · rw[hX];exact qAe (qAe (qAe (qAe (qAf _ _) _) _) _) _
  · rw[hX];exact qAe (at_ _ _ _ (by simp only[World.size_alloc])) _
  · rw[hX];exact at_ _ _ _ (by simp only[World.size_alloc])
  · refine⟨rfl,.inr ⟨w.heap.size+2,1,(coV qEo).toArray,rfl,Nat.le_refl _,?_,Nat.le_refl _,by unfold maxLen;decide,rfl,rfl⟩⟩
    rw[hX];exact qAe (qAe (at_ _ _ _ (by simp only[World.size_alloc])) _) _
  · rw[hX];exact(((((Below.refl _ w).alloc (Nat.le_refl _) _).alloc (by simp only[World.size_alloc];omega) _).alloc (by simp only[World.size_alloc];omega) _).alloc (by simp only[World.size_alloc];omega) _).alloc (by simp only[World.size_alloc];omega) _
  · rw[hX];simp only[World.size_alloc];omega
 have HST0:=Lib.hid hst0;clear hst0;have hX2:=hX;simp only[coV,qEo] at hX2;rw[←hX2];clear hX hX2
 go_cut [5] (fun s5 wx=> ∃v,s5=.int .i64 (1+((C.take 6).length:Int))∧ChA0 #[.slice A n cap,.slice B m capm] v (qEo::qBq 0 (C.take 6)) w wx)
 case first=>
  go_wp2_with fail
  go_loopw [5,6] (fun id i wr=> ∃k:Nat,i=.int .i64 k∧k≤n∧k≤6∧id=.int .i64 ((k:Int)+1)∧∃v,ChA0 #[.slice A n cap,.slice B m capm] v (qEo::qBq 0 (C.take k)) w wr) (fun _ i _=>6-(RowKit.intOf i).toNat)
  case atStart=>exact⟨0,rfl,by omega,by omega,rfl,_,HST0.out⟩
  case round=>
   obtain⟨k,rfl,hkn,hk6,rfl,v,hst⟩:=hrel;obtain⟨A3,c3,rfl,hc3,hcm3⟩:=qAg hst.own;have y0:=cell_of_block (i:=0) hst.b1 rfl
   by_cases hgo:k<n∧k<6
   · obtain⟨hlk,hl6⟩:=hgo
     have hki:(k:Int)<n:=by omega
     have hk6':(k:Int)<6:=by omega
     obtain⟨x,hx⟩:∃x,C[k]?=some x:=⟨_,List.getElem?_eq_getElem (by rw[←HN.out];exact hlk)⟩;obtain⟨hx0,hx1⟩:=HC.out x (List.mem_of_getElem? hx);obtain⟨g,o,eA,hg,j1⟩:=HA.out.num hx;subst eA;have g1:=(hst.bel.cell hg).trans j1;have hkd:=qRb x hx0 hx1 wr;unfold qE3 at hkd;obtain⟨kd,hkd1⟩:∃q,evKd (x%8)=q:=⟨_,rfl⟩;obtain⟨nu,hnu⟩:∃q,evNu (x%8)=q:=⟨_,rfl⟩;obtain⟨df,hdf⟩:∃q,evDf (x%8)=q:=⟨_,rfl⟩;rw[hkd1,hnu,hdf] at hkd;obtain⟨d0,d1,d2⟩:=df;simp only[coA] at hkd
     have HKD:=Lib.hid hkd;have HST:=Lib.hid hst;have HX:=Lib.hid hx;have HE:=Lib.hid (show qE3 ((k:Int)+2) (qEe k) (x%8)=((k:Int)+2,qEe k,(kd,nu),(d0,d1,d2)) by unfold qE3;rw[hkd1,hnu,hdf])
     clear hkd hst hx hkd1 hnu hdf hg j1 hc3 hcm3
     go_wp2_with fail
     refine HKD.out.mono ?_;rintro en w5 ⟨rfl,b5⟩;have S5:=Lib.hid (HST.out.step b5);clear b5
     go_wp2_with fail
     have h2:(k:Int)+1≤6:=by omega
     have h3:(0:Int)≤(k:Int)+1:=by omega
     have h4:((k:Int)+1).toNat=k+1:=by omega
     have h5:k≤k+1:=by omega
     have h6:k+1≤6:=by omega
     have h7:(k:Int)≤(k:Int)+1:=by omega
     have h8:¬(9223372036854775807<1+(min (k+1) 6-k)):=by omega
     have z0:=qAa (i:=0) (qAf w5 (.cells #[.int .i64 0,.string ⟨#[]⟩,.int .i64 kd,.bool nu,.bool d0,.int .i64 d1,.string d2] 59));have z1:=qAa (i:=1) (qAf w5 (.cells #[.int .i64 0,.string ⟨#[]⟩,.int .i64 kd,.bool nu,.bool d0,.int .i64 d1,.string d2] 59))
     have h9:(0:Int)≤k:=by omega
     have h10:¬((k:Int)+1<k):=by omega
     have h11:¬((6:Int)<(k:Int)+1):=by omega
     have hw:IntKind.i64.wrap ((k:Int)+1)=(k:Int)+1:=IntWalk.i64_in _ (by omega)
     go_region_with fail
     have hnm:=qXw hl6;obtain⟨V6,hV6⟩:∃V,V=(w5.alloc (.cells #[.int .i64 ((k:Int)+1+1),.string ((⟨#[99]⟩:ByteArray)++ByteArray.extract ⟨#[97,98,99,100,101,102]⟩ k (k+1)),.int .i64 kd,.bool nu,.bool d0,.int .i64 d1,.string d2] 59)).drew:=⟨_,rfl⟩
     have bV:Below w5.heap.size w5 V6:=by rw[hV6];exact qAc ((Below.refl _ w5).alloc (Nat.le_refl _) _) 1
     have qV:V6.heap[w5.heap.size]?=some (.cells #[.int .i64 ((k:Int)+1+1),.string (qEe k),.int .i64 kd,.bool nu,.bool d0,.int .i64 d1,.string d2] 59 (0,0)):=by rw[hV6,hnm];exact qAf w5 _
     rw[←hV6];clear hV6 hnm z0 z1 h2 h3 h4 h5 h6 h7 h8 h9 h10 h11 hw;have hs6:=S5.out.step bV;have hs7:=hs6.step ((Below.refl V6.heap.size V6).alloc (Nat.le_refl _) (.cells #[.int .i64 ((k:Int)+1+1),.string (qEe k),.int .i64 kd,.bool nu,.bool d0,.int .i64 d1,.string d2] 59));have a0:=cell_of_block (i:=0) hs6.b4 rfl;have a1:=cell_of_block (i:=0) qV rfl;have a2:=cell_of_block (i:=1) qV rfl;have a3:=cell_of_block (i:=2) qV rfl;have a4:=cell_of_block (i:=3) qV rfl;have a5:=cell_of_block (i:=4) qV rfl;have a6:=cell_of_block (i:=5) qV rfl
     have a7:=cell_of_block (i:=6) qV rfl
     have hfl:(qEo::qBq 0 (C.take k)).length=k+1:=by rw[List.length_cons,qEu,List.length_take,Nat.min_eq_left (by rw[←HN.out];exact hkn)]
     have hsn:qEo::qBq 0 (C.take (k+1))=(qEo::qBq 0 (C.take k))++[((k:Int)+1+1,qEe k,(kd,nu),(d0,d1,d2))]:=by
      have e1:C.take (k+1)=C.take k++[x]:=by rw[List.take_add_one,HX.out];rfl
      have e2:(C.take k).length=k:=by rw[List.length_take,Nat.min_eq_left (by rw[←HN.out];exact hkn)]
      rw[e1,qI6,e2,Nat.zero_add,HE.out,show(k:Int)+1+1=(k:Int)+2 by omega];rfl
     have hone:∀u∈coV (((k:Int)+1+1,qEe k,(kd,nu),(d0,d1,d2)):Co),u.oneCell'=true:=fun u hu=>qCd [(((k:Int)+1+1,qEe k,(kd,nu),(d0,d1,d2)):Co)] u (by simpa[colV] using hu)
     have S7:=Lib.hid hs7;have HNW:=Lib.hid (qBo V6 (coV (((k:Int)+1+1,qEe k,(kd,nu),(d0,d1,d2)):Co)) 59);have HONE:=Lib.hid hone;have HFL:=Lib.hid hfl;have HSN:=Lib.hid hsn
     clear hs6 hs7 qV bV hone hfl hsn S5
     go_wp2_with (at_builtin;refine qAk rfl (.tmp 50) (.tmp 52) _ rfl (w.heap.size+2) 59 ic _ 7 72 qBl ci cz0 cz1 cz2 rfl (by omega) _ _ _ rfl S7.out.own _ (some ⟨V6.heap.size,0,none⟩) 1 1 (coV (((k:Int)+1+1,qEe k,(kd,nu),(d0,d1,d2)):Co)) rfl rfl HNW.out HONE.out (by rw[HFL.out];unfold maxLen;omega) (by rw[HFL.out];omega) (by have:=S7.out.sz;omega) ?_;intro v8 w8 hown8 hg8;obtain⟨A8,c8,e8,-⟩:=qAg hown8;subst e8;have hk8:=(EffT.own S7.out.own hg8).keep S7.out.b4 (by decide);have b0:=qAa (i:=0) hk8;have b1:=cell_of_block (i:=0) hk8 rfl;have HP8:=Lib.hid (S7.out.push (by decide) (by decide) (by decide) hown8 hg8);clear hown8 hg8 hk8)
     go_roundw
     case rel=>
      refine⟨k+1,by go_num,by omega,by omega,by go_num,.slice A8 ((qEo::qBq 0 (C.take k)).length+1) c8,?_⟩;rw[HSN.out];exact HP8.out
     case measure=>simp[RowKit.intOf];omega
   · have hall:C.take k=C.take 6:=by
       by_cases e:k<6
       · have hkn2:k=n:=by omega
         rw[List.take_of_length_le (by have:=HN.out;omega),List.take_of_length_le (by have:=HN.out;omega)]
       · rw[show k=6 by omega]
     have hfl:(qEo::qBq 0 (C.take k)).length=k+1:=by rw[List.length_cons,qEu,List.length_take,Nat.min_eq_left (by rw[←HN.out];exact hkn)]
     rw[hall] at hst hfl;rw[hfl] at hst
     have hg2:((k:Int)<n→¬(k:Int)<6):=by omega
     have hid:(k:Int)+1=1+((C.take 6).length:Int):=by
      rw[List.length_cons,qEu] at hfl;omega
     have HST:=Lib.hid hst;have HID:=Lib.hid hid
     clear hst hall hfl hc3 hcm3 hid
     by_cases hki:(k:Int)<n
     · have hk6':¬(k:Int)<6:=hg2 hki;clear hg2
       go_wp2_with fail
       go_meet
       exact⟨_,congrArg (fun i=>Value.int .i64 i) HID.out,HST.out⟩
     · clear hg2
       go_wp2_with fail
       go_meet
       exact⟨_,congrArg (fun i=>Value.int .i64 i) HID.out,HST.out⟩
 case rest =>
  obtain⟨v,rfl,hst⟩:=hcut;obtain⟨A3,c3,rfl,hc3,hcm3⟩:=qAg hst.own;obtain⟨cols0,hcols0⟩:∃l,qEo::qBq 0 (C.take 6)=l:=⟨_,rfl⟩
  have hok0:EvOk 0 cols0 (1+((C.take 6).length:Int)):=by rw[←hcols0];exact qGq (by rw[List.length_take];omega)
  rw[hcols0] at hst;obtain⟨id0,hid0⟩:∃i,1+((C.take 6).length:Int)=i:=⟨_,rfl⟩;rw[hid0] at hok0 ⊢;have a0:=cell_of_block (i:=0) hst.b4 rfl;have a1:=cell_of_block (i:=1) hst.b4 rfl
  have hb0:ChB0 #[.slice A n cap,.slice B m capm] (.slice (some ⟨wc.heap.size,0,none⟩) 1 1) ⟨A3,cols0.length,c3,some ⟨w.heap.size+3,0,none⟩,1,1⟩ [⟨A3,cols0.length,c3,some ⟨w.heap.size+3,0,none⟩,1,1⟩] [(cols0,[0])] cols0 w (wc.alloc (.cells #[.slice A3 cols0.length c3,.slice (some ⟨w.heap.size+3,0,none⟩) 1 1] 25)):=by
   have bl:=(Below.refl wc.heap.size wc).alloc (Nat.le_refl _) (.cells #[.slice A3 cols0.length c3,.slice (some ⟨w.heap.size+3,0,none⟩) 1 1] 25);have h2:=hst.step bl
   have hT:ScT 59 3 wc ⟨A3,cols0.length,c3,some ⟨w.heap.size+3,0,none⟩,1,1⟩ (cols0,[0]):=
     ⟨⟨rfl,rfl,by show cols0.length≤100000;have:=hok0.ln;omega,(show 1≤100000 by omega),Lay.of_own hst.own (Nat.le_refl _),qFp (xs:=intV [0]) hst.kb⟩,TyAt.own hst.own,fun g o e=>by cases e;exact⟨_,hst.kb⟩⟩
   refine⟨h2.b1,h2.b4,⟨rfl,.inr ⟨wc.heap.size,1,_,rfl,hst.sz,qAf _ _,Nat.le_refl _,by unfold maxLen;decide,rfl,rfl⟩⟩,fun i r s h3 h4=>?_,hT.to bl,rfl,h2.bel,h2.sz⟩
   cases i with
   |zero=>cases h3;cases h4;exact hT.to bl
   |succ i=>simp at h3
  have HB0:=Lib.hid hb0;have HOK0:=Lib.hid hok0
  clear hst hb0 hc3 hcm3 hok0
  go_upto_block 2 with fail
  go_cut [8] (fun s8 wx=> ∃r rs,ChB0 #[.slice A n cap,.slice B m capm] s8 r rs ((cols0,[0])::qC3 0 (V.take 7) cols0 id0) (qHt 0 (V.take 7) cols0 id0).1 w wx)
  case first =>
   go_wp2_with fail
   go_loopw [5,8,9] (fun id v i wr=> ∃(k:Nat) (r:SRef) (rs:List SRef),i=.int .i64 k∧k≤m∧k≤7∧id=.int .i64 (qHt 0 (V.take k) cols0 id0).2∧ChB0 #[.slice A n cap,.slice B m capm] v r rs ((cols0,[0])::qC3 0 (V.take k) cols0 id0) (qHt 0 (V.take k) cols0 id0).1 w wr) (fun _ _ i _=>7-(RowKit.intOf i).toNat)
   case atStart=>exact⟨0,_,_,rfl,by omega,by omega,rfl,HB0.out⟩
   case round =>
    obtain⟨k,r,rs,rfl,hkm,hk7,rfl,hst⟩:=hrel;obtain⟨A3',c3',rfl,hc3,hcm3⟩:=qAg hst.own;have y1:=cell_of_block (i:=1) hst.b1 rfl
    by_cases hgo:k<m∧k<7
    · obtain ⟨hlk, hl7⟩:=hgo
      have hki:(k:Int)<m:=by omega
      have hk7':(k:Int)<7:=by omega
      obtain⟨⟨q1,q2,q3⟩,hq⟩:∃x,V[k]?=some x:=⟨_,List.getElem?_eq_getElem (by rw[←HM.out];exact hlk)⟩;obtain⟨p1,p2,p3,p4,p5,p6⟩:=HV.out _ (List.mem_of_getElem? hq);simp only at p1 p2 p3 p4 p5 p6
      have hlen:(V.take k).length=k:=by rw[List.length_take,Nat.min_eq_left (by rw[←HM.out];exact hkm)]
      have hok:=qRi (V.take k) 0 cols0 id0 HOK0.out (by omega)
      have htk:V.take (k+1)=V.take k++[(q1,q2,q3)]:=by rw[List.take_add_one,hq];rfl
      have hver:=qLb (q1,q2,q3) (V.take k) 0 cols0 id0;have hrun:=qLx (q1,q2,q3) (V.take k) 0 cols0 id0;rw[←htk,hlen,Nat.zero_add] at hver hrun;rw[hlen,Nat.zero_add] at hok;obtain⟨vs,hvs⟩:∃x,qC3 0 (V.take k) cols0 id0=x:=⟨_,rfl⟩;obtain⟨st,hst2⟩:∃x,(qHt 0 (V.take k) cols0 id0).1=x:=⟨_,rfl⟩;obtain⟨idk,hidk⟩:∃x,(qHt 0 (V.take k) cols0 id0).2=x:=⟨_,rfl⟩;rw[hst2,hidk] at hver hrun hok;rw[hvs] at hver;rw[hvs,hst2] at hst;obtain⟨g,o,eB,hg⟩:=HB.out.v3 hq;subst eB
      have hrl:rs.length=k+1:=by
       have h1:=hst.len;rw[List.length_cons,←hvs,qIi,hlen] at h1;exact h1
      have HG:=Lib.hid hg;have HS:=Lib.hid hst;have HOK:=Lib.hid hok;have HVER:=Lib.hid hver;have HRUN:=Lib.hid hrun;have HRL:=Lib.hid hrl
      clear hg hst hok hver hrun hrl htk hlen hq hvs hst2 hc3 hcm3;rw[hidk];clear hidk;obtain⟨X,hX⟩:∃X,X=((wr.alloc (.cells #[.int .i64 0] 3)).alloc (.cells #[.slice none 0 0,.slice (some ⟨wr.heap.size,0,none⟩) 1 1] 25)):=⟨_,rfl⟩
      have hcx:ChC 25 59 3 wr (.slice none 0 0) [] X:=by rw[hX];exact ChC.start _ _ _ wr
      have CX:=Lib.hid hcx;have HLK:=Lib.hid hlk
      clear hcx
      go_wp2_with fail
      rw[←hX];clear hX y1
      refine qAh [isV (.pointer (some ⟨w.heap.size,1,none⟩)),isV (.slice (some ⟨g,o,none⟩) m capm),isV (.int .i64 (k:Nat)),isV (.pointer (some ⟨g,o+k*3,none⟩)),isV (.pointer (some ⟨g,o+k*3,none⟩)),isV (.int .i64 q1),isV (.int .i64 (q1%65536)),isV (.pointer (some ⟨w.heap.size,1,none⟩)),isV (.slice (some ⟨g,o,none⟩) m capm),isV (.int .i64 (k:Nat)),isV (.pointer (some ⟨g,o+k*3,none⟩)),isV (.pointer (some ⟨g,o+k*3+1,none⟩)),isV (.int .i64 q2),isV (.int .i64 (q2%65536)),isV (.int .i64 (q1%65536)),isV (.int .i64 (q2%65536))] (by kernel_rfl) (by kernel_rfl) ?_ ?_
      ·
        refine rf (fun ev wo E=>?_) ?_
        · have e1:ev (.tmp 1)=.pointer (some ⟨w.heap.size,0,none⟩):=(E.base 1 rfl).trans rfl;go_simp;exact rv
        refine rf (fun ev wo E=>?_) ?_
        · have e70:ev (.tmp 70)=.pointer (some ⟨w.heap.size,1,none⟩):=E.e 0;have hx1:=cell_of_block (i:=1) (HS.out.to (CX.out.bel.trans (E.bel.mono CX.out.bel.size))).b1 rfl;go_simp;exact rv
        refine rb ?_;refine rf (fun ev wo E=>?_) ?_
        · have e71:ev (.tmp 71)=.slice (some ⟨g,o,none⟩) m capm:=E.e 0;have e72:ev (.tmp 72)=.int .i64 (k:Nat):=E.e 1;have h1:=HLK.out
          have h3:(k:Int)<m:=by omega
          go_simp;exact rv
        refine rf (fun ev wo E=>?_) ?_
        · have e73:ev (.tmp 73)=.pointer (some ⟨g,o+k*3,none⟩):=E.e 0;have ec:=E.const;go_simp;exact rv
        refine rf (fun ev wo E=>?_) ?_
        · have e74:ev (.tmp 74)=.pointer (some ⟨g,o+k*3,none⟩):=E.e 0;have hx0:=((HG.out.below (HS.out.bel.trans ((CX.out.bel.trans (E.bel.mono CX.out.bel.size)).mono HS.out.bel.size))).c0);go_simp;exact rv
        refine rf (fun ev wo E=>?_) ?_
        · have e75:ev (.tmp 75)=.int .i64 q1:=E.e 0;have ef:=E.func;have ec:=E.const;go_simp;refine qAd ((qB0 q1 65536 p1 p2 (by omega) (by omega) wo).mono ?_);rintro e w' ⟨rfl,hb⟩;exact⟨_,rfl,hb,rfl⟩
        refine rf (fun ev wo E=>?_) ?_
        · have e1:ev (.tmp 1)=.pointer (some ⟨w.heap.size,0,none⟩):=(E.base 1 rfl).trans rfl;go_simp;exact rv
        refine rf (fun ev wo E=>?_) ?_
        · have e77:ev (.tmp 77)=.pointer (some ⟨w.heap.size,1,none⟩):=E.e 0;have hx1:=cell_of_block (i:=1) (HS.out.to (CX.out.bel.trans (E.bel.mono CX.out.bel.size))).b1 rfl;go_simp;exact rv
        refine rb ?_;refine rf (fun ev wo E=>?_) ?_
        · have e78:ev (.tmp 78)=.slice (some ⟨g,o,none⟩) m capm:=E.e 0;have e79:ev (.tmp 79)=.int .i64 (k:Nat):=E.e 1;have h1:=HLK.out
          have h3:(k:Int)<m:=by omega
          go_simp;exact rv
        refine rf (fun ev wo E=>?_) ?_
        · have e80:ev (.tmp 80)=.pointer (some ⟨g,o+k*3,none⟩):=E.e 0;have ec:=E.const;go_simp;exact rv
        refine rf (fun ev wo E=>?_) ?_
        · have e81:ev (.tmp 81)=.pointer (some ⟨g,o+k*3+1,none⟩):=E.e 0;have hx1:=((HG.out.below (HS.out.bel.trans ((CX.out.bel.trans (E.bel.mono CX.out.bel.size)).mono HS.out.bel.size))).c1);go_simp;exact rv
        refine rf (fun ev wo E=>?_) ?_
        · have e82:ev (.tmp 82)=.int .i64 q2:=E.e 0;have ef:=E.func;have ec:=E.const;go_simp;refine qAd ((qB0 q2 65536 p3 p4 (by omega) (by omega) wo).mono ?_);rintro e w' ⟨rfl,hb⟩;exact⟨_,rfl,hb,rfl⟩
        refine⟨qBc 0 (qAw.free rfl) (.inr rfl) rfl rfl rfl rfl (qAr _),?_⟩;refine⟨qBc 0 (qAw.free rfl) (.inr rfl) rfl rfl rfl rfl (qAr _),?_⟩;trivial
      · intro wz bz
        (iterate 16 rintro _ rfl);have hcz:=CX.out.to bz;have CZ:=Lib.hid hcz;clear bz CX hcz;simp only[qAq];go_simp
        go_upto_block 4 with fail
        go_cut [] (fun wx=> ∃v10,ChC 25 59 3 wr v10 (qBw (q1%65536) (q2%65536) 0 st) wx)
        case first =>
         have HOKL:=Lib.hid HOK.out.ln;obtain⟨WO,hWO⟩:∃W:World,W=wr:=⟨_,rfl⟩;subst hWO
         go_wp2_with fail
         go_loopw [13] (fun j wx=> ∃(q:Nat) (v10:Value),j=.int .i64 q∧q≤st.length∧ChC 25 59 3 WO v10 (qBw (q1%65536) (q2%65536) 0 (st.take q)) wx) (fun j _=>14-(RowKit.intOf j).toNat)
         case atStart=>exact⟨0,_,rfl,by omega,CZ.out⟩
         case round =>
          obtain⟨q,v10,rfl,hqn,hc⟩:=hrel;have hs4:=HS.out.to hc.bel;have y0:=cell_of_block (i:=0) hs4.b4 rfl;have hrn:r.n=st.length:=hs4.cur.lay.n;have hkl:=HOKL.out
          by_cases hgo:q<st.length
          · have hqi :(q:Int)<(r.n:Int):=by omega
            have hqr:q<r.n:=by omega
            have hq14:(q:Int)<14:=by omega
            obtain⟨c,hcc⟩:∃x,st[q]?=some x:=⟨_,List.getElem?_eq_getElem hgo⟩;obtain⟨g',o',era,hgb,j0,j1,j2,j3,j4,j5,j6⟩:=hs4.cur.lay.la.co hcc
            have htl:(st.take q).length=q:=by rw[List.length_take,Nat.min_eq_left hqn]
            have hks:=qLa (q1%65536) (q2%65536) c (st.take q) 0;rw[htl,Nat.zero_add,show st.take q++[c]=st.take (q+1) by rw[List.take_add_one,hcc];rfl] at hks;have hkk:=qJt (q1%65536) (q2%65536) (st.take q) 0;rw[htl] at hkk;obtain⟨L,hL⟩:∃l,qBw (q1%65536) (q2%65536) 0 (st.take q)=l:=⟨_,rfl⟩;rw[hL] at hc hks hkk;rw[era] at y0;have hbg:=qNv q1 q;have hbw:=qNv q2 q;obtain⟨ci0,cn0,⟨ck0,cu0⟩,cd0,cd1,cd2⟩:=c;simp only at j0 j1 j2 j3 j4 j5 j6;obtain⟨A9,c9,rfl,-,-⟩:=qAg hc.own
            have hq64:¬((64:Nat)≤q):=by omega
            have HC4:=Lib.hid hc;have HKS:=Lib.hid hks;have HKK:=Lib.hid hkk;have HRN:=Lib.hid hrn;have HGO:=Lib.hid hgo
            clear hc hks hkk hrn hs4 hcc htl hL era hgb
            by_cases hout:0<q∧(q1%65536/2^q)%2=1
            · have HKS2:=Lib.hid (HKS.out.trans (by rw[if_pos hout,List.append_nil]));obtain⟨u0,u1⟩:=hout;rw[u1] at hbg
              have hbg2:(bits .and .i64 (q1%65536/2^q) 1==1)=true:=by rw[hbg];rfl
              have u1':((q1%65536/2^q)%2==1)=true:=by rw[u1];rfl
              have u0':(0:Int)<(q:Int):=by omega
              have HC5:=Lib.hid (HC4.out.to ((Below.refl _ _).alloc (Nat.le_refl _) (.cells #[.int .i64 ci0,.string cn0,.int .i64 ck0,.bool cu0,.bool cd0,.int .i64 cd1,.string cd2] 59)));clear hbw
              go_wp2_with fail
              go_roundw
              case rel=>
               refine⟨q+1,.slice A9 L.length c9,by go_num,by have:=HGO.out;omega,?_⟩;rw[HKS2.out];exact HC5.out
              case measure=>simp[RowKit.intOf];omega
            · have hks:=HKS.out;rw[if_neg hout] at hks
              have hstay:q=0∨(0:Int)<(q:Int)∧¬(q1%65536/2^q)%2=1:=by
               by_cases e:q=0
               · exact .inl e
               · exact .inr ⟨by omega,fun e2=>hout ⟨by omega,e2⟩⟩
              clear hout;have HKS3:=Lib.hid hks;clear hks
              rcases hstay with hz|⟨t0,t1⟩
              · have hz1:¬(0:Int)<(q:Int):=by omega
                have hz2:decide ((0:Int)<(q:Int))=false:=by simp;omega
                clear hz hbg
                by_cases hwb:(q2%65536/2^q)%2=1
                · rw [hwb] at hbw
                  have hbw2:(bits .and .i64 (q2%65536/2^q) 1==1)=true:=by rw[hbw];rfl
                  have hwb':((q2%65536/2^q)%2==1)=true:=by rw[hwb];rfl
                  by_cases hk2:ck0=2
                  · subst hk2;have f2:=qAa (i:=2) (qAf wr (.cells #[.int .i64 ci0,.string cn0,.int .i64 2,.bool cu0,.bool cd0,.int .i64 cd1,.string cd2] 59));have HKS2:=Lib.hid (HKS3.out.trans (show L++[qBu (q2%65536) q ((ci0,cn0,(2,cu0),(cd0,cd1,cd2)):Co)]=L++[((ci0,cn0,(3,cu0),(cd0,cd1,cd2)):Co)] by unfold qBu;rw[if_pos ⟨hwb,rfl⟩]));have hc5:=HC4.out.to ((Below.refl _ _).alloc (Nat.le_refl _) (.cells #[.int .i64 ci0,.string cn0,.int .i64 3,.bool cu0,.bool cd0,.int .i64 cd1,.string cd2] 59))
                    have qV:=qAf wr (.cells #[.int .i64 ci0,.string cn0,.int .i64 3,.bool cu0,.bool cd0,.int .i64 cd1,.string cd2] 59);have a0:=cell_of_block (i:=0) hc5.q10 rfl;have b0:=cell_of_block (i:=0) qV rfl;have b1:=cell_of_block (i:=1) qV rfl;have b2:=cell_of_block (i:=2) qV rfl;have b3:=cell_of_block (i:=3) qV rfl;have b4:=cell_of_block (i:=4) qV rfl;have b5:=cell_of_block (i:=5) qV rfl;have b6:=cell_of_block (i:=6) qV rfl
                    have C6:=Lib.hid (hc5.to ((Below.refl _ _).alloc (Nat.le_refl _) (.cells #[.int .i64 ci0,.string cn0,.int .i64 3,.bool cu0,.bool cd0,.int .i64 cd1,.string cd2] 59)));have hnw:=qBo (wr.alloc (.cells #[.int .i64 ci0,.string cn0,.int .i64 3,.bool cu0,.bool cd0,.int .i64 cd1,.string cd2] 59)) (coV ((ci0,cn0,(3,cu0),(cd0,cd1,cd2)):Co)) 59;have HNW:=Lib.hid (show ∀x,x=(wr.alloc (.cells #[.int .i64 ci0,.string cn0,.int .i64 3,.bool cu0,.bool cd0,.int .i64 cd1,.string cd2] 59)).heap.size→Lay _ _ (some ⟨x,0,none⟩) _ from fun x e=>e▸hnw)
                    have HONE:=Lib.hid (show ∀u∈coV ((ci0,cn0,(3,cu0),(cd0,cd1,cd2)):Co),u.oneCell'=true from fun u hu=>qCd [((ci0,cn0,(3,cu0),(cd0,cd1,cd2)):Co)] u (by simpa[colV] using hu));clear hc5 qV hnw
                    go_wp2_with (at_builtin;refine qAk rfl (.tmp 123) (.tmp 125) _ rfl (WO.heap.size+2) 59 ic _ 7 72 qBl ci cz0 cz1 cz2 rfl (by omega) _ _ _ rfl C6.out.own _ _ 1 1 (coV ((ci0,cn0,(3,cu0),(cd0,cd1,cd2)):Co)) rfl rfl (HNW.out _ (by simp[World.size_alloc])) HONE.out (by have:=HKK.out;unfold maxLen;omega) (by have:=HKK.out;omega) C6.out.sz ?_;intro v8 w8 hown8 hg8;obtain⟨A8,c8,e8,-⟩:=qAg hown8;subst e8;have he8:=(EffT.own C6.out.own hg8).keep C6.out.q10 (by decide);have g0:=qAa (i:=0) he8;have g1:=cell_of_block (i:=0) he8 rfl;have HP8:=Lib.hid (C6.out.push (by decide) (by decide) hown8 hg8);clear hown8 hg8 he8)
                    go_roundw
                    case rel=>
                     refine⟨q+1,.slice A8 (L.length+1) c8,by go_num,by have:=HGO.out;omega,?_⟩;rw[HKS2.out];exact HP8.out
                    case measure=>simp[RowKit.intOf];omega
                  · have hk2':(ck0==2)=false:=by simpa using hk2
                    have HKS2:=Lib.hid (HKS3.out.trans (show L++[qBu (q2%65536) q ((ci0,cn0,(ck0,cu0),(cd0,cd1,cd2)):Co)]=L++[((ci0,cn0,(ck0,cu0),(cd0,cd1,cd2)):Co)] by unfold qBu;rw[if_neg (fun e=>hk2 e.2)]));have hc5:=HC4.out.to ((Below.refl _ _).alloc (Nat.le_refl _) (.cells #[.int .i64 ci0,.string cn0,.int .i64 ck0,.bool cu0,.bool cd0,.int .i64 cd1,.string cd2] 59));have qV:=qAf wr (.cells #[.int .i64 ci0,.string cn0,.int .i64 ck0,.bool cu0,.bool cd0,.int .i64 cd1,.string cd2] 59);have a0:=cell_of_block (i:=0) hc5.q10 rfl
                    have b0:=cell_of_block (i:=0) qV rfl;have b1:=cell_of_block (i:=1) qV rfl;have b2:=cell_of_block (i:=2) qV rfl;have b3:=cell_of_block (i:=3) qV rfl;have b4:=cell_of_block (i:=4) qV rfl;have b5:=cell_of_block (i:=5) qV rfl;have b6:=cell_of_block (i:=6) qV rfl;have C6:=Lib.hid (hc5.to ((Below.refl _ _).alloc (Nat.le_refl _) (.cells #[.int .i64 ci0,.string cn0,.int .i64 ck0,.bool cu0,.bool cd0,.int .i64 cd1,.string cd2] 59)))
                    have hnw:=qBo (wr.alloc (.cells #[.int .i64 ci0,.string cn0,.int .i64 ck0,.bool cu0,.bool cd0,.int .i64 cd1,.string cd2] 59)) (coV ((ci0,cn0,(ck0,cu0),(cd0,cd1,cd2)):Co)) 59;have HNW:=Lib.hid (show ∀x,x=(wr.alloc (.cells #[.int .i64 ci0,.string cn0,.int .i64 ck0,.bool cu0,.bool cd0,.int .i64 cd1,.string cd2] 59)).heap.size→Lay _ _ (some ⟨x,0,none⟩) _ from fun x e=>e▸hnw)
                    have HONE:=Lib.hid (show ∀u∈coV ((ci0,cn0,(ck0,cu0),(cd0,cd1,cd2)):Co),u.oneCell'=true from fun u hu=>qCd [((ci0,cn0,(ck0,cu0),(cd0,cd1,cd2)):Co)] u (by simpa[colV] using hu));clear hc5 qV hnw
                    go_wp2_with (at_builtin;refine qAk rfl (.tmp 123) (.tmp 125) _ rfl (WO.heap.size+2) 59 ic _ 7 72 qBl ci cz0 cz1 cz2 rfl (by omega) _ _ _ rfl C6.out.own _ _ 1 1 (coV ((ci0,cn0,(ck0,cu0),(cd0,cd1,cd2)):Co)) rfl rfl (HNW.out _ (by simp[World.size_alloc])) HONE.out (by have:=HKK.out;unfold maxLen;omega) (by have:=HKK.out;omega) C6.out.sz ?_;intro v8 w8 hown8 hg8;obtain⟨A8,c8,e8,-⟩:=qAg hown8;subst e8;have he8:=(EffT.own C6.out.own hg8).keep C6.out.q10 (by decide);have g0:=qAa (i:=0) he8;have g1:=cell_of_block (i:=0) he8 rfl;have HP8:=Lib.hid (C6.out.push (by decide) (by decide) hown8 hg8);clear hown8 hg8 he8)
                    go_roundw
                    case rel=>
                     refine⟨q+1,.slice A8 (L.length+1) c8,by go_num,by have:=HGO.out;omega,?_⟩;rw[HKS2.out];exact HP8.out
                    case measure=>simp[RowKit.intOf];omega
                · have hbw2:(bits .and .i64 (q2%65536/2^q) 1==1)=false:=by rw[hbw];simpa using hwb
                  have hbw3:¬bits .and .i64 (q2%65536/2^q) 1=1:=by rw[hbw];exact hwb
                  have hwb':((q2%65536/2^q)%2==1)=false:=by simpa using hwb
                  clear hbw;have HKS2:=Lib.hid (HKS3.out.trans (show L++[qBu (q2%65536) q ((ci0,cn0,(ck0,cu0),(cd0,cd1,cd2)):Co)]=L++[((ci0,cn0,(ck0,cu0),(cd0,cd1,cd2)):Co)] by unfold qBu;rw[if_neg (fun e=>hwb e.1)]));have hc5:=HC4.out.to ((Below.refl _ _).alloc (Nat.le_refl _) (.cells #[.int .i64 ci0,.string cn0,.int .i64 ck0,.bool cu0,.bool cd0,.int .i64 cd1,.string cd2] 59));have qV:=qAf wr (.cells #[.int .i64 ci0,.string cn0,.int .i64 ck0,.bool cu0,.bool cd0,.int .i64 cd1,.string cd2] 59);have a0:=cell_of_block (i:=0) hc5.q10 rfl
                  have b0:=cell_of_block (i:=0) qV rfl;have b1:=cell_of_block (i:=1) qV rfl;have b2:=cell_of_block (i:=2) qV rfl;have b3:=cell_of_block (i:=3) qV rfl;have b4:=cell_of_block (i:=4) qV rfl;have b5:=cell_of_block (i:=5) qV rfl;have b6:=cell_of_block (i:=6) qV rfl;have C6:=Lib.hid (hc5.to ((Below.refl _ _).alloc (Nat.le_refl _) (.cells #[.int .i64 ci0,.string cn0,.int .i64 ck0,.bool cu0,.bool cd0,.int .i64 cd1,.string cd2] 59)))
                  have hnw:=qBo (wr.alloc (.cells #[.int .i64 ci0,.string cn0,.int .i64 ck0,.bool cu0,.bool cd0,.int .i64 cd1,.string cd2] 59)) (coV ((ci0,cn0,(ck0,cu0),(cd0,cd1,cd2)):Co)) 59;have HNW:=Lib.hid (show ∀x,x=(wr.alloc (.cells #[.int .i64 ci0,.string cn0,.int .i64 ck0,.bool cu0,.bool cd0,.int .i64 cd1,.string cd2] 59)).heap.size→Lay _ _ (some ⟨x,0,none⟩) _ from fun x e=>e▸hnw)
                  have HONE:=Lib.hid (show ∀u∈coV ((ci0,cn0,(ck0,cu0),(cd0,cd1,cd2)):Co),u.oneCell'=true from fun u hu=>qCd [((ci0,cn0,(ck0,cu0),(cd0,cd1,cd2)):Co)] u (by simpa[colV] using hu));clear hc5 qV hnw
                  go_wp2_with (at_builtin;refine qAk rfl (.tmp 123) (.tmp 125) _ rfl (WO.heap.size+2) 59 ic _ 7 72 qBl ci cz0 cz1 cz2 rfl (by omega) _ _ _ rfl C6.out.own _ _ 1 1 (coV ((ci0,cn0,(ck0,cu0),(cd0,cd1,cd2)):Co)) rfl rfl (HNW.out _ (by simp[World.size_alloc])) HONE.out (by have:=HKK.out;unfold maxLen;omega) (by have:=HKK.out;omega) C6.out.sz ?_;intro v8 w8 hown8 hg8;obtain⟨A8,c8,e8,-⟩:=qAg hown8;subst e8;have he8:=(EffT.own C6.out.own hg8).keep C6.out.q10 (by decide);have g0:=qAa (i:=0) he8;have g1:=cell_of_block (i:=0) he8 rfl;have HP8:=Lib.hid (C6.out.push (by decide) (by decide) hown8 hg8);clear hown8 hg8 he8)
                  go_roundw
                  case rel=>
                   refine⟨q+1,.slice A8 (L.length+1) c8,by go_num,by have:=HGO.out;omega,?_⟩;rw[HKS2.out];exact HP8.out
                  case measure=>simp[RowKit.intOf];omega
              · have hbg2:(bits .and .i64 (q1%65536/2^q) 1==1)=false:=by rw[hbg];simpa using t1
                have hbg3:¬bits .and .i64 (q1%65536/2^q) 1=1:=by rw[hbg];exact t1
                have t1':((q1%65536/2^q)%2==1)=false:=by simpa using t1
                clear hbg
                by_cases hwb:(q2%65536/2^q)%2=1
                · rw [hwb] at hbw
                  have hbw2:(bits .and .i64 (q2%65536/2^q) 1==1)=true:=by rw[hbw];rfl
                  have hwb':((q2%65536/2^q)%2==1)=true:=by rw[hwb];rfl
                  by_cases hk2:ck0=2
                  · subst hk2;have f2:=qAa (i:=2) (qAf wr (.cells #[.int .i64 ci0,.string cn0,.int .i64 2,.bool cu0,.bool cd0,.int .i64 cd1,.string cd2] 59));have HKS2:=Lib.hid (HKS3.out.trans (show L++[qBu (q2%65536) q ((ci0,cn0,(2,cu0),(cd0,cd1,cd2)):Co)]=L++[((ci0,cn0,(3,cu0),(cd0,cd1,cd2)):Co)] by unfold qBu;rw[if_pos ⟨hwb,rfl⟩]));have hc5:=HC4.out.to ((Below.refl _ _).alloc (Nat.le_refl _) (.cells #[.int .i64 ci0,.string cn0,.int .i64 3,.bool cu0,.bool cd0,.int .i64 cd1,.string cd2] 59))
                    have qV:=qAf wr (.cells #[.int .i64 ci0,.string cn0,.int .i64 3,.bool cu0,.bool cd0,.int .i64 cd1,.string cd2] 59);have a0:=cell_of_block (i:=0) hc5.q10 rfl;have b0:=cell_of_block (i:=0) qV rfl;have b1:=cell_of_block (i:=1) qV rfl;have b2:=cell_of_block (i:=2) qV rfl;have b3:=cell_of_block (i:=3) qV rfl;have b4:=cell_of_block (i:=4) qV rfl;have b5:=cell_of_block (i:=5) qV rfl;have b6:=cell_of_block (i:=6) qV rfl
                    have C6:=Lib.hid (hc5.to ((Below.refl _ _).alloc (Nat.le_refl _) (.cells #[.int .i64 ci0,.string cn0,.int .i64 3,.bool cu0,.bool cd0,.int .i64 cd1,.string cd2] 59)));have hnw:=qBo (wr.alloc (.cells #[.int .i64 ci0,.string cn0,.int .i64 3,.bool cu0,.bool cd0,.int .i64 cd1,.string cd2] 59)) (coV ((ci0,cn0,(3,cu0),(cd0,cd1,cd2)):Co)) 59;have HNW:=Lib.hid (show ∀x,x=(wr.alloc (.cells #[.int .i64 ci0,.string cn0,.int .i64 3,.bool cu0,.bool cd0,.int .i64 cd1,.string cd2] 59)).heap.size→Lay _ _ (some ⟨x,0,none⟩) _ from fun x e=>e▸hnw)
                    have HONE:=Lib.hid (show ∀u∈coV ((ci0,cn0,(3,cu0),(cd0,cd1,cd2)):Co),u.oneCell'=true from fun u hu=>qCd [((ci0,cn0,(3,cu0),(cd0,cd1,cd2)):Co)] u (by simpa[colV] using hu));clear hc5 qV hnw
                    go_wp2_with (at_builtin;refine qAk rfl (.tmp 123) (.tmp 125) _ rfl (WO.heap.size+2) 59 ic _ 7 72 qBl ci cz0 cz1 cz2 rfl (by omega) _ _ _ rfl C6.out.own _ _ 1 1 (coV ((ci0,cn0,(3,cu0),(cd0,cd1,cd2)):Co)) rfl rfl (HNW.out _ (by simp[World.size_alloc])) HONE.out (by have:=HKK.out;unfold maxLen;omega) (by have:=HKK.out;omega) C6.out.sz ?_;intro v8 w8 hown8 hg8;obtain⟨A8,c8,e8,-⟩:=qAg hown8;subst e8;have he8:=(EffT.own C6.out.own hg8).keep C6.out.q10 (by decide);have g0:=qAa (i:=0) he8;have g1:=cell_of_block (i:=0) he8 rfl;have HP8:=Lib.hid (C6.out.push (by decide) (by decide) hown8 hg8);clear hown8 hg8 he8)
                    go_roundw
                    case rel=>
                     refine⟨q+1,.slice A8 (L.length+1) c8,by go_num,by have:=HGO.out;omega,?_⟩;rw[HKS2.out];exact HP8.out
                    case measure=>simp[RowKit.intOf];omega
                  · have hk2':(ck0==2)=false:=by simpa using hk2
                    have HKS2:=Lib.hid (HKS3.out.trans (show L++[qBu (q2%65536) q ((ci0,cn0,(ck0,cu0),(cd0,cd1,cd2)):Co)]=L++[((ci0,cn0,(ck0,cu0),(cd0,cd1,cd2)):Co)] by unfold qBu;rw[if_neg (fun e=>hk2 e.2)]));have hc5:=HC4.out.to ((Below.refl _ _).alloc (Nat.le_refl _) (.cells #[.int .i64 ci0,.string cn0,.int .i64 ck0,.bool cu0,.bool cd0,.int .i64 cd1,.string cd2] 59));have qV:=qAf wr (.cells #[.int .i64 ci0,.string cn0,.int .i64 ck0,.bool cu0,.bool cd0,.int .i64 cd1,.string cd2] 59);have a0:=cell_of_block (i:=0) hc5.q10 rfl
                    have b0:=cell_of_block (i:=0) qV rfl;have b1:=cell_of_block (i:=1) qV rfl;have b2:=cell_of_block (i:=2) qV rfl;have b3:=cell_of_block (i:=3) qV rfl;have b4:=cell_of_block (i:=4) qV rfl;have b5:=cell_of_block (i:=5) qV rfl;have b6:=cell_of_block (i:=6) qV rfl;have C6:=Lib.hid (hc5.to ((Below.refl _ _).alloc (Nat.le_refl _) (.cells #[.int .i64 ci0,.string cn0,.int .i64 ck0,.bool cu0,.bool cd0,.int .i64 cd1,.string cd2] 59)))
                    have hnw:=qBo (wr.alloc (.cells #[.int .i64 ci0,.string cn0,.int .i64 ck0,.bool cu0,.bool cd0,.int .i64 cd1,.string cd2] 59)) (coV ((ci0,cn0,(ck0,cu0),(cd0,cd1,cd2)):Co)) 59;have HNW:=Lib.hid (show ∀x,x=(wr.alloc (.cells #[.int .i64 ci0,.string cn0,.int .i64 ck0,.bool cu0,.bool cd0,.int .i64 cd1,.string cd2] 59)).heap.size→Lay _ _ (some ⟨x,0,none⟩) _ from fun x e=>e▸hnw)
                    have HONE:=Lib.hid (show ∀u∈coV ((ci0,cn0,(ck0,cu0),(cd0,cd1,cd2)):Co),u.oneCell'=true from fun u hu=>qCd [((ci0,cn0,(ck0,cu0),(cd0,cd1,cd2)):Co)] u (by simpa[colV] using hu));clear hc5 qV hnw
                    go_wp2_with (at_builtin;refine qAk rfl (.tmp 123) (.tmp 125) _ rfl (WO.heap.size+2) 59 ic _ 7 72 qBl ci cz0 cz1 cz2 rfl (by omega) _ _ _ rfl C6.out.own _ _ 1 1 (coV ((ci0,cn0,(ck0,cu0),(cd0,cd1,cd2)):Co)) rfl rfl (HNW.out _ (by simp[World.size_alloc])) HONE.out (by have:=HKK.out;unfold maxLen;omega) (by have:=HKK.out;omega) C6.out.sz ?_;intro v8 w8 hown8 hg8;obtain⟨A8,c8,e8,-⟩:=qAg hown8;subst e8;have he8:=(EffT.own C6.out.own hg8).keep C6.out.q10 (by decide);have g0:=qAa (i:=0) he8;have g1:=cell_of_block (i:=0) he8 rfl;have HP8:=Lib.hid (C6.out.push (by decide) (by decide) hown8 hg8);clear hown8 hg8 he8)
                    go_roundw
                    case rel=>
                     refine⟨q+1,.slice A8 (L.length+1) c8,by go_num,by have:=HGO.out;omega,?_⟩;rw[HKS2.out];exact HP8.out
                    case measure=>simp[RowKit.intOf];omega
                · have hbw2:(bits .and .i64 (q2%65536/2^q) 1==1)=false:=by rw[hbw];simpa using hwb
                  have hbw3:¬bits .and .i64 (q2%65536/2^q) 1=1:=by rw[hbw];exact hwb
                  have hwb':((q2%65536/2^q)%2==1)=false:=by simpa using hwb
                  clear hbw;have HKS2:=Lib.hid (HKS3.out.trans (show L++[qBu (q2%65536) q ((ci0,cn0,(ck0,cu0),(cd0,cd1,cd2)):Co)]=L++[((ci0,cn0,(ck0,cu0),(cd0,cd1,cd2)):Co)] by unfold qBu;rw[if_neg (fun e=>hwb e.1)]));have hc5:=HC4.out.to ((Below.refl _ _).alloc (Nat.le_refl _) (.cells #[.int .i64 ci0,.string cn0,.int .i64 ck0,.bool cu0,.bool cd0,.int .i64 cd1,.string cd2] 59));have qV:=qAf wr (.cells #[.int .i64 ci0,.string cn0,.int .i64 ck0,.bool cu0,.bool cd0,.int .i64 cd1,.string cd2] 59);have a0:=cell_of_block (i:=0) hc5.q10 rfl
                  have b0:=cell_of_block (i:=0) qV rfl;have b1:=cell_of_block (i:=1) qV rfl;have b2:=cell_of_block (i:=2) qV rfl;have b3:=cell_of_block (i:=3) qV rfl;have b4:=cell_of_block (i:=4) qV rfl;have b5:=cell_of_block (i:=5) qV rfl;have b6:=cell_of_block (i:=6) qV rfl;have C6:=Lib.hid (hc5.to ((Below.refl _ _).alloc (Nat.le_refl _) (.cells #[.int .i64 ci0,.string cn0,.int .i64 ck0,.bool cu0,.bool cd0,.int .i64 cd1,.string cd2] 59)))
                  have hnw:=qBo (wr.alloc (.cells #[.int .i64 ci0,.string cn0,.int .i64 ck0,.bool cu0,.bool cd0,.int .i64 cd1,.string cd2] 59)) (coV ((ci0,cn0,(ck0,cu0),(cd0,cd1,cd2)):Co)) 59;have HNW:=Lib.hid (show ∀x,x=(wr.alloc (.cells #[.int .i64 ci0,.string cn0,.int .i64 ck0,.bool cu0,.bool cd0,.int .i64 cd1,.string cd2] 59)).heap.size→Lay _ _ (some ⟨x,0,none⟩) _ from fun x e=>e▸hnw)
                  have HONE:=Lib.hid (show ∀u∈coV ((ci0,cn0,(ck0,cu0),(cd0,cd1,cd2)):Co),u.oneCell'=true from fun u hu=>qCd [((ci0,cn0,(ck0,cu0),(cd0,cd1,cd2)):Co)] u (by simpa[colV] using hu));clear hc5 qV hnw
                  go_wp2_with (at_builtin;refine qAk rfl (.tmp 123) (.tmp 125) _ rfl (WO.heap.size+2) 59 ic _ 7 72 qBl ci cz0 cz1 cz2 rfl (by omega) _ _ _ rfl C6.out.own _ _ 1 1 (coV ((ci0,cn0,(ck0,cu0),(cd0,cd1,cd2)):Co)) rfl rfl (HNW.out _ (by simp[World.size_alloc])) HONE.out (by have:=HKK.out;unfold maxLen;omega) (by have:=HKK.out;omega) C6.out.sz ?_;intro v8 w8 hown8 hg8;obtain⟨A8,c8,e8,-⟩:=qAg hown8;subst e8;have he8:=(EffT.own C6.out.own hg8).keep C6.out.q10 (by decide);have g0:=qAa (i:=0) he8;have g1:=cell_of_block (i:=0) he8 rfl;have HP8:=Lib.hid (C6.out.push (by decide) (by decide) hown8 hg8);clear hown8 hg8 he8)
                  go_roundw
                  case rel=>
                   refine⟨q+1,.slice A8 (L.length+1) c8,by go_num,by have:=HGO.out;omega,?_⟩;rw[HKS2.out];exact HP8.out
                  case measure=>simp[RowKit.intOf];omega
          · have hqe:q=st.length:=by omega
            have hst9:st.take q=st:=List.take_of_length_le (by omega);rw[hst9] at hc;have HC4:=Lib.hid hc
            have hqi:¬(q:Int)<(r.n:Int):=by omega
            clear hc hs4 hst9 hgo hrn hkl
            go_wp2_with fail
            go_meet
            exact⟨v10,HC4.out⟩
        case rest=>
         obtain⟨v10,hc⟩:=hcut;have hs3:=HS.out.to hc.bel;have hg3:=HG.out.below hs3.bel;have y1:=cell_of_block (i:=1) hs3.b1 rfl;have c2:=hg3.c2
         have hkl:(qBw (q1%65536) (q2%65536) 0 st).length≤14:=by
          have h1:=qJt (q1%65536) (q2%65536) st 0;have h2:=HOK.out.ln;omega
         by_cases hodd:q3%2=0
         · have ht:q3.tmod 2=0:=Int.tmod_eq_zero_of_dvd (Int.dvd_of_emod_eq_zero hodd)
           have hst3:qCh k (q1,q2,q3) st idk=(qBw (q1%65536) (q2%65536) 0 st,idk):=by unfold qCh;rw[if_pos hodd]
           obtain⟨A10,c10,rfl,hT⟩:=hc.sc (by omega);have a0:=cell_of_block (i:=0) hc.q10 rfl;have a1:=cell_of_block (i:=1) hc.q10 rfl;have f0:=qAa (i:=0) hs3.b4;have f1:=qAa (i:=1) hs3.b4;have d0:=cell_of_block (i:=0) hs3.b4 rfl;have d1:=cell_of_block (i:=1) hs3.b4 rfl;obtain⟨L10,hL10⟩:∃l,qBw (q1%65536) (q2%65536) 0 st=l:=⟨_,rfl⟩;rw[hL10] at hT a0 hst3;have hn:=hs3.next (by decide) (by decide) (by decide) hT;have e0:=cell_of_block (i:=0) hn.b4 rfl;have e1:=cell_of_block (i:=1) hn.b4 rfl
           have hn5:=hn.to ((Below.refl _ _).alloc (Nat.le_refl _) (.cells #[.slice A10 L10.length c10,.slice (some ⟨wr.heap.size,0,none⟩) 1 1] 25));have hnw:=qBo ((wc.setCell ⟨w.heap.size+4,0,none⟩ (.slice A10 L10.length c10)).setCell ⟨w.heap.size+4,1,none⟩ (.slice (some ⟨wr.heap.size,0,none⟩) 1 1)) (SRef.vs ⟨A10,L10.length,c10,some ⟨wr.heap.size,0,none⟩,1,1⟩) 25;simp only[World.size_setCell] at hnw
           have hone:∀u∈SRef.vs ⟨A10,L10.length,c10,some ⟨wr.heap.size,0,none⟩,1,1⟩,u.oneCell'=true:=fun u hu=>qNo [⟨A10,L10.length,c10,some ⟨wr.heap.size,0,none⟩,1,1⟩] u (by simpa[scsV] using hu)
           have N5:=Lib.hid hn5;have HNW:=Lib.hid hnw;have HONE:=Lib.hid hone;have HST3:=Lib.hid hst3
           clear hc hs3 hg3 hn hn5 hnw hone hst3 hT hL10 hkl hodd
           go_wp2_with (at_builtin;refine qAk rfl (.tmp 164) (.tmp 166) _ rfl (w.heap.size+5) 25 sc _ 2 48 Tryz.underlying38 si sz0 sz1 sz2 rfl (by omega) _ _ _ rfl N5.out.own _ (some ⟨wc.heap.size,0,none⟩) 1 1 (SRef.vs ⟨A10,L10.length,c10,some ⟨wr.heap.size,0,none⟩,1,1⟩) rfl rfl HNW.out HONE.out (by have:=HRL.out;unfold maxLen;omega) (by have:=HRL.out;omega) (by have:=N5.out.sz;omega) ?_;intro v8 w8 hown8 hg8;obtain⟨A8,c8,e8,-⟩:=qAg hown8;subst e8;have HP8:=Lib.hid (N5.out.push (by decide) (by decide) (by decide) hown8 hg8);clear hown8 hg8)
           go_roundw
           case rel=>
            refine⟨k+1,⟨A10,L10.length,c10,some ⟨wr.heap.size,0,none⟩,1,1⟩,rs++[⟨A10,L10.length,c10,some ⟨wr.heap.size,0,none⟩,1,1⟩],by go_num,by omega,by omega,?_,?_⟩
            · rw[HRUN.out,HST3.out]
            · rw[HRUN.out,HVER.out,HST3.out];exact HP8.out
           case measure=>simp[RowKit.intOf];omega
         · have ht:¬q3.tmod 2=0:=fun e=>hodd (Int.emod_eq_zero_of_dvd (Int.dvd_of_tmod_eq_zero e))
           have hst3:qCh k (q1,q2,q3) st idk=(qBw (q1%65536) (q2%65536) 0 st++[qE3 (idk+1+q1%65536%2) (qGj k) (q3.tdiv 2%8)],idk+1+q1%65536%2):=by unfold qCh;rw[if_neg hodd]
           obtain⟨z1,z2⟩:=zAj p5 p6
           obtain⟨i1,i2⟩:1≤idk∧idk≤21:=by
            obtain⟨cc,rr,he,hc1,_⟩:=HOK.out.hd;have h1:=(HOK.out.le cc (by rw[he];simp)).2;have h2:=HOK.out.ib;omega
           have hkd:=qRb (q3.tdiv 2) z1 z2 wc;unfold qE3 at hkd;obtain⟨kd,hkd1⟩:∃q,evKd (q3.tdiv 2%8)=q:=⟨_,rfl⟩;obtain⟨nu,hnu⟩:∃q,evNu (q3.tdiv 2%8)=q:=⟨_,rfl⟩;obtain⟨df,hdf⟩:∃q,evDf (q3.tdiv 2%8)=q:=⟨_,rfl⟩;rw[hkd1,hnu,hdf] at hkd;obtain⟨d0,d1,d2⟩:=df;simp only[coA] at hkd
           have hev:qE3 (idk+1+q1%65536%2) (qGj k) (q3.tdiv 2%8)=(idk+1+q1%65536%2,qGj k,(kd,nu),(d0,d1,d2)):=by unfold qE3;rw[hkd1,hnu,hdf]
           rw[hev] at hst3;obtain⟨L10,hL10⟩:∃l,qBw (q1%65536) (q2%65536) 0 st=l:=⟨_,rfl⟩;rw[hL10] at hc hst3 hkl
           have htb:(q3.tmod 2 != 0)=true:=by simpa using ht
           have HKD:=Lib.hid hkd;have HC3:=Lib.hid hc;have HST3:=Lib.hid hst3;have HKL:=Lib.hid hkl
           clear hkd hc hs3 hg3 hst3 hkl hodd hkd1 hnu hdf hev hL10
           go_wp2_with fail
           refine HKD.out.mono ?_;rintro en w5 ⟨rfl,b5⟩;have b6:=b5.alloc b5.size (.cells #[.int .i64 0,.string ⟨#[]⟩,.int .i64 kd,.bool nu,.bool d0,.int .i64 d1,.string d2] 59);have qq:=qAf w5 (.cells #[.int .i64 0,.string ⟨#[]⟩,.int .i64 kd,.bool nu,.bool d0,.int .i64 d1,.string d2] 59)
           have B6:=Lib.hid b6;have QQ:=Lib.hid qq;have Z5:=Lib.hid b5.size
           clear b5 b6 qq
           go_wp2_with fail
           refine(qB0 (q1%65536) 2 (by omega) (by omega) (by omega) (by omega) _).mono ?_;rintro en w7 ⟨rfl,b7⟩
           have C7:=Lib.hid ((HC3.out.to B6.out).to b7);have Q7:=Lib.hid (qAb QQ.out b7)
           clear b7 B6 QQ;have hw1:IntKind.i64.wrap ((k:Int)+1)=(k:Int)+1:=IntWalk.i64_in _ (by omega)
           have h2:(k:Int)+1≤7:=by omega
           have h3:(0:Int)≤(k:Int)+1:=by omega
           have h4:((k:Int)+1).toNat=k+1:=by omega
           have h5:k≤k+1:=by omega
           have h6:k+1≤7:=by omega
           have h7:(k:Int)≤(k:Int)+1:=by omega
           have h8:¬(9223372036854775807<1+(min (k+1) 7-k)):=by omega
           have f0:=qAa (i:=0) Q7.out;have f1:=qAa (i:=1) Q7.out;have m0:=cell_of_block (i:=0) Q7.out rfl;have m1:=cell_of_block (i:=1) Q7.out rfl
           go_wp2_with fail
           go_region_with fail
           have hnm:=qXc hl7
           have hq2:q1%65536%2=q1%2:=by omega
           obtain⟨V8,hV8⟩:∃V,V=((w7.setCell ⟨w5.heap.size,0,none⟩ (.int .i64 (idk+1+q1%2))).setCell ⟨w5.heap.size,1,none⟩ (.string ((⟨#[110]⟩:ByteArray)++ByteArray.extract ⟨#[97,98,99,100,101,102,103]⟩ k (k+1)))).drew:=⟨_,rfl⟩
           have hne:v10.ownBlock≠some w5.heap.size:=fun e=>by have:=(World.ownsRow.lt HC3.out.own _ e).2;have:=Z5.out;omega
           have hc8:ChC 25 59 3 wr v10 L10 V8:=by
            have h:=(C7.out.far (b:=w5.heap.size) (by have:=HC3.out.sz;have:=Z5.out;omega) hne 0 (.int .i64 (idk+1+q1%2))).far (b:=w5.heap.size) (by have:=HC3.out.sz;have:=Z5.out;omega) hne 1 (.string ((⟨#[110]⟩:ByteArray)++ByteArray.extract ⟨#[97,98,99,100,101,102,103]⟩ k (k+1)));have h2:=h.to (qAc (Below.refl _ _) 1);rw[hV8];exact h2
           have qV:V8.heap[w5.heap.size]?=some (.cells #[.int .i64 (idk+1+q1%2),.string (qGj k),.int .i64 kd,.bool nu,.bool d0,.int .i64 d1,.string d2] 59 (0,0)):=by
            rw[hV8,hnm]
            show((w7.setCell ⟨w5.heap.size,0,none⟩ (.int .i64 (idk+1+q1%2))).setCell ⟨w5.heap.size,1,none⟩ (.string (qGj k))).heap[w5.heap.size]?=_
            have:=Q7.out
            simp[World.setCell,Array.getElem?_modify,this]
           rw[←hV8];clear hV8 hnm f0 f1 m0 m1 hw1 h2 h3 h4 h5 h6 h7 h8 hne C7 Q7 Z5 HC3;have a0:=cell_of_block (i:=0) hc8.q10 rfl;have b0:=cell_of_block (i:=0) qV rfl;have b1:=cell_of_block (i:=1) qV rfl;have b2:=cell_of_block (i:=2) qV rfl;have b3:=cell_of_block (i:=3) qV rfl;have b4:=cell_of_block (i:=4) qV rfl;have b5:=cell_of_block (i:=5) qV rfl;have b6:=cell_of_block (i:=6) qV rfl
           have hc9:=hc8.to ((Below.refl V8.heap.size V8).alloc (Nat.le_refl _) (.cells #[.int .i64 (idk+1+q1%2),.string (qGj k),.int .i64 kd,.bool nu,.bool d0,.int .i64 d1,.string d2] 59))
           have hone:∀u∈coV ((idk+1+q1%2,qGj k,(kd,nu),(d0,d1,d2)):Co),u.oneCell'=true:=fun u hu=>qCd [((idk+1+q1%2,qGj k,(kd,nu),(d0,d1,d2)):Co)] u (by simpa[colV] using hu)
           have hone2:∀(a:Option Addr) (x y:Nat),∀u∈SRef.vs ⟨a,x,y,some ⟨wr.heap.size,0,none⟩,1,1⟩,u.oneCell'=true:=fun a x y u hu=>qNo [⟨a,x,y,some ⟨wr.heap.size,0,none⟩,1,1⟩] u (by simpa[scsV] using hu)
           obtain⟨A10,c10,rfl,-,-⟩:=qAg hc8.own
           have C9:=Lib.hid hc9;have HNW:=Lib.hid (qBo V8 (coV ((idk+1+q1%2,qGj k,(kd,nu),(d0,d1,d2)):Co)) 59);have HONE:=Lib.hid hone;have HO2:=Lib.hid hone2
           rw[hq2] at HST3;clear hc8 qV hc9 hone hone2 hq2
           go_wp2_with (first
             |(at_builtin;refine qAk rfl (.tmp 158) (.tmp 160) _ rfl (wr.heap.size+2) 59 ic _ 7 72 qBl ci cz0 cz1 cz2 rfl (by omega) _ _ _ rfl C9.out.own _ (some ⟨V8.heap.size,0,none⟩) 1 1 (coV ((idk+1+q1%2,qGj k,(kd,nu),(d0,d1,d2)):Co)) rfl rfl HNW.out HONE.out (by have:=HKL.out;unfold maxLen;omega) (by have:=HKL.out;omega) C9.out.sz ?_;intro v8 w8 hown8 hg8;obtain⟨A8,c8,e8,-⟩:=qAg hown8;subst e8;have he8:=(EffT.own C9.out.own hg8).keep C9.out.q10 (by decide);have g0:=qAa (i:=0) he8;have g1:=cell_of_block (i:=0) he8 rfl;have hc:=C9.out.push (by decide) (by decide) hown8 hg8;have hs3:=HS.out.to hc.bel;have hT:=hc.sc2 (by rw[List.length_append];rfl) (by have:=HKL.out;omega);have n0:=cell_of_block (i:=0) hc.q10 rfl;have n1:=cell_of_block (i:=1) hc.q10 rfl;have f0:=qAa (i:=0) hs3.b4;have f1:=qAa (i:=1) hs3.b4;have r0:=cell_of_block (i:=0) hs3.b4 rfl;have r1:=cell_of_block (i:=1) hs3.b4 rfl;have hn:=hs3.next (by decide) (by decide) (by decide) hT;have e0:=cell_of_block (i:=0) hn.b4 rfl;have e1:=cell_of_block (i:=1) hn.b4 rfl;have hn5:=hn.to ((Below.refl _ _).alloc (Nat.le_refl _) (.cells #[.slice A8 (L10.length+1) c8,.slice (some ⟨wr.heap.size,0,none⟩) 1 1] 25));have hnw:=qBo (((w8.setCell ⟨wr.heap.size+1,0,none⟩ (.slice A8 (L10.length+1) c8)).setCell ⟨w.heap.size+4,0,none⟩ (.slice A8 (L10.length+1) c8)).setCell ⟨w.heap.size+4,1,none⟩ (.slice (some ⟨wr.heap.size,0,none⟩) 1 1)) (SRef.vs ⟨A8,L10.length+1,c8,some ⟨wr.heap.size,0,none⟩,1,1⟩) 25;simp only[World.size_setCell] at hnw;have N5:=Lib.hid hn5;have HNW2:=Lib.hid hnw;have HONE2:=Lib.hid (HO2.out A8 (L10.length+1) c8);clear hown8 hg8 hc hs3 hT hn hn5 hnw he8)
             |(at_builtin;refine qAk rfl (.tmp 164) (.tmp 166) _ rfl (w.heap.size+5) 25 sc _ 2 48 Tryz.underlying38 si sz0 sz1 sz2 rfl (by omega) _ _ _ rfl N5.out.own _ (some ⟨w8.heap.size,0,none⟩) 1 1 (SRef.vs ⟨A8,L10.length+1,c8,some ⟨wr.heap.size,0,none⟩,1,1⟩) rfl rfl HNW2.out HONE2.out (by have:=HRL.out;unfold maxLen;omega) (by have:=HRL.out;omega) (by have:=N5.out.sz;omega) ?_;intro v9 w9 hown9 hg9;obtain⟨A9,c9,e9,-⟩:=qAg hown9;subst e9;have HP9:=Lib.hid (N5.out.push (by decide) (by decide) (by decide) hown9 hg9);clear hown9 hg9))
           go_roundw
           case rel=>
            refine⟨k+1,⟨A8,L10.length+1,c8,some ⟨wr.heap.size,0,none⟩,1,1⟩,rs++[⟨A8,L10.length+1,c8,some ⟨wr.heap.size,0,none⟩,1,1⟩],by go_num,by omega,by omega,?_,?_⟩
            · rw[HRUN.out,HST3.out]
            · rw[HRUN.out,HVER.out,HST3.out];exact HP9.out
           case measure=>simp[RowKit.intOf];omega
    · have hall:V.take k=V.take 7:=by
        by_cases e:k<7
        · have hkn2:k=m:=by omega
          rw[List.take_of_length_le (by have:=HM.out;omega),List.take_of_length_le (by have:=HM.out;omega)]
        · rw[show k=7 by omega]
      rw[hall] at hst;have HST:=Lib.hid hst
      have hg2:((k:Int)<m→¬(k:Int)<7):=by omega
      clear hst hall hc3 hcm3
      by_cases hki:(k:Int)<m
      · have hk7':¬(k:Int)<7:=hg2 hki;clear hg2
        go_wp2_with fail
        go_meet
        exact⟨_,_,HST.out⟩
      · clear hg2
        go_wp2_with fail
        go_meet
        exact⟨_,_,HST.out⟩
  case rest=>
   obtain⟨r,rs,hst⟩:=hcut;obtain⟨A9,c9,rfl,hL⟩:=hst.scs
   have HL:=Lib.hid hL;have HBL:=Lib.hid hst.bel
   clear hst hL
   go_wp2_with fail
   go_ret
   refine⟨A9,c9,rs,rfl,?_,HBL.out⟩
   have e:qEj C V=(cols0,[0])::qC3 0 (V.take 7) cols0 id0:=by unfold qEj;rw[hcols0,hid0]
   rw[e];exact HL.out
end Go.Proofs.YtikpmmipopmjaaaGreatDoor
