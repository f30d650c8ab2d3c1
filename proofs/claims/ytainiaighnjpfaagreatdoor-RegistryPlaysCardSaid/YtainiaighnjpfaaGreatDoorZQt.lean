/- Schemas: whether one may be: the package's answer. Schemas: two lists of columns compared, two lists of numbers. -/
import Derived.Test.YtainiaighnjpfaaGreatDoorZQs
import Derived.Test.YtainiaighnjpfaaGreatDoorZQq
set_option maxHeartbeats 4000000
set_option maxRecDepth 100000
set_option linter.unusedVariables false
set_option linter.unusedSimpArgs false
namespace Go.Ms
open Go.RowKit Go.Lib Go.Maps
theorem qI1 (a b:List Int):intV (a++b)=intV a++intV b:=List.map_append
theorem qGi {w w':World} (h:Below w.heap.size w w'):w.grownBy w' none:=⟨h.os,h.tape,h.output,h.size,fun k hk _=>h.block k hk⟩
end Go.Ms
namespace Go.Proofs.YtainiaighnjpfaaGreatDoor
open Go.RowKit Go.Ms Go.Lib Go.Maps Go.WideMaps
theorem qT6:Keyed Tryz.prog 9:=string_keyed Tryz.underlying9
theorem qXf (w:World):(zeroValue 3).run Tryz.prog w=.ok (.int .i64 0) w:=by kernel_rfl
structure qKg (w:World) (V:Array Value) (l:List Co) (v:Value) (wr:World):Prop where
  box:wr.heap[w.heap.size]?=some (.cells V 33 (0,0))
  map:∃D:DataW Unit,wr.ownsMap Tryz.prog 9 (plainElem Tryz.prog 3) (w.heap.size+1) l.length D∧qFh D (qFb l)
  ids:OwnI wr (w.heap.size+2) 3 v (qDz l)
  bel:Below w.heap.size w wr
  sz:w.heap.size+2≤wr.heap.size
theorem qKg.step {w wr w':World} {V:Array Value} {l:List Co} {v:Value} (h:qKg w V l v wr) (hb:Below wr.heap.size wr w'):qKg w V l v w':=by
 obtain⟨D,h1,h2⟩:=h.map;exact⟨qAn h.box hb,⟨D,h1.kept (qGi hb) (by simp),h2⟩,own_below h.ids hb,h.bel.trans (hb.mono h.bel.size),Nat.le_trans h.sz hb.size⟩
theorem qKg.ids' {w wr w':World} {V:Array Value} {l:List Co} {v:Value} {D:DataW Unit} (h:qKg w V l v wr) (hm:wr.ownsMap Tryz.prog 9 (plainElem Tryz.prog 3) (w.heap.size+1) l.length D) (hg:wr.grownBy w' v.ownBlock) :
    w'.heap[w.heap.size]?=some (.cells V 33 (0,0))∧w'.ownsMap Tryz.prog 9 (plainElem Tryz.prog 3) (w.heap.size+1) l.length D∧Below w.heap.size w w'∧w.heap.size+2≤w'.heap.size:=by
 have hne:∀k,k<w.heap.size+2→some k≠v.ownBlock:=fun k hk e=>by
  have:=(World.ownsRow.lt h.ids k e.symm).1;omega
 refine⟨(hg.block _ (by have:=h.sz;omega) (hne _ (by omega))).trans h.box,hm.kept hg (hne _ (by omega)),qAh h.ids h.bel h.bel.size (by omega) hg,Nat.le_trans h.sz hg.size⟩
theorem qKg.next {w w3 w4:World} {V:Array Value} {l:List Co} {v:Value} {c:Co} {D:DataW Unit} (hbox:w3.heap[w.heap.size]?=some (.cells V 33 (0,0))) (hids:OwnI w3 (w.heap.size+2) 3 v (qDz (l++[c]))) (hbel:Below w.heap.size w w3) (hsz:w.heap.size+2≤w3.heap.size)
    (hN:qFh D (qFb l)) {d:DataW Unit} (hm:w4.ownsMap Tryz.prog 9 (plainElem Tryz.prog 3) (w.heap.size+1) (l.length+1) (D.put (.string c.2.1.data.toList) d)) (hg:w3.grownBy w4 (some (w.heap.size+1))):qKg w V (l++[c]) v w4:=by
 refine⟨(hg.block _ (by omega) (by simp)).trans hbox,⟨_,by rw[List.length_append];exact hm,?_⟩,World.ownsRow.kept hids hg (.inr (fun e=>by have:=(World.ownsRow.lt hids _ e).1;omega)),hbel.grown hg hbel.size (fun k e=>by cases e;omega),Nat.le_trans hsz hg.size⟩;have:=hN.put c.2.1 d;unfold qFb at this ⊢;rw[List.map_append];exact this
theorem qIn (w:World) (B:Option Addr) (m capm:Nat) (ks:List Int) (b:Nat) (p:Int→Bool) (hm':m≤maxLen) (hm:m=ks.length) (hB:Lay w w.heap.size B (intV ks))
    (hcl:∀(k:Nat) (x:Int) (W:World),ks[k]?=some x→Below w.heap.size w W→Calls Tryz.prog 75 #[.int .i64 x,.pointer (some ⟨b,0,none⟩)] W fun e w2=>e=.returned (.bool (p x))∧Below W.heap.size W w2) :
    Calls Tryz.prog 74 #[.slice B m capm,.func (.func 75) #[] #[.pointer (some ⟨b,0,none⟩)]] w fun e w'=>e=.returned (.bool (ks.any p))∧Below w.heap.size w w':=by
 have hc:=qOq w B m capm ks b p hm' hm hB hcl;have e:=qPj p ks;rw[←e];clear e hm hB hcl hm';generalize idxL p ks=I at hc ⊢;have HC:=hh_ hc;clear hc;go_enter Tryz.func74,Tryz.ntmps74;go_wp2_with fail
 refine HC.out.mono ?_;rintro en w1 ⟨rfl,b1⟩;go_wp2_with fail
 go_ret;exact⟨rfl,b1⟩
theorem qGn (w:World) (A B:Option Addr) (n cap m capm:Nat) (cs:List Co) (ks:List Int) (hsz:∀c∈cs,c.2.1.size≤100000∧c.2.2.2.2.2.size≤100000) (h1:n≤100000) (h2:m≤100000) (hn:n=cs.length) (hm:m=ks.length)
    (hA:Lay w w.heap.size A (colV cs)) (hB:Lay w w.heap.size B (intV ks)) (hE:Env w) :
    Calls Tryz.prog 34 #[.agg #[.slice A n cap,.slice B m capm]] w fun e w'=>e=.returned (.int .i64 (qAm cs ks))∧Below w.heap.size w w':=by
 have hmm:=@run_makeMap Tryz.prog;obtain⟨i0,hi,hz0,hz1,hz2⟩:=info_parts qFq
 have hst:qKg w #[.slice A n cap,.slice B m capm] [] (.slice none 0 0) ((w.alloc (.cells #[.slice A n cap,.slice B m capm] 33)).alloc (.map #[] 0)):=by
  have e:=World.ownsMap_made (H:=Unit) (w.alloc (.cells #[.slice A n cap,.slice B m capm] 33)) Tryz.prog 9 (plainElem Tryz.prog 3);rw[World.size_alloc] at e;exact⟨qCd (qAd _ _) _,⟨_,e,qFh.nil⟩,World.ownsRow_nil _ _ _ _,((Below.refl _ w).alloc le_ _).alloc (by rw[World.size_alloc];omega) _,by rw[World.size_alloc,World.size_alloc];omega⟩
 have HST:=hh_ hst;have HSZ:=hh_ hsz;have HN:=hh_ hn;have HM:=hh_ hm;have HA:=hh_ hA;have HB:=hh_ hB;have HE:=hh_ hE;clear hst hsz hn hm hA hB hE;have c0:((w.alloc (.cells #[.slice A n cap,.slice B m capm] 33)).alloc (.map #[] 0)).cell? ⟨w.heap.size,0,none⟩=some (.slice A n cap):=cell_of_block (i:=0) HST.out.box rfl;go_enter Tryz.func34,Tryz.ntmps34;go_wp2_with fail
 go_loopw [3,12] (fun ids id wr=> ∃k:Nat,k≤n∧id=.int .i64 k∧qKg w #[.slice A n cap,.slice B m capm] (cs.take k) ids wr∧∀(j:Nat) c,j<k→cs[j]?=some c→isNm c.2.1.data.toList=true∧qDw c.2.2.1 c.2.2.2=0) (fun _ id _=>n-(RowKit.intOf id).toNat)
 case atStart=>exact⟨0,by omega,rfl,HST.out,fun j c h=>absurd h (by omega)⟩
 case round=>
  obtain⟨k,hk,rfl,hs,hp⟩:=hrel;have HP:=hh_ hp;clear hp;by_cases hlk:k<n
  · have hki:(k:Int)<n:=by omega
    obtain⟨c,hc⟩:∃c,cs[k]?=some c:=⟨_,List.getElem?_eq_getElem (by rw[←HN.out];omega)⟩;obtain⟨hz1',hz2'⟩:=HSZ.out c (List.mem_of_getElem? hc);have htk:cs.take (k+1)=cs.take k++[c]:=by rw[List.take_add_one,hc];rfl
    have hlk2:(cs.take k).length=k:=by rw[List.length_take];have:=HN.out;omega
    obtain⟨i0',s0,⟨k0,u0⟩,n0,m0,t0⟩:=c;obtain⟨g,o,rfl,hg,g1,g2,g3,g4,g5,g6,g7⟩:=HA.out.co hc;replace g1:=(hs.bel.cell hg).trans g1;replace g2:=(hs.bel.cell hg).trans g2;replace g3:=(hs.bel.cell hg).trans g3;replace g4:=(hs.bel.cell hg).trans g4;replace g5:=(hs.bel.cell hg).trans g5;replace g6:=(hs.bel.cell hg).trans g6;replace g7:=(hs.bel.cell hg).trans g7;simp only at g1 g2 g3 g4 g5 g6 g7 hz1' hz2';have bX:Below wr.heap.size wr (wr.alloc (.cells #[.int .i64 i0',.string s0,.int .i64 k0,.bool u0,.bool n0,.int .i64 m0,.string t0] 45)):=(Below.refl _ wr).alloc le_ _;have hname:=qHv s0 (wr.alloc (.cells #[.int .i64 i0',.string s0,.int .i64 k0,.bool u0,.bool n0,.int .i64 m0,.string t0] 45)) hz1';have HNM:=hh_ hname;have BX:=hh_ bX;have HC:=hh_ hc;have HS:=hh_ hs;have HTK:=hh_ htk;have HLK:=hh_ hlk2;have HZ2:=hh_ hz2';clear hname bX hc hs htk hlk2 hz1' hz2';have q0:∀w1,Below (wr.alloc (.cells #[.int .i64 i0',.string s0,.int .i64 k0,.bool u0,.bool n0,.int .i64 m0,.string t0] 45)).heap.size (wr.alloc (.cells #[.int .i64 i0',.string s0,.int .i64 k0,.bool u0,.bool n0,.int .i64 m0,.string t0] 45)) w1→w1.heap[wr.heap.size]?=some (.cells #[.int .i64 i0',.string s0,.int .i64 k0,.bool u0,.bool n0,.int .i64 m0,.string t0] 45 (0,0)):=fun w1 hb=>qAn (qAd _ _) hb
    have HQ:=hh_ q0;clear q0
    cases hnm:isNm s0.data.toList with
    |false=>
     have hbad:qAm cs ks=2:=qAo (fun h=>by have:=(h.co k _ HC.out).1;simp only at this;rw[hnm] at this;cases this);have HBAD:=hh_ hbad;clear hbad;rw[hnm] at HNM;clear hnm;go_wp2_with fail
     refine HNM.out.mono ?_;rintro en w1 ⟨rfl,b1⟩;have B1:=hh_ (HS.out.bel.trans ((BX.out.trans (b1.mono BX.out.size)).mono HS.out.bel.size));clear b1;go_wp2_with fail
     go_ret;exact⟨congrArg (fun i=>Ending.returned (.int .i64 i)) HBAD.out.symm,B1.out⟩
    |true=>
     have HNMT:=hh_ hnm;rw[hnm] at HNM;clear hnm;go_wp2_with fail
     refine HNM.out.mono ?_;rintro en w1 ⟨rfl,b1⟩;have q1:=HQ.out w1 b1;have r0:=cell_of_block (i:=0) q1 rfl;have r1:=cell_of_block (i:=1) q1 rfl;have r2:=cell_of_block (i:=2) q1 rfl;have r3:=cell_of_block (i:=3) q1 rfl;have r4:=cell_of_block (i:=4) q1 rfl;have r5:=cell_of_block (i:=5) q1 rfl;have r6:=cell_of_block (i:=6) q1 rfl;have S1:=hh_ (HS.out.step (BX.out.trans (b1.mono BX.out.size)));have Q1:=hh_ q1;clear b1 q1;have hck:=qCc k0 u0 n0 m0 t0 w1 HZ2.out (HE.out.below S1.out.bel);have HCK:=hh_ hck;clear hck;by_cases hcz:qA1 k0 u0 n0 m0 t0.data.toList=0
     · have HCZ:=hh_ hcz;rw[hcz] at HCK;clear hcz;go_wp2_with fail
       refine HCK.out.mono ?_;rintro en w2 ⟨rfl,b2⟩;have q2:=qAn Q1.out b2;have e0:=cell_of_block (i:=0) q2 rfl;have e1:=cell_of_block (i:=1) q2 rfl;have hs2:=S1.out.step b2;obtain⟨D,hD,hND⟩:=hs2.map;rw[HLK.out] at hD;have hnew:Lay (w2.alloc (.cells #[.int .i64 i0'] 3)) (w2.alloc (.cells #[.int .i64 i0'] 3)).heap.size (some ⟨w2.heap.size,0,none⟩) (intV [i0']):=qBs w2 [.int .i64 i0'] 3;have hs3:=hs2.step ((Below.refl w2.heap.size w2).alloc le_ (.cells #[.int .i64 i0'] 3));have hD3:=hD.alloc (.cells #[.int .i64 i0'] 3);have q3:=qCd q2 (.cells #[.int .i64 i0'] 3);have hlen:(qDz (cs.take k)).length=k:=by unfold qDz;rw[List.length_map,HLK.out]
       have HNew:=hh_ hnew;have S3:=hh_ hs3;have HD3:=hh_ hD3;have Q3:=hh_ q3;have HND:=hh_ hND;have HLen:=hh_ hlen;have S2:=hh_ hs2;have hkey:keyOf Tryz.prog 9 (.string s0)=some (.string s0.data.toList):=keyOf_string_mk Tryz.underlying9 (by unfold maxLen;have:=HSZ.out _ (List.mem_of_getElem? HC.out);simp only at this;omega);have HKEY:=hh_ hkey;clear b2 q2 hs2 hD hnew hs3 hD3 q3 hND hlen hkey
       go_wp2_with (first
         |(at_builtin;refine qAi rfl (.tmp 28) (.tmp 31) _ rfl (w.heap.size+2) 3 i0 _ 1 8 Tryz.underlying31 hi hz0 hz1 hz2 rfl (by omega) _ _ _ rfl S3.out.ids _ (some ⟨w2.heap.size,0,none⟩) 1 1 (intV [i0']) rfl rfl HNew.out (qFk _) (by rw[HLen.out];unfold maxLen;omega) (by rw[HLen.out];omega) S3.out.sz ?_;intro v3 w3 hown3 hg3;have HK3:=hh_ (S3.out.ids' (by rw[HLK.out];exact HD3.out) hg3);have f1:=cell_of_block (i:=1) ((hg3.block _ (Array.getElem?_eq_some_iff.1 Q3.out).1 (fun e=>by have:=(World.ownsRow.lt HS.out.ids _ e.symm).2;omega)).trans Q3.out) rfl;have HO3:=hh_ hown3;clear hg3 hown3)
         |(at_lookup;refine wpList_lookup_own_int _ rfl _ _ 122 rfl 9 3 .i64 qT6 Tryz.underlying122 Tryz.underlying3 (qXf _) (w.heap.size+1) _ _ rfl HK3.out.2.1 _ _ rfl HKEY.out ?_;intro cnt hat hwc)
         |(at_mapUpdate;refine wpList_mapUpdate_own _ rfl _ _ _ 122 rfl 9 3 qT6 Tryz.underlying122 _ (w.heap.size+1) _ _ rfl HK3.out.2.1 (by rw[HLK.out];unfold maxLen;omega) _ _ _ rfl rfl HKEY.out _ [] (plainElem_int Tryz.underlying3 (wrap64_wf _)) ?_;intro w4 hm4 hg4))
       have hids:OwnI w3 (w.heap.size+2) 3 v3 (qDz (cs.take k++[((i0',s0,(k0,u0),n0,m0,t0):Co)])):=by
        have e1:qDz (cs.take k++[((i0',s0,(k0,u0),n0,m0,t0):Co)])=qDz (cs.take k)++[i0']:=by unfold qDz;rw[List.map_append];rfl
        rw[e1];unfold OwnI;rw[List.length_append,qI1];exact HO3.out
       have hnext:=qKg.next (c:=((i0',s0,(k0,u0),n0,m0,t0):Co)) HK3.out.1 hids HK3.out.2.2.1 HK3.out.2.2.2 HND.out hm4 hg4;have HX:=hh_ hnext;clear hids hnext hm4 hg4;go_wp2_with fail
       go_roundw
       case rel=>
        refine⟨k+1,by omega,by go_num,by rw[HTK.out];exact HX.out,fun j d hj hd=>?_⟩;by_cases e:j=k
        · subst e;rw[HC.out] at hd;cases hd;exact⟨HNMT.out,HCZ.out⟩
        · exact HP.out j d (by omega) hd
       case measure=>simp[RowKit.intOf];omega
     · have hbad:qAm cs ks=2:=qAo (fun h=>hcz (h.co k _ HC.out).2);have HBAD:=hh_ hbad;clear hbad;generalize qA1 k0 u0 n0 m0 t0.data.toList=Z at HCK hcz;go_wp2_with fail
       refine HCK.out.mono ?_;rintro en w2 ⟨rfl,b2⟩;have B2:=hh_ (S1.out.bel.trans (b2.mono S1.out.bel.size));clear b2;have hcz2:(Z != 0)=true:=by simpa using hcz
       go_wp2_with fail
       go_ret;exact⟨congrArg (fun i=>Ending.returned (.int .i64 i)) HBAD.out.symm,B2.out⟩
  · have hki:¬(k:Int)<n:=by omega
    obtain rfl:k=n:=by omega
    have htk:cs.take k=cs:=List.take_of_length_le (by have:=HN.out;omega);rw[htk] at hs;obtain⟨D,hD,hND⟩:=hs.map;rw[←HN.out] at hD;have a0:=cell_of_block (i:=0) hs.box rfl;have a1:=cell_of_block (i:=1) hs.box rfl;have hco:∀(j:Nat) c,cs[j]?=some c→isNm c.2.1.data.toList=true∧qDw c.2.2.1 c.2.2.2=0:=fun j c hc=>HP.out j c (by have:=(List.getElem?_eq_some_iff.1 hc).1;have:=HN.out;omega) hc
    have HCO:=hh_ hco;have HS:=hh_ hs;have HD:=hh_ hD;have HND:=hh_ hND;have hil:(qDz cs).length=k:=by unfold qDz;rw[List.length_map];exact HN.out.symm
    have ho2:wr.ownsRow (w.heap.size+2) 3 1 u3 k (intV (qDz cs)):=by have:=hs.ids;unfold OwnI at this;rw[hil] at this;exact this
    obtain⟨A3,c3,rfl,-,hcap⟩:=qAf ho2;have lI:=Lay.of_own ho2 le_;have hri:=qNz wr A3 k c3 (qDz cs) 1 1048576 (by unfold maxLen;omega) hil.symm lI;have HRI:=hh_ hri;clear htk hD hND hco hki HP hri lI ho2 hil;by_cases t1:k<1
    · have hbad:qAm cs ks=2:=qAo (fun h=>by have:=h.one;have:=HN.out;omega);have HBAD:=hh_ hbad;have t1':(k:Int)<1:=by omega
      clear hbad hs;go_wp2_with fail
      go_ret;exact⟨congrArg (fun i=>Ending.returned (.int .i64 i)) HBAD.out.symm,HS.out.bel⟩
    have t1':¬(k:Int)<1:=by omega
    by_cases t2:32<k
    · have hbad:qAm cs ks=2:=qAo (fun h=>by have:=h.most;have:=HN.out;omega);have HBAD:=hh_ hbad;have t2':(32:Int)<k:=by omega
      clear hbad hs;go_wp2_with fail
      go_ret;exact⟨congrArg (fun i=>Ending.returned (.int .i64 i)) HBAD.out.symm,HS.out.bel⟩
    have t2':¬(32:Int)<k:=by omega
    have hml:=fun ty=>World.ownsMap.len HD.out Tryz.underlying122 ty
    by_cases t3:Maps.size D=k
    case neg=>
     have hbad:qAm cs ks=2:=qAo (fun h=>t3 (by
       have h2:=HND.out.iff.2 ((qJp cs).2 h.apart);rw[h2];unfold qFb;rw[List.length_map]
       exact HN.out.symm))
     have HBAD:=hh_ hbad;have t3':((Maps.size D:Int) != k)=true:=by simp;omega
     clear hbad hs;go_wp2_with fail
     go_ret;exact⟨congrArg (fun i=>Ending.returned (.int .i64 i)) HBAD.out.symm,HS.out.bel⟩
    have hap:qFl cs:=(qJp cs).1 (HND.out.iff.1 (by rw[t3];unfold qFb;rw[List.length_map];exact HN.out));have t3':((Maps.size D:Int) != k)=false:=by simp[t3]
    have HAP:=hh_ hap;rw[t3] at hml;clear hap t3 t3'
    cases t4:qEh (qDz cs) 1 1048576 with
    | false=>
     have hbad:qAm cs ks=2:=qAo (fun h=>by
      have e:=(qDs (qDz cs) 1 1048576).2 ⟨fun i x hx=>?_,fun i x y hx hy=>?_⟩
      · rw[t4] at e;cases e
      · unfold qDz at hx;rw[List.getElem?_map,Option.map_eq_some_iff] at hx;obtain⟨c,hc,rfl⟩:=hx;exact h.id i c hc
      · unfold qDz at hx hy;rw[List.getElem?_map,Option.map_eq_some_iff] at hx hy;obtain⟨c,hc,rfl⟩:=hx;obtain⟨d,hd,rfl⟩:=hy
        exact h.up i c d hc hd)
     have HBAD:=hh_ hbad;rw[t4] at HRI;clear hbad hs t4;go_wp2_with fail
     refine HRI.out.mono ?_;rintro en w1 ⟨rfl,b1⟩;have B1:=hh_ (HS.out.bel.trans (b1.mono HS.out.bel.size));clear b1;go_wp2_with fail
     go_ret;exact⟨congrArg (fun i=>Ending.returned (.int .i64 i)) HBAD.out.symm,B1.out⟩
    | true=>
     have hup:=(qDs (qDz cs) 1 1048576).1 t4;have HUP:=hh_ hup;rw[t4] at HRI;clear t4 hup;have hkey:=fun (w':World) (hb:Below w.heap.size w w')=>qNz w' B m capm ks 0 ((k:Int)-1) (by unfold maxLen;omega) HM.out ((HB.out.below hb).more hb.size)
     have HKEY:=hh_ hkey;clear hkey;go_wp2_with fail
     refine HRI.out.mono ?_;rintro en w1 ⟨rfl,b1⟩;have hs1:=HS.out.step b1;have a2:=cell_of_block (i:=0) hs1.box rfl;have a3:=cell_of_block (i:=1) hs1.box rfl;have S1:=hh_ hs1;clear b1 hs1 hs a0 a1;by_cases t5:8<m
     · have hbad:qAm cs ks=2:=qAo (fun h=>by have:=h.keys;have:=HM.out;omega);have HBAD:=hh_ hbad;have t5':(8:Int)<m:=by omega
       clear hbad;go_wp2_with fail
       go_ret;exact⟨congrArg (fun i=>Ending.returned (.int .i64 i)) HBAD.out.symm,S1.out.bel⟩
     have t5':¬(8:Int)<m:=by omega
     cases t6:qEh ks 0 ((k:Int)-1) with
     | false=>
      have hbad:qAm cs ks=2:=qAo (fun h=>by
       have e:=(qDs ks 0 ((k:Int)-1)).2 ⟨fun i x hx=>by have:=h.kin i x hx;have:=HN.out;omega,h.kup⟩
       rw[t6] at e;cases e)
      have HBAD:=hh_ hbad;rw[t6] at HKEY;clear hbad t6;go_wp2_with fail
      refine(HKEY.out _ S1.out.bel).mono ?_;rintro en w2 ⟨rfl,b2⟩;have B2:=hh_ (S1.out.bel.trans (b2.mono S1.out.bel.size));clear b2;go_wp2_with fail
      go_ret;exact⟨congrArg (fun i=>Ending.returned (.int .i64 i)) HBAD.out.symm,B2.out⟩
     | true=>
      have hku:=(qDs ks 0 ((k:Int)-1)).1 t6;have HKU:=hh_ hku;rw[t6] at HKEY;clear t6 hku;go_wp2_with fail
      refine(HKEY.out _ S1.out.bel).mono ?_;rintro en w2 ⟨rfl,b2⟩;have hs2:=S1.out.step b2;have a4:=cell_of_block (i:=0) hs2.box rfl;have a5:=cell_of_block (i:=1) hs2.box rfl
      have hcn:=qIn w2 B m capm ks w.heap.size (fun x=>(cs.getD x.toNat zCo).2.2.1.2) (by unfold maxLen;omega) HM.out ((HB.out.below hs2.bel).more hs2.bel.size) (fun j x W hx hW=>by
       have hin:=HKU.out.1 j x hx;obtain⟨q,rfl⟩:∃q:Nat,x=q:=⟨x.toNat,by omega⟩;have hq:q<k:=by omega
       obtain⟨c,hc⟩:∃c,cs[q]?=some c:=⟨_,List.getElem?_eq_getElem (by rw[←HN.out];exact hq)⟩;obtain⟨g,o,e,hg,-,-,-,g4,-⟩:=HA.out.co hc;subst e;have hWw:=hs2.bel.trans (hW.mono hs2.bel.size)
       have e1:(cs.getD (q:Int).toNat zCo).2.2.1.2=c.2.2.1.2:=by
        rw[Int.toNat_natCast];rw[List.getD_eq_getElem?_getD,hc];rfl
       rw[e1]
       exact qPa W w.heap.size q g o k cap _ hq (by unfold maxLen;omega) (cell_of_block (i:=0) (qAn hs2.box hW) rfl) (by rw[show o+q*7+2+1=o+q*7+3 by omega];exact(hWw.cell hg).trans g4))
      have HCN:=hh_ hcn;have S2:=hh_ hs2;clear b2 hs2 hcn
      cases t7:ks.any (fun x=>(cs.getD x.toNat zCo).2.2.1.2) with
      | true=>
       have hbad:qAm cs ks=2:=qAo (fun h=>by
        obtain⟨x,hx,hx2⟩:=List.any_eq_true.1 t7;obtain⟨j,hj⟩:=List.getElem?_of_mem hx;have hin:=h.kin j x hj;have hl:x.toNat<cs.length:=by omega
        have:=h.full j x _ hj (List.getElem?_eq_getElem hl);rw[List.getD_eq_getElem?_getD,List.getElem?_eq_getElem hl] at hx2;simp only[Option.getD_some] at hx2
        rw[this] at hx2;cases hx2)
       have HBAD:=hh_ hbad;rw[t7] at HCN;clear hbad t7;go_wp2_with fail
       refine HCN.out.mono ?_;rintro en w3 ⟨rfl,b3⟩;have B3:=hh_ (S2.out.bel.trans (b3.mono S2.out.bel.size));clear b3;go_wp2_with fail
       go_ret;exact⟨congrArg (fun i=>Ending.returned (.int .i64 i)) HBAD.out.symm,B3.out⟩
      |false=>
       have hgood:qAm cs ks=0:=qLi ⟨HCO.out,by have:=HN.out;omega,by have:=HN.out;omega,HAP.out,
         fun i c hc=>HUP.out.1 i c.1 (by unfold qDz;rw[List.getElem?_map,hc];rfl),
         fun i c d hc hd=>HUP.out.2 i c.1 d.1 (by unfold qDz;rw[List.getElem?_map,hc];rfl) (by unfold qDz;rw[List.getElem?_map,hd];rfl),
         by have:=HM.out;omega,fun i x hx=>by have:=HKU.out.1 i x hx;have:=HN.out;omega,HKU.out.2,fun i x c hx hc=>by
          rw[List.any_eq_false] at t7;have:=t7 x (List.mem_of_getElem? hx);rw[List.getD_eq_getElem?_getD,hc] at this
          simpa using this⟩
       have HGOOD:=hh_ hgood;rw[t7] at HCN;clear hgood t7;go_wp2_with fail
       refine HCN.out.mono ?_;rintro en w3 ⟨rfl,b3⟩;have B3:=hh_ (S2.out.bel.trans (b3.mono S2.out.bel.size));clear b3;go_wp2_with fail
       go_ret;exact⟨congrArg (fun i=>Ending.returned (.int .i64 i)) HGOOD.out.symm,B3.out⟩
theorem qK5 (i1 i2 k1 k2 m1 m2:Int) (u1 u2 n1 n2:Bool) (s1 s2 t1 t2:ByteArray) (w:World) :
    (Op.equalIn 10000 45 (.agg #[.int .i64 i1,.string s1,.int .i64 k1,.bool u1,.bool n1,.int .i64 m1,.string t1]) (.agg #[.int .i64 i2,.string s2,.int .i64 k2,.bool u2,.bool n2,.int .i64 m2,.string t2])).run Tryz.prog w =
      .ok (decide (((i1,s1,(k1,u1),n1,m1,t1):Co)=(i2,s2,(k2,u2),n2,m2,t2))) w:=by
 have q:∀S T:ByteArray,S.toList=T.toList↔S=T:=fun S T=>by
  rw[Lib.toList_data,Lib.toList_data];exact⟨fun h=>by rw[qBu (s:=S) rfl,qBu (s:=T) rfl,h],fun h=>by rw[h]⟩
 by_cases h0:i1=i2
 · by_cases h1:s1=s2
   · by_cases h2:k1=k2
     · by_cases h3:u1=u2
       · by_cases h4:n1=n2
         · by_cases h5:m1=m2
           · by_cases h6:t1=t2
             · simp[go_sem,Tryz.underlying45,Tryz.underlying41,Tryz.underlying43,q,h0,h1,h2,h3,h4,h5,h6]
             · simp[go_sem,Tryz.underlying45,Tryz.underlying41,Tryz.underlying43,q,h0,h1,h2,h3,h4,h5,h6]
           · simp[go_sem,Tryz.underlying45,Tryz.underlying41,Tryz.underlying43,q,h0,h1,h2,h3,h4,h5]
         · simp[go_sem,Tryz.underlying45,Tryz.underlying41,Tryz.underlying43,q,h0,h1,h2,h3,h4]
       · simp[go_sem,Tryz.underlying45,Tryz.underlying41,Tryz.underlying43,q,h0,h1,h2,h3]
     · simp[go_sem,Tryz.underlying45,Tryz.underlying41,Tryz.underlying43,q,h0,h1,h2]
   · simp[go_sem,Tryz.underlying45,Tryz.underlying41,Tryz.underlying43,q,h0,h1]
 · simp[go_sem,Tryz.underlying45,Tryz.underlying41,Tryz.underlying43,q,h0]
theorem qO4 (w:World) (A B:Option Addr) (n cap m capm:Nat) (xs ys:List Co) (hn':n≤maxLen) (hm':m≤maxLen) (hn:n=xs.length) (hm:m=ys.length) (hA:Lay w w.heap.size A (colV xs)) (hB:Lay w w.heap.size B (colV ys)) :
    Calls Tryz.prog 61 #[.slice A n cap,.slice B m capm] w fun e w'=>e=.returned (.bool (decide (xs=ys)))∧Below w.heap.size w w':=by
 unfold maxLen at hn' hm';by_cases hnm:n=m
 · subst hnm;have HA:=hh_ hA;have HB:=hh_ hB;have HN:=hh_ hn;have HM:=hh_ hm;clear hA hB hn hm;go_enter Tryz.func61,Tryz.ntmps61;go_wp2_with fail
   go_loopw [5] (fun id wr=> ∃k:Nat,k≤n∧id=.int .i64 k∧Below w.heap.size w wr∧xs.take k=ys.take k) (fun id _=>n-(RowKit.intOf id).toNat)
   case atStart=>exact⟨0,by omega,rfl,Below.refl _ _,rfl⟩
   case round=>
    obtain⟨k,hk,rfl,hb,hr⟩:=hrel;have HR:=hh_ hr;clear hr;by_cases hlk:k<n
    · have hki:(k:Int)<n:=by omega
      obtain⟨c,hc⟩:∃c,xs[k]?=some c:=⟨_,List.getElem?_eq_getElem (by rw[←HN.out];omega)⟩;obtain⟨d,hd⟩:∃c,ys[k]?=some c:=⟨_,List.getElem?_eq_getElem (by rw[←HM.out];omega)⟩;obtain⟨g,o,rfl,hg,h1,h2,h3,h4,h5,h6,h7⟩:=HA.out.co hc;obtain⟨g',o',rfl,hg',k1,k2,k3,k4,k5,k6,k7⟩:=HB.out.co hd;have g1:=(hb.cell hg).trans h1;have g2:=(hb.cell hg).trans h2;have g3:=(hb.cell hg).trans h3;have g4:=(hb.cell hg).trans h4;have g5:=(hb.cell hg).trans h5;have g6:=(hb.cell hg).trans h6;have g7:=(hb.cell hg).trans h7;have j1:=(hb.cell hg').trans k1;have j2:=(hb.cell hg').trans k2;have j3:=(hb.cell hg').trans k3;have j4:=(hb.cell hg').trans k4;have j5:=(hb.cell hg').trans k5;have j6:=(hb.cell hg').trans k6;have j7:=(hb.cell hg').trans k7;clear h1 h2 h3 h4 h5 h6 h7 k1 k2 k3 k4 k5 k6 k7;have HB:=hh_ hb;clear hb;have HC:=hh_ hc;have HD:=hh_ hd;clear hc hd;obtain⟨i1,s1,⟨k1,u1⟩,n1,m1,t1⟩:=c;obtain⟨i2,s2,⟨k2,u2⟩,n2,m2,t2⟩:=d;simp only at g1 g2 g3 g4 g5 g6 g7 j1 j2 j3 j4 j5 j6 j7;have he:=fun w=>qK5 i1 i2 k1 k2 m1 m2 u1 u2 n1 n2 s1 s2 t1 t2 w
      have hst:xs.take (k+1)=ys.take (k+1)↔((i1,s1,(k1,u1),n1,m1,t1):Co)=(i2,s2,(k2,u2),n2,m2,t2):=by
       rw[List.take_add_one,List.take_add_one,HC.out,HD.out,HR.out];simp
      have HST:=hh_ hst;clear hst;by_cases hcd:((i1,s1,(k1,u1),n1,m1,t1):Co)=(i2,s2,(k2,u2),n2,m2,t2)
      · rw[decide_eq_true hcd] at he;have HCD:=hh_ hcd;clear hcd;go_wp2_with fail
        go_quiet (fail)
        go_wp2_with fail
        go_roundw
        case rel=>exact⟨k+1,by omega,by go_num,qAa HB.out _,HST.out.2 HCD.out⟩
        case measure=>simp[RowKit.intOf];omega
      · rw[decide_eq_false hcd] at he
        have hne:decide (xs=ys)=false:=by
         apply decide_eq_false;intro e;exact hcd (HST.out.1 (by rw[e]))
        have HNE:=hh_ hne;clear hcd hne;go_wp2_with fail
        go_quiet (fail)
        go_wp2_with fail
        go_ret;exact⟨by rw[HNE.out];rfl,qAa HB.out _⟩
    · have hki:¬(k:Int)<n:=by omega
      have hkn:k=n:=by omega
      have heq:decide (xs=ys)=true:=by
       apply decide_eq_true;have:=HR.out;rw[hkn,List.take_of_length_le (by have:=HN.out;omega),List.take_of_length_le (by have:=HM.out;omega)] at this;exact this
      have HEQ:=hh_ heq;have HB:=hh_ hb;clear heq hkn hb;go_wp2_with fail
      go_ret;exact⟨by rw[HEQ.out];rfl,HB.out⟩
 · have hne:decide (xs=ys)=false:=by
     apply decide_eq_false;intro e;rw[e] at hn;omega
   have h1:((n:Int) != m)=true:=by simp;omega
   have h2:(n != m)=true:=by simpa using hnm
   rw[hne];clear hne hnm hA hB hn hm;go_enter Tryz.func61,Tryz.ntmps61;go_wp2_with fail
   go_ret;exact⟨rfl,Below.refl _ _⟩
theorem qJ5 (w:World) (A B:Option Addr) (n cap m capm:Nat) (xs ys:List Int) (hn':n≤maxLen) (hm':m≤maxLen) (hn:n=xs.length) (hm:m=ys.length) (hA:Lay w w.heap.size A (intV xs)) (hB:Lay w w.heap.size B (intV ys)) :
    Calls Tryz.prog 62 #[.slice A n cap,.slice B m capm] w fun e w'=>e=.returned (.bool (decide (xs=ys)))∧Below w.heap.size w w':=by
 unfold maxLen at hn' hm';by_cases hnm:n=m
 · subst hnm;have HA:=hh_ hA;have HB:=hh_ hB;have HN:=hh_ hn;have HM:=hh_ hm;clear hA hB hn hm;go_enter Tryz.func62,Tryz.ntmps62;go_wp2_with fail
   go_loopw [5] (fun id wr=> ∃k:Nat,k≤n∧id=.int .i64 k∧Below w.heap.size w wr∧xs.take k=ys.take k) (fun id _=>n-(RowKit.intOf id).toNat)
   case atStart=>exact⟨0,by omega,rfl,Below.refl _ _,rfl⟩
   case round=>
    obtain⟨k,hk,rfl,hb,hr⟩:=hrel;have HR:=hh_ hr;clear hr;by_cases hlk:k<n
    · have hki:(k:Int)<n:=by omega
      obtain⟨c,hc⟩:∃c,xs[k]?=some c:=⟨_,List.getElem?_eq_getElem (by rw[←HN.out];omega)⟩;obtain⟨d,hd⟩:∃c,ys[k]?=some c:=⟨_,List.getElem?_eq_getElem (by rw[←HM.out];omega)⟩;obtain⟨g,o,rfl,hg,h1⟩:=HA.out.num hc;obtain⟨g',o',rfl,hg',k1⟩:=HB.out.num hd;have g1:=(hb.cell hg).trans h1;have j1:=(hb.cell hg').trans k1;clear h1 k1;have HB:=hh_ hb;clear hb;have HC:=hh_ hc;have HD:=hh_ hd;clear hc hd
      have hst:xs.take (k+1)=ys.take (k+1)↔c=d:=by
       rw[List.take_add_one,List.take_add_one,HC.out,HD.out,HR.out];simp
      have HST:=hh_ hst;clear hst;by_cases hcd:c=d
      · have he:(c==d)=true:=by simpa using hcd
        have HCD:=hh_ hcd;clear hcd;go_wp2_with fail
        go_quiet (fail)
        go_wp2_with fail
        go_roundw
        case rel=>exact⟨k+1,by omega,by go_num,qAa HB.out _,HST.out.2 HCD.out⟩
        case measure=>simp[RowKit.intOf];omega
      · have he:(c==d)=false:=by simpa using hcd
        have hne:decide (xs=ys)=false:=by
         apply decide_eq_false;intro e;exact hcd (HST.out.1 (by rw[e]))
        have HNE:=hh_ hne;clear hcd hne;go_wp2_with fail
        go_quiet (fail)
        go_wp2_with fail
        go_ret;exact⟨by rw[HNE.out];rfl,qAa HB.out _⟩
    · have hki:¬(k:Int)<n:=by omega
      have hkn:k=n:=by omega
      have heq:decide (xs=ys)=true:=by
       apply decide_eq_true;have:=HR.out;rw[hkn,List.take_of_length_le (by have:=HN.out;omega),List.take_of_length_le (by have:=HM.out;omega)] at this;exact this
      have HEQ:=hh_ heq;have HB:=hh_ hb;clear heq hkn hb;go_wp2_with fail
      go_ret;exact⟨by rw[HEQ.out];rfl,HB.out⟩
 · have hne:decide (xs=ys)=false:=by
     apply decide_eq_false;intro e;rw[e] at hn;omega
   have h1:((n:Int) != m)=true:=by simp;omega
   have h2:(n != m)=true:=by simpa using hnm
   rw[hne];clear hne hnm hA hB hn hm;go_enter Tryz.func62,Tryz.ntmps62;go_wp2_with fail
   go_ret;exact⟨rfl,Below.refl _ _⟩
theorem qRs (w:World) (A B:Option Addr) (n cap m capm:Nat) (xs ys:List Co) (hn':n≤maxLen) (hm':m≤maxLen) (hn:n=xs.length) (hm:m=ys.length) (hA:Lay w w.heap.size A (colV xs)) (hB:Lay w w.heap.size B (colV ys)) :
    Calls Tryz.prog 76 #[.slice A n cap,.slice B m capm] w fun e w'=>e=.returned (.bool (decide (xs=ys)))∧Below w.heap.size w w':=by
 unfold maxLen at hn' hm';by_cases hnm:n=m
 · subst hnm;have HA:=hh_ hA;have HB:=hh_ hB;have HN:=hh_ hn;have HM:=hh_ hm;clear hA hB hn hm;go_enter Tryz.func76,Tryz.ntmps76;go_wp2_with fail
   go_loopw [13] (fun id wr=> ∃k:Nat,k≤n∧id=.int .i64 k∧Below w.heap.size w wr∧xs.take k=ys.take k) (fun id _=>n-(RowKit.intOf id).toNat)
   case atStart=>exact⟨0,by omega,rfl,Below.refl _ _,rfl⟩
   case round=>
    obtain⟨k,hk,rfl,hb,hr⟩:=hrel;have HR:=hh_ hr;clear hr;by_cases hlk:k<n
    · have hki:(k:Int)<n:=by omega
      obtain⟨c,hc⟩:∃c,xs[k]?=some c:=⟨_,List.getElem?_eq_getElem (by rw[←HN.out];omega)⟩;obtain⟨d,hd⟩:∃c,ys[k]?=some c:=⟨_,List.getElem?_eq_getElem (by rw[←HM.out];omega)⟩;obtain⟨g,o,rfl,hg,h1,h2,h3,h4,h5,h6,h7⟩:=HA.out.co hc;obtain⟨g',o',rfl,hg',k1,k2,k3,k4,k5,k6,k7⟩:=HB.out.co hd;have g1:=(hb.cell hg).trans h1;have g2:=(hb.cell hg).trans h2;have g3:=(hb.cell hg).trans h3;have g4:=(hb.cell hg).trans h4;have g5:=(hb.cell hg).trans h5;have g6:=(hb.cell hg).trans h6;have g7:=(hb.cell hg).trans h7;have j1:=(hb.cell hg').trans k1;have j2:=(hb.cell hg').trans k2;have j3:=(hb.cell hg').trans k3;have j4:=(hb.cell hg').trans k4;have j5:=(hb.cell hg').trans k5;have j6:=(hb.cell hg').trans k6;have j7:=(hb.cell hg').trans k7;clear h1 h2 h3 h4 h5 h6 h7 k1 k2 k3 k4 k5 k6 k7;have HB:=hh_ hb;clear hb;have HC:=hh_ hc;have HD:=hh_ hd;clear hc hd;obtain⟨i1,s1,⟨k1,u1⟩,n1,m1,t1⟩:=c;obtain⟨i2,s2,⟨k2,u2⟩,n2,m2,t2⟩:=d;simp only at g1 g2 g3 g4 g5 g6 g7 j1 j2 j3 j4 j5 j6 j7;have he:=fun w=>qK5 i1 i2 k1 k2 m1 m2 u1 u2 n1 n2 s1 s2 t1 t2 w
      have hst:xs.take (k+1)=ys.take (k+1)↔((i1,s1,(k1,u1),n1,m1,t1):Co)=(i2,s2,(k2,u2),n2,m2,t2):=by
       rw[List.take_add_one,List.take_add_one,HC.out,HD.out,HR.out];simp
      have HST:=hh_ hst;clear hst;by_cases hcd:((i1,s1,(k1,u1),n1,m1,t1):Co)=(i2,s2,(k2,u2),n2,m2,t2)
      · rw[decide_eq_true hcd] at he;have HCD:=hh_ hcd;clear hcd;go_wp2_with fail
        go_quiet (fail)
        go_wp2_with fail
        go_roundw
        case rel=>exact⟨k+1,by omega,by go_num,qAa HB.out _,HST.out.2 HCD.out⟩
        case measure=>simp[RowKit.intOf];omega
      · rw[decide_eq_false hcd] at he
        have hne:decide (xs=ys)=false:=by
         apply decide_eq_false;intro e;exact hcd (HST.out.1 (by rw[e]))
        have HNE:=hh_ hne;clear hcd hne;go_wp2_with fail
        go_quiet (fail)
        go_wp2_with fail
        go_ret;exact⟨by rw[HNE.out];rfl,qAa HB.out _⟩
    · have hki:¬(k:Int)<n:=by omega
      have hkn:k=n:=by omega
      have heq:decide (xs=ys)=true:=by
       apply decide_eq_true;have:=HR.out;rw[hkn,List.take_of_length_le (by have:=HN.out;omega),List.take_of_length_le (by have:=HM.out;omega)] at this;exact this
      have HEQ:=hh_ heq;have HB:=hh_ hb;clear heq hkn hb;go_wp2_with fail
      go_ret;exact⟨by rw[HEQ.out];rfl,HB.out⟩
 · have hne:decide (xs=ys)=false:=by
     apply decide_eq_false;intro e;rw[e] at hn;omega
   have h1:((n:Int) != m)=true:=by simp;omega
   have h2:(n != m)=true:=by simpa using hnm
   rw[hne];clear hne hnm hA hB hn hm;go_enter Tryz.func76,Tryz.ntmps76;go_wp2_with fail
   go_ret;exact⟨rfl,Below.refl _ _⟩
theorem qKz (w:World) (A B:Option Addr) (n cap m capm:Nat) (xs ys:List Int) (hn':n≤maxLen) (hm':m≤maxLen) (hn:n=xs.length) (hm:m=ys.length) (hA:Lay w w.heap.size A (intV xs)) (hB:Lay w w.heap.size B (intV ys)) :
    Calls Tryz.prog 77 #[.slice A n cap,.slice B m capm] w fun e w'=>e=.returned (.bool (decide (xs=ys)))∧Below w.heap.size w w':=by
 unfold maxLen at hn' hm';by_cases hnm:n=m
 · subst hnm;have HA:=hh_ hA;have HB:=hh_ hB;have HN:=hh_ hn;have HM:=hh_ hm;clear hA hB hn hm;go_enter Tryz.func77,Tryz.ntmps77;go_wp2_with fail
   go_loopw [13] (fun id wr=> ∃k:Nat,k≤n∧id=.int .i64 k∧Below w.heap.size w wr∧xs.take k=ys.take k) (fun id _=>n-(RowKit.intOf id).toNat)
   case atStart=>exact⟨0,by omega,rfl,Below.refl _ _,rfl⟩
   case round=>
    obtain⟨k,hk,rfl,hb,hr⟩:=hrel;have HR:=hh_ hr;clear hr;by_cases hlk:k<n
    · have hki:(k:Int)<n:=by omega
      obtain⟨c,hc⟩:∃c,xs[k]?=some c:=⟨_,List.getElem?_eq_getElem (by rw[←HN.out];omega)⟩;obtain⟨d,hd⟩:∃c,ys[k]?=some c:=⟨_,List.getElem?_eq_getElem (by rw[←HM.out];omega)⟩;obtain⟨g,o,rfl,hg,h1⟩:=HA.out.num hc;obtain⟨g',o',rfl,hg',k1⟩:=HB.out.num hd;have g1:=(hb.cell hg).trans h1;have j1:=(hb.cell hg').trans k1;clear h1 k1;have HB:=hh_ hb;clear hb;have HC:=hh_ hc;have HD:=hh_ hd;clear hc hd
      have hst:xs.take (k+1)=ys.take (k+1)↔c=d:=by
       rw[List.take_add_one,List.take_add_one,HC.out,HD.out,HR.out];simp
      have HST:=hh_ hst;clear hst;by_cases hcd:c=d
      · have he:(c==d)=true:=by simpa using hcd
        have HCD:=hh_ hcd;clear hcd;go_wp2_with fail
        go_quiet (fail)
        go_wp2_with fail
        go_roundw
        case rel=>exact⟨k+1,by omega,by go_num,qAa HB.out _,HST.out.2 HCD.out⟩
        case measure=>simp[RowKit.intOf];omega
      · have he:(c==d)=false:=by simpa using hcd
        have hne:decide (xs=ys)=false:=by
         apply decide_eq_false;intro e;exact hcd (HST.out.1 (by rw[e]))
        have HNE:=hh_ hne;clear hcd hne;go_wp2_with fail
        go_quiet (fail)
        go_wp2_with fail
        go_ret;exact⟨by rw[HNE.out];rfl,qAa HB.out _⟩
    · have hki:¬(k:Int)<n:=by omega
      have hkn:k=n:=by omega
      have heq:decide (xs=ys)=true:=by
       apply decide_eq_true;have:=HR.out;rw[hkn,List.take_of_length_le (by have:=HN.out;omega),List.take_of_length_le (by have:=HM.out;omega)] at this;exact this
      have HEQ:=hh_ heq;have HB:=hh_ hb;clear heq hkn hb;go_wp2_with fail
      go_ret;exact⟨by rw[HEQ.out];rfl,HB.out⟩
 · have hne:decide (xs=ys)=false:=by
     apply decide_eq_false;intro e;rw[e] at hn;omega
   have h1:((n:Int) != m)=true:=by simp;omega
   have h2:(n != m)=true:=by simpa using hnm
   rw[hne];clear hne hnm hA hB hn hm;go_enter Tryz.func77,Tryz.ntmps77;go_wp2_with fail
   go_ret;exact⟨rfl,Below.refl _ _⟩
end Go.Proofs.YtainiaighnjpfaaGreatDoor
