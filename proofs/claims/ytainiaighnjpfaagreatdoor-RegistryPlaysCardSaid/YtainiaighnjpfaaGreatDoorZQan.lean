/- The reference of evolve: may a schema follow another one by one step? The reference of evolve: may schemas follow each other? -/
import Derived.Test.YtainiaighnjpfaaGreatDoorZQal
import Derived.Test.YtainiaighnjpfaaGreatDoorZQam
set_option linter.unusedVariables false
set_option linter.unusedSimpArgs false
namespace Go.Ms
open Go.RowKit Go.Lib
def ScR (cs:List Co):Prop:= ∀c∈cs,c.2.1.size≤100000∧c.2.2.2.2.2.size≤100000∧ -9223372036854775808≤c.2.2.2.2.1∧c.2.2.2.2.1≤9223372036854775807
theorem ScR.sz {cs:List Co} (h:ScR cs):ScSz cs:=fun c hc=>⟨(h c hc).1,(h c hc).2.1⟩
theorem qYn {cs:List Co} {ks:List Int} (h:scOk cs ks=true):0<cs.length:=by have:=((qFy cs ks).1 h).one;omega
end Go.Ms
namespace Go.Proofs.YtainiaighnjpfaaGreatDoor
open Go.RowKit Go.Ms Go.Lib Go.Shelf Go.Rel
end Go.Proofs.YtainiaighnjpfaaGreatDoor
namespace Go.Ms
open Go.RowKit Go.Lib
theorem qYi {l:List Sc} {k:Nat} {s:Sc} (h:l[k]?=some s) (hb:scOk s.1 s.2=false):l.all (fun s=>scOk s.1 s.2)=false:=by
 rw[List.all_eq_false];exact⟨s,List.mem_of_getElem? h,by simp[hb]⟩
theorem qVm {l:List Sc} {k:Nat} {s:Sc} (h:l[k]?=some s) (ha:(l.take k).all (fun s=>scOk s.1 s.2)=true) (hb:scOk s.1 s.2=true):(l.take (k+1)).all (fun s=>scOk s.1 s.2)=true:=by
 rw[List.take_add_one,h,List.all_append,ha];simp[hb]
end Go.Ms
namespace Go.Proofs.YtainiaighnjpfaaGreatDoor
open Go.RowKit Go.Ms Go.Lib Go.Shelf Go.Rel
set_option maxRecDepth 100000 in
set_option maxHeartbeats 4000000 in
theorem qHy (w :World) (L:Option Addr) (n cap:Nat) (rs:List SRef) (ss:List Sc) (hn':n≤100000) (hn:n=rs.length) (hL:qA0 w w.heap.size L rs ss) (hz:∀s∈ss,ScR s.1) :
    Calls Tryz.prog 60 #[.slice L n cap] w fun e w'=>e=.returned (.int .i64 (qAs ss))∧Below w.heap.size w w':=by
 have hns:n=ss.length:=hn.trans hL.len;by_cases h64:64<n
 · have hc:=qLd (l:=ss) (by omega);have h64':(64:Int)<n:=by omega
   have HC:=hh_ hc;clear hc hn hL hz hns;go_enter Tryz.func60,Tryz.ntmps60;go_wp2_with fail
   go_ret;exact⟨congrArg (fun i=>Ending.returned (.int .i64 i)) HC.out.symm,Below.refl _ _⟩
 have h64':¬(64:Int)<n:=by omega
 have h64s:¬64<ss.length:=by omega
 have HN:=hh_ hn;have HL:=hh_ hL;have HNS:=hh_ hns;have H64:=hh_ h64s;have HZ:=hh_ hz;clear hn hL hz hns h64s;go_enter Tryz.func60,Tryz.ntmps60;go_wp2_with fail
 go_loopw [3] (fun i wr=> ∃k:Nat,k≤n∧i=.int .i64 k∧(ss.take k).all (fun s=>scOk s.1 s.2)=true∧Below w.heap.size w wr) (fun i _=>n-(RowKit.intOf i).toNat)
 case atStart=>exact⟨0,by omega,rfl,by simp,Below.refl _ _⟩
 case round =>
  obtain⟨k,hk,rfl,hall,hb⟩:=hrel;by_cases hlk:k<n
  · have hki:(k:Int)<n:=by omega
    obtain⟨rk,hrk⟩:∃r,rs[k]?=some r:=⟨_,List.getElem?_eq_getElem (by rw[←HN.out];omega)⟩;obtain⟨sk,hsk⟩:∃x,ss[k]?=some x:=⟨_,List.getElem?_eq_getElem (by rw[←HNS.out];omega)⟩;obtain⟨g,o,eL,hg⟩:=HL.out.at_ hrk;subst eL;have hg2:=hg.below hb;have g1:=hg2.c0;have g2:=hg2.c1;have pB:=(HL.out.each k rk sk hrk hsk).to hb;have hck:=qD4 wr rk.a rk.b rk.n rk.c rk.m rk.d sk.1 sk.2 (HZ.out sk (List.mem_of_getElem? hsk)) pB.nn pB.mm pB.n pB.m pB.la pB.lb;have HCK:=hh_ hck;have HSK:=hh_ hsk;have HALL:=hh_ hall;have HB:=hh_ hb;clear hck hsk hall hb pB hg hg2 hrk
    cases hok:scOk sk.1 sk.2 with
    |false=>
     rw[qF0 hok] at HCK;simp only[Bool.false_eq_true,if_false] at HCK;have HODD:=hh_ (qM1 H64.out (qYi HSK.out hok));clear hok;go_wp2_with fail
     refine HCK.out.mono ?_;rintro en w1 ⟨rfl,b1⟩;have B1:=hh_ (HB.out.trans (b1.mono HB.out.size));clear b1;go_wp2_with fail
     go_ret;exact⟨congrArg (fun i=>Ending.returned (.int .i64 i)) HODD.out.symm,B1.out⟩
    |true=>
     rw[qF0 hok] at HCK;simp only[if_true] at HCK;have HMORE:=hh_ (qVm HSK.out HALL.out hok);clear hok;go_wp2_with fail
     refine HCK.out.mono ?_;rintro en w1 ⟨rfl,b1⟩;have B1:=hh_ (HB.out.trans (b1.mono HB.out.size));clear b1;go_wp2_with fail
     go_roundw
     case rel=>exact⟨k+1,by omega,by go_num,HMORE.out,B1.out⟩
     case measure=>simp[RowKit.intOf];omega
  · have hki : ¬(k:Int)<n:=by omega
    obtain rfl:k=n:=by omega
    rw[List.take_of_length_le (by have:=HNS.out;omega)] at hall;have hok:∀(i:Nat) s,ss[i]?=some s→scOk s.1 s.2=true:=fun i s hs=>List.all_eq_true.1 hall s (List.mem_of_getElem? hs)
    have HALL:=hh_ hall;have HOK:=hh_ hok;have B0:=hh_ hb;clear hall hok hb;go_wp2_with fail
    go_loopw [4,5] (fun ab id wr=> ∃j:Nat,j≤k∧id=.int .i64 j∧ab=.int .i64 (evAb (ss.take j))∧qOv ss j∧Below w.heap.size w wr) (fun _ id _=>k-(RowKit.intOf id).toNat)
    case atStart=>exact⟨0,by omega,rfl,rfl,fun i a b h=>absurd h (by omega),B0.out⟩
    case round =>
     obtain⟨j,hj,rfl,rfl,hlinks,hb⟩:=hrel;have HLK:=hh_ hlinks;clear hlinks;by_cases hlk:j<k
     · have hkj:(j:Int)<k:=by omega
       obtain⟨rk,hrk⟩:∃r,rs[j]?=some r:=⟨_,List.getElem?_eq_getElem (by rw[←HN.out];omega)⟩;obtain⟨sk,hsk⟩:∃x,ss[j]?=some x:=⟨_,List.getElem?_eq_getElem (by rw[←HNS.out];omega)⟩;have htk:ss.take (j+1)=ss.take j++[sk]:=by rw[List.take_add_one,hsk];rfl
       have hab:evAb (ss.take (j+1))=max (evAb (ss.take j)) (qB6 sk.1):=by rw[htk,qKa]
       have pB:=(HL.out.each j rk sk hrk hsk).to hb;have kK:=keys_in (HOK.out j sk hsk);have k0:=qYn (HOK.out j sk hsk);have hgr:=fun (W:World) (hW:Below wr.heap.size wr W)=>qMe rk.a rk.b rk.n rk.c rk.m rk.d sk.1 W pB.n pB.nn (by rw[pB.n];exact k0) (pB.to hW).la
       obtain⟨g,o,eL,hg⟩:=HL.out.at_ hrk;subst eL;have HAB:=hh_ hab;have PB:=hh_ pB;have KK:=hh_ kK;have BW2:=hh_ hb;have HGR:=hh_ hgr;have HSK:=hh_ hsk;have GB:=hh_ ((hg.below hb).more hb.size);clear htk hab pB kK k0 hgr hg hb;rcases Nat.eq_zero_or_pos j with hk0|hk0
       · subst hk0;have ez:((0:Nat):Int)=0:=rfl;clear HLK;go_wp2_with fail
         refine qAe [isV (.int .i64 (0:Nat)),iF,iF,iU,iU,iU,iU,iU,iU,iU,iU,iU,iU,iU,iU,iF] (by kernel_rfl) (by kernel_rfl) ?_ ?_
         ·
           refine rb ?_;refine rf (fun ev wo E=>?_) ?_
           · have e27:ev (.tmp 27)=.int .i64 (0:Nat):=E.e 0;have ec:=E.const;go_simp;exact rv
           refine rc 0 ?_;refine ro 0 ?_;refine ro 0 ?_;refine ro 1 ?_;refine ro 2 ?_;refine ro 1 ?_;refine ro 0 ?_;refine ro 0 ?_;refine ro 2 ?_;refine ro 1 ?_;refine ro 0 ?_;refine ro 3 ?_;refine ro 1 ?_;refine rf (fun ev wo E=>?_) ?_
           · have e29:ev (.tmp 29)=.bool false:=E.e 0;have e41:ev (.tmp 41)=undef:=E.e 1;have ec:=E.const;go_simp;exact rv
           trivial
         · intro wz bz
           (iterate 16 rintro _ rfl);have GZ:=GB.out.below bz;have z0:=GZ.c0;have z1:=GZ.c1;rw[Nat.zero_mul,Nat.add_zero] at z0 z1
           have HG:=hh_ (HGR.out wz bz);have B2:=hh_ (BW2.out.trans (bz.mono BW2.out.size));clear bz GZ;simp only[qAq];go_simp;go_wp2_with fail
           refine HG.out.mono ?_;rintro en w2 ⟨rfl,b2⟩;have B3:=hh_ (B2.out.trans (b2.mono B2.out.size));clear b2 z0 z1;go_wp2_with fail
           go_roundw
           case rel=>
            refine⟨0+1,by omega,by go_num,congrArg (fun i=>Value.int .i64 i) HAB.out.symm,fun i a b h=>absurd h (by omega),B3.out⟩
           case measure=>simp[RowKit.intOf];omega
       · have hkn:j-1<k:=by omega
         obtain⟨rp,hrp⟩:∃r,rs[j-1]?=some r:=⟨_,List.getElem?_eq_getElem (by rw[←HN.out];omega)⟩;obtain⟨sp,hsp⟩:∃x,ss[j-1]?=some x:=⟨_,List.getElem?_eq_getElem (by rw[←HNS.out];omega)⟩;obtain⟨g',o',eL',hg'⟩:=HL.out.at_ hrp;cases eL'
         have hw:=iw_ ((j:Int)-1) (by omega);have G:=hh_ ((hg'.below BW2.out).more BW2.out.size);have PA:=hh_ ((HL.out.each (j-1) rp sp hrp hsp).to BW2.out);have KP:=hh_ (keys_in (HOK.out (j-1) sp hsp));have HK0:=hh_ hk0;have HW:=hh_ hw;have HKN:=hh_ hlk;have HSP:=hh_ hsp;clear hg' hrp hsp hw hrk hsk
         cases hf:qBa sp sk (evAb (ss.take j)) with
         |true=>
          have HF:=hh_ (show qBa (sp.1,sp.2) (sk.1,sk.2) (evAb (ss.take j))=true from hf);clear hf;go_wp2_with fail
          refine qAe [isV (.int .i64 (j:Nat)),iT,iT,isV (.slice (some ⟨g,o,none⟩) k cap),isV (.int .i64 (j:Nat)),isV (.int .i64 ((j:Int)-1)),isV (.pointer (some ⟨g,o+(j-1)*2,none⟩)),isV (.agg #[.slice rp.a rp.n rp.c,.slice rp.b rp.m rp.d]),isV (.slice (some ⟨g,o,none⟩) k cap),isV (.int .i64 (j:Nat)),isV (.pointer (some ⟨g,o+j*2,none⟩)),isV (.agg #[.slice rk.a rk.n rk.c,.slice rk.b rk.m rk.d]),isV (.int .i64 (evAb (ss.take j))),iT,iF,iF] (by kernel_rfl) (by kernel_rfl) ?_ ?_
          ·
            refine rb ?_;refine rf (fun ev wo E=>?_) ?_
            · have e27:ev (.tmp 27)=.int .i64 (j:Nat):=E.e 0;have ec:=E.const;have h0:=HK0.out;go_simp;exact rv
            refine rc 0 ?_;refine rbq 0 ?_;refine rbq 0 ?_;refine rq 1 (fun ev wo E=>?_) ?_
            · have e31:ev (.tmp 31)=.int .i64 (j:Nat):=E.e 0;have ec:=E.const;have h0:=HW.out;go_simp;exact rv
            refine rq 2 (fun ev wo E=>?_) ?_
            · have e30:ev (.tmp 30)=.slice (some ⟨g,o,none⟩) k cap:=E.e 0;have e32:ev (.tmp 32)=.int .i64 ((j:Int)-1):=E.e 1;have h0:=HKN.out;have h1:=HK0.out;have h2:(0:Int)≤(j:Int)-1:=by omega
              have h3:(j:Int)-1<k:=by omega
              have h4:(1:Int)≤j:=by omega
              go_simp;exact rv
            refine rq 1 (fun ev wo E=>?_) ?_
            · have e33:ev (.tmp 33)=.pointer (some ⟨g,o+(j-1)*2,none⟩):=E.e 0;have hx0:=(E.bel.cell G.out.lt).trans G.out.c0;have hx1:=(E.bel.cell G.out.lt).trans G.out.c1;go_simp;exact rv
            refine rbq 0 ?_;refine rbq 0 ?_;refine rq 2 (fun ev wo E=>?_) ?_
            · have e35:ev (.tmp 35)=.slice (some ⟨g,o,none⟩) k cap:=E.e 0;have e36:ev (.tmp 36)=.int .i64 (j:Nat):=E.e 1;have h0:=HKN.out;have h3:(j:Int)<k:=by omega
              go_simp;exact rv
            refine rq 1 (fun ev wo E=>?_) ?_
            · have e37:ev (.tmp 37)=.pointer (some ⟨g,o+j*2,none⟩):=E.e 0;have hx0:=(E.bel.cell GB.out.lt).trans GB.out.c0;have hx1:=(E.bel.cell GB.out.lt).trans GB.out.c1;go_simp;exact rv
            refine rbq 0 ?_;refine rq 3 (fun ev wo E=>?_) ?_
            · have e34:ev (.tmp 34)=.agg #[.slice rp.a rp.n rp.c,.slice rp.b rp.m rp.d]:=E.e 0;have e38:ev (.tmp 38)=.agg #[.slice rk.a rk.n rk.c,.slice rk.b rk.m rk.d]:=E.e 1;have e39:ev (.tmp 39)=.int .i64 (evAb (ss.take j)):=E.e 2;have ef:=E.func;go_simp;have pa:=PA.out.below E.bel |>.more E.bel.size;have pb:=PB.out.below E.bel |>.more E.bel.size;refine qAb ((qH8 rp.a rp.b rp.n rp.c rp.m rp.d sp.1 sp.2 rk.a rk.b rk.n rk.c rk.m rk.d sk.1 sk.2 (evAb (ss.take j)) wo pa.n pa.m pa.nn pa.mm pa.la pa.lb KP.out pb.n pb.m pb.nn pb.mm pb.la pb.lb KK.out).mono ?_);rw[HF.out];rintro e w' ⟨rfl,hb⟩;exact⟨_,rfl,hb,rfl⟩
            refine rq 1 (fun ev wo E=>?_) ?_
            · have e40:ev (.tmp 40)=.bool true:=E.e 0;go_simp;exact rv
            refine rf (fun ev wo E=>?_) ?_
            · have e29:ev (.tmp 29)=.bool true:=E.e 0;have e41:ev (.tmp 41)=.bool false:=E.e 1;have ec:=E.const;go_simp;exact rv
            trivial
          · intro wz bz
            (iterate 16 rintro _ rfl);have GZ:=GB.out.below bz;have z0:=GZ.c0;have z1:=GZ.c1
            have HG:=hh_ (HGR.out wz bz);have B2:=hh_ (BW2.out.trans (bz.mono BW2.out.size));clear bz GZ;simp only[qAq];go_simp;go_wp2_with fail
            refine HG.out.mono ?_;rintro en w2 ⟨rfl,b2⟩;have B3:=hh_ (B2.out.trans (b2.mono B2.out.size));clear b2 z0 z1;go_wp2_with fail
            go_roundw
            case rel=>
             refine⟨j+1,by omega,by go_num,congrArg (fun i=>Value.int .i64 i) HAB.out.symm,fun i a b h1 h2 h3=>?_,B3.out⟩;by_cases e:i+1=j
             · obtain rfl:i=j-1:=by omega
               rw[HSP.out] at h2;cases h2;rw[e] at h3 ⊢;rw[HSK.out] at h3;cases h3;exact HF.out
             · exact HLK.out i a b (by omega) h2 h3
            case measure=>simp[RowKit.intOf];omega
         |false=>
          have HF:=hh_ (show qBa (sp.1,sp.2) (sk.1,sk.2) (evAb (ss.take j))=false from hf);clear hf;go_wp2_with fail
          refine qAe [isV (.int .i64 (j:Nat)),iT,iT,isV (.slice (some ⟨g,o,none⟩) k cap),isV (.int .i64 (j:Nat)),isV (.int .i64 ((j:Int)-1)),isV (.pointer (some ⟨g,o+(j-1)*2,none⟩)),isV (.agg #[.slice rp.a rp.n rp.c,.slice rp.b rp.m rp.d]),isV (.slice (some ⟨g,o,none⟩) k cap),isV (.int .i64 (j:Nat)),isV (.pointer (some ⟨g,o+j*2,none⟩)),isV (.agg #[.slice rk.a rk.n rk.c,.slice rk.b rk.m rk.d]),isV (.int .i64 (evAb (ss.take j))),iF,iT,iT] (by kernel_rfl) (by kernel_rfl) ?_ ?_
          ·
            refine rb ?_;refine rf (fun ev wo E=>?_) ?_
            · have e27:ev (.tmp 27)=.int .i64 (j:Nat):=E.e 0;have ec:=E.const;have h0:=HK0.out;go_simp;exact rv
            refine rc 0 ?_;refine rbq 0 ?_;refine rbq 0 ?_;refine rq 1 (fun ev wo E=>?_) ?_
            · have e31:ev (.tmp 31)=.int .i64 (j:Nat):=E.e 0;have ec:=E.const;have h0:=HW.out;go_simp;exact rv
            refine rq 2 (fun ev wo E=>?_) ?_
            · have e30:ev (.tmp 30)=.slice (some ⟨g,o,none⟩) k cap:=E.e 0;have e32:ev (.tmp 32)=.int .i64 ((j:Int)-1):=E.e 1;have h0:=HKN.out;have h1:=HK0.out;have h2:(0:Int)≤(j:Int)-1:=by omega
              have h3:(j:Int)-1<k:=by omega
              have h4:(1:Int)≤j:=by omega
              go_simp;exact rv
            refine rq 1 (fun ev wo E=>?_) ?_
            · have e33:ev (.tmp 33)=.pointer (some ⟨g,o+(j-1)*2,none⟩):=E.e 0;have hx0:=(E.bel.cell G.out.lt).trans G.out.c0;have hx1:=(E.bel.cell G.out.lt).trans G.out.c1;go_simp;exact rv
            refine rbq 0 ?_;refine rbq 0 ?_;refine rq 2 (fun ev wo E=>?_) ?_
            · have e35:ev (.tmp 35)=.slice (some ⟨g,o,none⟩) k cap:=E.e 0;have e36:ev (.tmp 36)=.int .i64 (j:Nat):=E.e 1;have h0:=HKN.out;have h3:(j:Int)<k:=by omega
              go_simp;exact rv
            refine rq 1 (fun ev wo E=>?_) ?_
            · have e37:ev (.tmp 37)=.pointer (some ⟨g,o+j*2,none⟩):=E.e 0;have hx0:=(E.bel.cell GB.out.lt).trans GB.out.c0;have hx1:=(E.bel.cell GB.out.lt).trans GB.out.c1;go_simp;exact rv
            refine rbq 0 ?_;refine rq 3 (fun ev wo E=>?_) ?_
            · have e34:ev (.tmp 34)=.agg #[.slice rp.a rp.n rp.c,.slice rp.b rp.m rp.d]:=E.e 0;have e38:ev (.tmp 38)=.agg #[.slice rk.a rk.n rk.c,.slice rk.b rk.m rk.d]:=E.e 1;have e39:ev (.tmp 39)=.int .i64 (evAb (ss.take j)):=E.e 2;have ef:=E.func;go_simp;have pa:=PA.out.below E.bel |>.more E.bel.size;have pb:=PB.out.below E.bel |>.more E.bel.size;refine qAb ((qH8 rp.a rp.b rp.n rp.c rp.m rp.d sp.1 sp.2 rk.a rk.b rk.n rk.c rk.m rk.d sk.1 sk.2 (evAb (ss.take j)) wo pa.n pa.m pa.nn pa.mm pa.la pa.lb KP.out pb.n pb.m pb.nn pb.mm pb.la pb.lb KK.out).mono ?_);rw[HF.out];rintro e w' ⟨rfl,hb⟩;exact⟨_,rfl,hb,rfl⟩
            refine rq 1 (fun ev wo E=>?_) ?_
            · have e40:ev (.tmp 40)=.bool false:=E.e 0;go_simp;exact rv
            refine rf (fun ev wo E=>?_) ?_
            · have e29:ev (.tmp 29)=.bool true:=E.e 0;have e41:ev (.tmp 41)=.bool true:=E.e 1;have ec:=E.const;go_simp;exact rv
            trivial
          · intro wz bz
            (iterate 16 rintro _ rfl);have hbad:=qNc H64.out HALL.out HSP.out (by rw[Nat.sub_add_cancel HK0.out];exact HSK.out) (by rw[Nat.sub_add_cancel HK0.out];exact HF.out)
            have HBAD:=hh_ hbad;have B2:=hh_ (BW2.out.trans (bz.mono BW2.out.size));clear bz hbad;simp only[qAq];go_simp;go_wp2_with fail
            go_ret;exact⟨congrArg (fun i=>Ending.returned (.int .i64 i)) HBAD.out.symm,B2.out⟩
     · have hki:¬(j:Int)<k:=by omega
       obtain rfl:j=k:=by omega
       have hyes:=qM9 H64.out HALL.out (by rw[←HNS.out];exact HLK.out);have HY:=hh_ hyes;have B2:=hh_ hb;clear hyes hb;go_wp2_with fail
       go_ret;exact⟨congrArg (fun i=>Ending.returned (.int .i64 i)) HY.out.symm,B2.out⟩
end Go.Proofs.YtainiaighnjpfaaGreatDoor
