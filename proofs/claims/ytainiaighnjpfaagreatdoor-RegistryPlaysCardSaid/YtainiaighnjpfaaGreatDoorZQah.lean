/- Registries: Add's inner function, walked. -/
import Derived.Test.YtainiaighnjpfaaGreatDoorZQag
import Derived.Shelf.SlMaps.Clone
set_option linter.unusedVariables false
set_option linter.unusedSimpArgs false
namespace Go.Proofs.YtainiaighnjpfaaGreatDoor
open Go.RowKit Go.Ms Go.Lib Go.Maps Go.WideMaps Go.Rel Go.Proofs
set_option maxRecDepth 100000 in
set_option maxHeartbeats 8000000 in
theorem qQh {Kp :Nat→Prop} (g sp mb b1 b2:Nat) (D:DataW Value) (G:Rg) (S:ByteArray) (r:SRef) (s:Sc) (w:World) (hS:S.size≤100000) (h:RgA Kp g sp mb D G w) (h1:w.heap[b1]?=some (.cells #[.string S] 9 (0,0)))
    (h2:w.heap[b2]?=some (.cells #[.slice r.a r.n r.c,.slice r.b r.m r.d] 33 (0,0))) (hr:qBv w w.heap.size r s) (hn:isNm S.data.toList=true) (ho:scOk s.1 s.2=true) (hk:s.2≠[]) (hE:Env w) (hkp:∀b,w.heap.size≤b→Kp b) :
    Calls Tryz.prog 40 #[.pointer (some ⟨sp,0,none⟩),.pointer (some ⟨b1,0,none⟩),.pointer (some ⟨b2,0,none⟩)] w (RgS Kp w G (qBf G S.data.toList s).1 (qBf G S.data.toList s).2.1 (qBf G S.data.toList s).2.2):=by
 obtain⟨sc,si,sz0,sz1,sz2⟩:=info_parts qCz;have hG:=qCb (G:=G) hn ho hk;obtain⟨G',N',E',hres⟩:∃G' N' E',qBf G S.data.toList s=(G',N',E'):=⟨_,_,_,rfl⟩;rw[hres];have HRES:=hh_ hres;clear hres;have hsz1:ScSz s.1:=qZ4 ho;have HKP:=hh_ hkp;clear hkp
 cases hkk:qAp G S.data.toList with
 | none =>
  have hv0:=h.inn.no _ hkk;have hb:Maps.has D (.string S.data.toList)=false:=by rw[h.inn.has,hkk];rfl
  have hat:rgAt G S.data.toList=[]:=by unfold rgAt;rw[hkk];rfl
  obtain⟨A,n,c,rs,L,hv,hn0,hy,hlen,hll,hL,hyk⟩:∃(A:Option Addr) (n c:Nat) (rs:List SRef) (L:List Sc),D.atKey (.string S.data.toList) (.held (.slice none 0 0))=.held (.slice A n c)∧n=0∧qA0 w w.heap.size A rs L∧n=rs.length∧n=L.length∧L=[]∧qDt Kp A rs:=
    ⟨none,0,0,[],[],hv0,rfl,⟨rfl,fun j u hu=>by simp[scsV] at hu,fun i r s h=>by simp at h⟩,rfl,rfl,rfl,(fun _ p e=>by cases e),fun r hr=>by cases hr⟩
  have HYK:=hh_ hyk;clear hyk;have hat2:rgAt G S.data.toList=L:=hat.trans hL.symm;rw[hat2] at hG;clear hat2;have hnl:L.getLast?≠some s:=by rw[hL];simp
  have hsz:∀t∈L++[s],ScSz t.1:=fun t ht=>by rw[hL] at ht;simp at ht;rw[ht];exact hsz1
  have HA:=hh_ h;have Q1:=hh_ h1;have Q2:=hh_ h2;have HR:=hh_ hr;have HE:=hh_ hE;have HZ:=hh_ hS;have HG:=hh_ hG;have HV:=hh_ hv;have HB:=hh_ hb;have HY:=hh_ hy;have HLEN:=hh_ hlen;have HLL:=hh_ hll;have HNL:=hh_ hnl;have HSZ:=hh_ hsz;have HN0:=hh_ hn0;have HKK:=hh_ hkk;have HL:=hh_ hL;have HN:=hh_ (show n≤64 by omega);clear h h1 h2 hr hE hS hG hv hv0 hb hy hlen hll hnl hsz hn0 hkk hL hat hn ho hk hsz1;go_enter Tryz.func40,Tryz.ntmps40;go_upto_region 1 with fail
  refine qAe [isV (.pointer (some ⟨sp,0,none⟩)),isV (.pointer (some ⟨sp,0,none⟩)),isV (.pointer (some ⟨sp,0,none⟩)),isV (.map (some mb)),isV (.string S),isV (.tuple #[.slice A n c,.bool false]),isV (.tuple #[.slice A n c,.bool false]),isV (.slice A n c),iF,isV (.slice A n c),iF] (by kernel_rfl) (by kernel_rfl) ?_ ?_
  ·
    refine rb ?_;refine rf (fun ev wo E=>?_) ?_
    · have e12:ev (.tmp 12)=.pointer (some ⟨sp,0,none⟩):=E.e 0;go_simp;exact rv
    refine rf (fun ev wo E=>?_) ?_
    · have e13:ev (.tmp 13)=.pointer (some ⟨sp,0,none⟩):=E.e 0;go_simp;exact rv
    refine rf (fun ev wo E=>?_) ?_
    · have e14:ev (.tmp 14)=.pointer (some ⟨sp,0,none⟩):=E.e 0;have hx0:=cb_ 0 (bk_ HA.out.snap E.bel) rfl;go_simp;exact rv
    refine rf (fun ev wo E=>?_) ?_
    · have e1:ev (.tmp 1)=.pointer (some ⟨b1,0,none⟩):=(E.base 1 rfl).trans rfl;have hx0:=cb_ 0 (bk_ Q1.out E.bel) rfl;go_simp;exact rv
    refine rf (fun ev wo E=>?_) ?_
    · have e15:ev (.tmp 15)=.map (some mb):=E.e 0;have e16:ev (.tmp 16)=.string S:=E.e 1;have hrun:=qJo (HA.out.to E.bel).map HZ.out HV.out HB.out;go_simp;exact rv
    refine rc 0 ?_;refine rf (fun ev wo E=>?_) ?_
    · have e11:ev (.tmp 11)=.tuple #[.slice A n c,.bool false]:=E.e 0;go_simp;exact rv
    refine rf (fun ev wo E=>?_) ?_
    · have e11:ev (.tmp 11)=.tuple #[.slice A n c,.bool false]:=E.e 0;go_simp;exact rv
    refine⟨qA7 0 (qA5.free rfl) (.inr rfl) rfl rfl rfl rfl (qAr _),?_⟩;refine⟨qA7 0 (qA5.free rfl) (.inr rfl) rfl rfl rfl rfl (qAr _),?_⟩;trivial
  · intro w1 bw1
    (iterate 11 rintro _ rfl)
    have A1:=hh_ (HA.out.to bw1);have Q11:=hh_ (bk_ Q1.out bw1);have Q21:=hh_ (bk_ Q2.out bw1);have Y1:=hh_ (HY.out.to bw1);have R1:=hh_ (HR.out.to bw1);have BW:=hh_ bw1;clear bw1 HA Q1 Q2 HY HR;simp only[qAq];go_simp;go_upto_region 3 with fail
    refine qAe [iF,iF,iU,iU,iU,iU,iU,iU,iU,iF,iF] (by kernel_rfl) (by kernel_rfl) ?_ ?_
    ·
      refine rb ?_;refine rc 0 ?_;refine ro 0 ?_;refine ro 0 ?_;refine ro 1 ?_;refine ro 2 ?_;refine ro 1 ?_;refine ro 0 ?_;refine ro 2 ?_;refine rf (fun ev wo E=>?_) ?_
      · have e24:ev (.tmp 24)=.bool false:=E.e 0;have e31:ev (.tmp 31)=undef:=E.e 1;have ec:=E.const;go_simp;exact rv
      refine⟨qA7 0 (qA5.free rfl) (.inr rfl) rfl rfl rfl rfl (qAr _),?_⟩;trivial
    · intro wq bq
      (iterate 11 rintro _ rfl)
      have HA:=hh_ (A1.out.to bq);have Q1:=hh_ (bk_ Q11.out bq);have Q2:=hh_ (bk_ Q21.out bq);have HY:=hh_ (Y1.out.to bq);have HR:=hh_ (R1.out.to bq);have BQ:=hh_ (BW.out.trans (bq.mono BW.out.size));clear bq A1 Q11 Q21 Y1 R1 BW;simp only[qAq];go_simp;have c0:=cb_ 0 (v:=.map (some mb)) HA.out.snap rfl;have h64:((n:Int)==64)=false:=by rw[HN0.out];rfl
      have hml:=fun ty=>World.ownsMap.len HA.out.map Tryz.underlying85 ty
      rw[HA.out.inn.size] at hml;by_cases h16:G.length=16
      · have hgo:=HG.out.2.1 HNL.out (.inr ⟨HKK.out,h16⟩);have HGO:=hh_ (HRES.out.symm.trans hgo);rw[h16] at hml;clear hgo;go_wp2_with fail
        refine bodyPost_ret (v:=.tuple #[.pointer none,.int .i64 0,.int .i64 5]) ?_ rfl ?_
        · simp[results,Tryz.results40,Tryz.f40,go_sem]
        have e:=HGO.out;cases e;exact qIe.same BQ.out
      · have h16b:((G.length:Int)==16)=false:=by rw[beq_eq_false_iff_ne];omega
        have HLM:=hh_ (show ¬(L.length=64∨(qAp G S.data.toList=none∧G.length=16)) from fun h=>h.elim (fun e=>by have:=HLL.out;have:=HN0.out;omega) (fun e=>h16 e.2));go_upto_region 7 with fail
        refine qDc (l:=[_,_,_,_,_]) (o:=_) (t:=[_]) [isV (.slice A n c),qMl wq.heap.size 33 rs n,isV (.agg #[.slice r.a r.n r.c,.slice r.b r.m r.d]),qNj Kp 45 3 s,qTi Kp 33 45 3 s] (by kernel_rfl) (by kernel_rfl) (by kernel_rfl) (by kernel_rfl) (by kernel_rfl) (by kernel_rfl) (by kernel_rfl) ?_ ?_
        ·
          refine rb ?_;refine⟨qBo (qA5.free rfl) (qE6 _ _ _ _) (fun ev wo E=>?_),?_⟩
          · have e49:ev (.tmp 49)=.slice A n c:=E.e 0;have ef:=E.func;go_simp;refine qAb ((qIh wo A n c rs (by have:=HN.out;omega) HLEN.out ((HY.out.lay.below E.bel).more E.bel.size)).mono ?_);rintro e w' ⟨v,rfl,ho,hb⟩;obtain⟨A',c',rfl,-,-⟩:=qAf ho;refine⟨_,rfl,hb,A',c',by rw[HLEN.out],?_⟩;have hq:=qAv ho E.bel.size;rw[←HLEN.out] at hq;exact hq
          refine rf (fun ev wo E=>?_) ?_
          · have e2:ev (.tmp 2)=.pointer (some ⟨b2,0,none⟩):=(E.base 2 rfl).trans rfl;have hx0:=cb_ 0 (bk_ Q2.out E.bel) rfl;have hx1:=cb_ 1 (bk_ Q2.out E.bel) rfl;go_simp;exact rv
          refine⟨qBo (qA5.free rfl) (qGy _ _ _ _) (fun ev wo E=>?_),?_⟩
          · have e51:ev (.tmp 51)=.agg #[.slice r.a r.n r.c,.slice r.b r.m r.d]:=E.e 0;have ef:=E.func;go_simp;refine qAb ((qEe r s wo (HR.out.to E.bel)).mono ?_);rintro e w' ⟨r',rfl,hb,ht,ho,hi⟩;unfold qBw at ho;unfold OwnI at hi;have hzo:wq.heap.size≤wo.heap.size:=E.bel.size;have hzw:=BQ.out.size;exact⟨_,rfl,hb,r',rfl,ht,AtK.own ho (fun b h=>HKP.out b (by omega)) _,AtK.own hi (fun b h=>HKP.out b (by omega)) _⟩
          refine⟨qBo (qA5.free rfl) (qGp _ _ _ _ _) (fun ev wo E=>?_),?_⟩
          · have e52:(qNj Kp 45 3 s) (ev (.tmp 52)) wo:=E.d 0 rfl rfl rfl;obtain⟨r',e0,ht,hk'⟩:=e52;go_simp;have bn:=(Below.refl wo.heap.size wo).alloc le_ (.cells #[.slice r'.a r'.n r'.c,.slice r'.b r'.m r'.d] 33);exact qA9 ⟨bn,_,r',rfl,qAd _ _,ht.to bn,hk'⟩
          trivial
        · intro wz bz;rintro _ rfl;intro v50 h50;rintro _ rfl;intro v52 h52;intro v53 h53;have h50s:=Classical.choose_spec h50;generalize Classical.choose h50=A5 at h50s;have h50t:=Classical.choose_spec h50s;generalize Classical.choose h50s=c5 at h50t;have h53s:=Classical.choose_spec h53;generalize Classical.choose h53=gn at h53s;have h53t:=Classical.choose_spec h53s;generalize Classical.choose h53s=rn at h53t;have q50:=h50t.1;have q53:=h53t.1;subst q50;subst q53;simp only[qAq,qGt];refine qGr (.tmp 50) (.tmp 53) 36 rfl wq.heap.size 33 sc _ 2 48 qC8 si sz0 sz1 sz2 rfl (by omega) _ _ _ rfl h50t.2 _ (some ⟨gn,0,none⟩) 1 1 rn.vs rfl rfl (qI6 h53t.2.1) (fun u hu=>qD2 [rn] u (by simpa[scsV] using hu)) (by have:=HN.out;unfold maxLen;omega) (by have:=HN.out;omega) bz.size ?_;intro v8 w8 hown8 hg8;have hq:=qAf hown8;have hq1:=Classical.choose_spec hq;generalize Classical.choose hq=A8 at hq1;have hq2:=Classical.choose_spec hq1;generalize Classical.choose hq1=c8 at hq2;have e8:=hq2.1;subst e8;have n1:(45:TypeId)≠33:=by decide
          have n2:(3:TypeId)≠33:=by decide
          have b8:Below wq.heap.size wq w8:=qAh h50t.2 bz bz.size le_ hg8;have ht8:=h53t.2.2.1.eff (EffT.own h50t.2 hg8) n1 n2
          have l8:Lay w8 w8.heap.size A8 (scsV (rs++[rn])):=by
           have h:=Lay.of_own hown8 le_;rw[qHb,show scsV [rn]=rn.vs by simp[scsV]];exact h
          have hsc:qA0 w8 w8.heap.size A8 (rs++[rn]) (L++[s]):=qA0.snoc HY.out.len l8 (fun i r' s' h1 h2=>(HY.out.each i r' s' h1 h2).to b8) ht8.lay;have HRK:=hh_ (show qDt Kp A8 (rs++[rn]) from HYK.out.snoc (AtK.own hown8 (fun b h=>HKP.out b (by have:=BQ.out.size;omega)) _) h53t.2.2.2);have HSC:=hh_ hsc;have B8:=hh_ b8;have C8:=hh_ hq2.2;clear bz h50 h50s h50t h53 h53s h53t h52 hown8 hg8 hq hq1 hq2 l8 hsc b8 ht8 n1 n2;unfold Oper.wp;go_simp;have hch:=qJy w8 A8 (n+1) c8 (rs++[rn]) (L++[s]) (by have:=HN.out;omega) (by rw[List.length_append,←HLEN.out];rfl) HSC.out HSZ.out (HE.out.below (BQ.out.trans (B8.out.mono BQ.out.size)));obtain⟨K,hK⟩:∃K,qAs (L++[s])=K:=⟨_,rfl⟩;rw[hK] at hch;have HCH:=hh_ hch;have HK:=hh_ hK;clear hch hK;by_cases hk0:K=0
          · subst hk0;have hgo:=HG.out.2.2.2 HNL.out HLM.out HK.out
            have hok:RgOk (qBl G S.data.toList (L++[s])):=by
             have h:=HA.out.ok.add S.data.toList s;rw[hgo] at h;exact h
            have HOK:=hh_ hok;have HGO:=hh_ (HRES.out.symm.trans hgo);clear hgo hok;go_wp2_with fail
            refine HCH.out.mono ?_;rintro e w9 ⟨rfl,b9⟩;have A9:=hh_ (HA.out.to (B8.out.trans (b9.mono B8.out.size)));have SC9:=hh_ (HSC.out.to b9);have B9:=hh_ (BQ.out.trans ((B8.out.trans (b9.mono B8.out.size)).mono BQ.out.size));have Q19:=hh_ (bk_ Q1.out (B8.out.trans (b9.mono B8.out.size)));have c0:=cb_ 0 (v:=.map (some mb)) A9.out.snap rfl;have hcl:=AnyW.maps_Clone_owns Tryz.mclone42 9 qCx mb G.length D w9 A9.out.map;have HCL:=hh_ hcl;clear b9 HCH hcl B8 HSC;go_wp2_with fail
            refine HCL.out.mono ?_;rintro e wa ⟨rfl,hm1,-,ba⟩;obtain⟨Y,hY⟩:∃Y,Y=wa.alloc (.cells #[.map (some w9.heap.size)] 87):=⟨_,rfl⟩;have bY:Below wa.heap.size wa Y:=by rw[hY];exact br_.alloc le_ _
            have qY:Y.heap[wa.heap.size]?=some (.cells #[.map (some w9.heap.size)] 87 (0,0)):=by rw[hY];exact qAd _ _
            have bb:Below w9.heap.size w9 Y:=ba.trans (bY.mono ba.size);have mY:Y.ownsMap Tryz.prog 9 qCx w9.heap.size G.length D:=by rw[hY];exact hm1.alloc _
            obtain⟨mb2,hmb⟩:∃k,k=w9.heap.size:=⟨_,rfl⟩;obtain⟨sp2,hsp⟩:∃k,k=wa.heap.size:=⟨_,rfl⟩;have QY:=hh_ (show Y.heap[sp2]?=some (.cells #[.map (some mb2)] 87 (0,0)) by rw[hsp,hmb];exact qY);have MY:=hh_ (show Y.ownsMap Tryz.prog 9 qCx mb2 G.length D by rw[hmb];exact mY);have AY:=hh_ (A9.out.to bb);have SY:=hh_ (SC9.out.to bb);have BY:=hh_ (B9.out.trans (bb.mono B9.out.size));have Q1Y:=hh_ (bk_ Q19.out bb)
            have HLO:=hh_ (show w.heap.size≤mb2∧sp2≠mb2 by
             have h1:=B9.out.size;have h2:=hm1.lt
             omega)
            clear hm1 ba bY qY bb mY HCL A9 SC9 B9 Q19 c0;go_upto_region 11 with fail
            rw[←hY];rw[←hsp];rw[←hmb];clear hY hsp hmb;refine qB4 (l:=[_,_,_,_,_,_]) (o:=_) [isV (.pointer (some ⟨sp2,0,none⟩)),isV (.pointer (some ⟨sp2,0,none⟩)),isV (.pointer (some ⟨sp2,0,none⟩)),isV (.map (some mb2)),isV (.string S),isV (.slice A8 (n+1) c8)] (by kernel_rfl) (by kernel_rfl) (by kernel_rfl) (by kernel_rfl) rfl ?_ ?_
            ·
              refine rb ?_;refine rf (fun ev wo E=>?_) ?_
              · have e65:ev (.tmp 65)=.pointer (some ⟨sp2,0,none⟩):=E.e 0;go_simp;exact rv
              refine rf (fun ev wo E=>?_) ?_
              · have e66:ev (.tmp 66)=.pointer (some ⟨sp2,0,none⟩):=E.e 0;go_simp;exact rv
              refine rf (fun ev wo E=>?_) ?_
              · have e67:ev (.tmp 67)=.pointer (some ⟨sp2,0,none⟩):=E.e 0;have hx0:=cb_ 0 (bk_ QY.out E.bel) rfl;go_simp;exact rv
              refine rf (fun ev wo E=>?_) ?_
              · have e1:ev (.tmp 1)=.pointer (some ⟨b1,0,none⟩):=(E.base 1 rfl).trans rfl;have hx0:=cb_ 0 (bk_ Q1Y.out E.bel) rfl;go_simp;exact rv
              refine rb ?_;trivial
            · intro wz bz
              (iterate 6 rintro _ rfl);have hput:=qM7 MY.out bz (show G.length<maxLen by have:=AY.out.ok.len;unfold maxLen;omega) HZ.out (.slice A8 (n+1) c8);have hw:=Classical.choose_spec hput
              generalize Classical.choose hput=w' at hw;have hrun:=hw.1;have hm3:=hw.2.1;have hg3:=hw.2.2;have az:=AY.out.to bz;have hmz:=MY.out.kept (row:=none) ⟨bz.os,bz.tape,bz.output,bz.size,fun k hk _=>bz.block k hk⟩ (by simp);have hqm:∃es clock,wz.heap[mb2]?=some (.map es clock):=by obtain⟨es,clock,h,_⟩:=hmz;exact⟨es,clock,h⟩
              have hin:RgIn Kp wz (D.put (.string S.data.toList) (.held (.slice A8 (n+1) c8))) (qBl G S.data.toList (L++[s])):=by
               have h:=az.inn.put (az.map.tidy qFz) az.ok.up S.data.toList (A:=A8) (c:=c8) (SY.out.to bz) HRK.out;rw[show(L++[s]).length=n+1 by rw[List.length_append,←HLL.out];rfl] at h;exact h
              have hin2:RgIn Kp w' (D.put (.string S.data.toList) (.held (.slice A8 (n+1) c8))) (qBl G S.data.toList (L++[s])):=by
               obtain⟨es,clock,h⟩:=hqm;exact hin.butM hg3 h
              have hm4:=qHe hm3;rw[hin2.size] at hm4;have hsn:w'.heap[sp2]?=some (.cells #[.map (some mb2)] 87 (0,0)):=(hg3.block _ (Array.getElem?_eq_some_iff.1 (bk_ QY.out bz)).1 (fun e=>HLO.out.2 (by cases e;rfl))).trans (bk_ QY.out bz);have hb':Below w.heap.size w w':=(BY.out.trans (bz.mono BY.out.size)).grown hg3 (Nat.le_trans BY.out.size bz.size) (fun k e=>by cases e;exact HLO.out.1);have FIN:=hh_ (show RgS Kp w G (qBl G S.data.toList (L++[s])) ((n:Int)+1) 0 (.returned (.tuple #[.pointer (some ⟨sp2,0,none⟩),.int .i64 ((n:Int)+1),.int .i64 0])) w' from⟨hb',.inr ⟨sp2,mb2,_,rfl,hsn,hm4,hin2,HOK.out⟩⟩);have hwn:=iw_ ((n:Int)+1) (by have:=HN.out;omega);clear bz hput hw hm3 hg3 az hmz hqm hin hin2 hm4 hsn hb';simp only[qAq];unfold Oper.wp;go_simp;go_wp2_with fail
              refine bodyPost_ret (v:=.tuple #[.pointer (some ⟨sp2,0,none⟩),.int .i64 ((n:Int)+1),.int .i64 0]) ?_ rfl ?_
              · simp[results,Tryz.results40,Tryz.f40,go_sem]
              have e:=HGO.out;cases e;first|exact FIN.out|(rw[←HLL.out];exact FIN.out)
          · have hgo:=HG.out.2.2.1 HNL.out HLM.out (fun e=>hk0 (HK.out.symm.trans e));have HGO:=hh_ (HRES.out.symm.trans hgo);have hkb:(K==0)=false:=by simpa using hk0
            have hkn:(K != 0)=true:=by simpa using hk0
            clear hgo;go_wp2_with fail
            refine HCH.out.mono ?_;rintro e w9 ⟨rfl,b9⟩;have B9:=hh_ (BQ.out.trans ((B8.out.trans (b9.mono B8.out.size)).mono BQ.out.size));clear b9;go_wp2_with fail
            refine bodyPost_ret (v:=.tuple #[.pointer none,.int .i64 0,.int .i64 120]) ?_ rfl ?_
            · simp[results,Tryz.results40,Tryz.f40,go_sem]
            have e:=HGO.out;cases e;exact qIe.same B9.out
 | some l =>
  obtain⟨A,c,rs,hv,hy,hyk⟩:=h.inn.at_ _ _ hkk;have hb:Maps.has D (.string S.data.toList)=true:=by rw[h.inn.has,hkk];rfl
  have hat:rgAt G S.data.toList=l:=by unfold rgAt;rw[hkk];rfl
  have hmem:=qEi hkk;have hne:l≠[]:=h.ok.ne _ hmem;have hfew:l.length≤64:=h.ok.few _ hmem
  have hsz:∀t∈l++[s],ScSz t.1:=fun t ht=>by
   rcases List.mem_append.1 ht with ht|ht
   · exact qZ4 (qVh (h.ok.ch _ hmem) t ht)
   · rw[List.mem_singleton.1 ht];exact hsz1
  rw[hat] at hG;obtain⟨L,hL⟩:∃q,q=l:=⟨_,rfl⟩;rw[←hL] at hG hv hy hne hfew hsz hkk;clear hL hat hmem;obtain⟨n,hll⟩:∃q,q=L.length:=⟨_,rfl⟩;rw[←hll] at hv hfew hG;have hlen:n=rs.length:=hll.trans hy.len.symm;obtain⟨m,hm⟩:∃m,n=m+1:=⟨n-1,by have:=List.length_pos_iff.2 hne;omega⟩;obtain⟨sl,hsl⟩:∃t,L[m]?=some t:=⟨_,List.getElem?_eq_getElem (by omega)⟩;obtain⟨rl,hrl⟩:∃t,rs[m]?=some t:=⟨_,List.getElem?_eq_getElem (by omega)⟩;have hlast:L.getLast?=some sl:=by rw[List.getLast?_eq_getElem?,←hll,hm];exact hsl
  obtain⟨ga,oa,ea,tl⟩:=hy.at_ hrl;subst ea;have HYK:=hh_ hyk;clear hyk;have hsr:=hy.each m rl sl hrl hsl;have hwm:IntKind.i64.wrap ((n:Int)-1)=(m:Int):=by rw[show(n:Int)-1=m by omega];exact IntWalk.i64_in _ (by omega)
  have hm1:(m:Int)<n:=by omega
  have hm2:m<n:=by omega
  have hsm:=fun (W:World) (hl:qBv W W.heap.size rl sl) (hr:qBv W W.heap.size r s)=>qLb W rl.a rl.b r.a r.b rl.n rl.c rl.m rl.d r.n r.c r.m r.d sl.1 s.1 sl.2 s.2 (by have:=hl.nn;unfold maxLen;omega) (by have:=hl.mm;unfold maxLen;omega) (by have:=hr.nn;unfold maxLen;omega) (by have:=hr.mm;unfold maxLen;omega) hl.n hl.m hr.n hr.m hl.la hl.lb hr.la hr.lb
  have HA:=hh_ h;have Q1:=hh_ h1;have Q2:=hh_ h2;have HR:=hh_ hr;have HE:=hh_ hE;have HZ:=hh_ hS;have HG:=hh_ hG;have HV:=hh_ hv;have HB:=hh_ hb;have HY:=hh_ hy;have HLEN:=hh_ hlen;have HLL:=hh_ hll;have HSZ:=hh_ hsz;have HKK:=hh_ hkk;have HM:=hh_ hm;have HN:=hh_ hfew;have TL:=hh_ tl;have SR:=hh_ hsr;have SM:=hh_ hsm;clear h h1 h2 hr hE hS hG hv hb hy hlen hll hsz hkk hm hfew hn ho hk hsz1 tl hsr hsm hne hsl hrl;obtain⟨A,hA⟩:∃q,q=(some ⟨ga,oa,none⟩:Option Addr):=⟨_,rfl⟩;have HAA:=hh_ hA;rw[←hA] at HV HY;clear hA;go_enter Tryz.func40,Tryz.ntmps40;go_upto_region 1 with fail
  refine qAe [isV (.pointer (some ⟨sp,0,none⟩)),isV (.pointer (some ⟨sp,0,none⟩)),isV (.pointer (some ⟨sp,0,none⟩)),isV (.map (some mb)),isV (.string S),isV (.tuple #[.slice A n c,.bool true]),isV (.tuple #[.slice A n c,.bool true]),isV (.slice A n c),iT,isV (.slice A n c),iT] (by kernel_rfl) (by kernel_rfl) ?_ ?_
  ·
    refine rb ?_;refine rf (fun ev wo E=>?_) ?_
    · have e12:ev (.tmp 12)=.pointer (some ⟨sp,0,none⟩):=E.e 0;go_simp;exact rv
    refine rf (fun ev wo E=>?_) ?_
    · have e13:ev (.tmp 13)=.pointer (some ⟨sp,0,none⟩):=E.e 0;go_simp;exact rv
    refine rf (fun ev wo E=>?_) ?_
    · have e14:ev (.tmp 14)=.pointer (some ⟨sp,0,none⟩):=E.e 0;have hx0:=cb_ 0 (bk_ HA.out.snap E.bel) rfl;go_simp;exact rv
    refine rf (fun ev wo E=>?_) ?_
    · have e1:ev (.tmp 1)=.pointer (some ⟨b1,0,none⟩):=(E.base 1 rfl).trans rfl;have hx0:=cb_ 0 (bk_ Q1.out E.bel) rfl;go_simp;exact rv
    refine rf (fun ev wo E=>?_) ?_
    · have e15:ev (.tmp 15)=.map (some mb):=E.e 0;have e16:ev (.tmp 16)=.string S:=E.e 1;have hrun:=qJo (HA.out.to E.bel).map HZ.out HV.out HB.out;go_simp;exact rv
    refine rc 0 ?_;refine rf (fun ev wo E=>?_) ?_
    · have e11:ev (.tmp 11)=.tuple #[.slice A n c,.bool true]:=E.e 0;go_simp;exact rv
    refine rf (fun ev wo E=>?_) ?_
    · have e11:ev (.tmp 11)=.tuple #[.slice A n c,.bool true]:=E.e 0;go_simp;exact rv
    refine⟨qA7 0 (qA5.free rfl) (.inr rfl) rfl rfl rfl rfl (qAr _),?_⟩;refine⟨qA7 0 (qA5.free rfl) (.inr rfl) rfl rfl rfl rfl (qAr _),?_⟩;trivial
  · intro w1 bw1
    (iterate 11 rintro _ rfl);have hA:=HAA.out;subst hA
    have A1:=hh_ (HA.out.to bw1);have Q11:=hh_ (bk_ Q1.out bw1);have Q21:=hh_ (bk_ Q2.out bw1);have Y1:=hh_ (HY.out.to bw1);have R1:=hh_ (HR.out.to bw1);have BW:=hh_ bw1;have TL1:=hh_ ((TL.out.below bw1).more bw1.size);have SR1:=hh_ (SR.out.to bw1);clear bw1 HA Q1 Q2 HY HR TL SR HAA;simp only[qAq];go_simp;go_upto_region 3 with fail
    have Q2:=Q21;have TL:=TL1;clear Q21 TL1;by_cases hsame:sl=s
    · have HSM:=hh_ (show ∀W,Below w1.heap.size w1 W→Calls Tryz.prog 35 #[.agg #[.slice rl.a rl.n rl.c,.slice rl.b rl.m rl.d],.agg #[.slice r.a r.n r.c,.slice r.b r.m r.d]] W (fun e w'=>e=.returned (.bool true)∧Below W.heap.size W w') from fun W hb=>by
        have h:=SM.out W (SR1.out.to hb) (R1.out.to hb);subst hsame
        simpa using h)
      have hgo:=HG.out.1 (by rw[hlast,hsame]);have HGO:=hh_ (HRES.out.symm.trans hgo);clear hgo SM SR1;refine qAe [iT,iT,isV (.slice (some ⟨ga,oa,none⟩) n c),isV (.int .i64 (n:Nat)),isV (.int .i64 (m:Nat)),isV (.pointer (some ⟨ga,oa+m*2,none⟩)),isV (.agg #[.slice rl.a rl.n rl.c,.slice rl.b rl.m rl.d]),isV (.agg #[.slice r.a r.n r.c,.slice r.b r.m r.d]),iT,iT,iT] (by kernel_rfl) (by kernel_rfl) ?_ ?_
      ·
        refine rb ?_;refine rc 0 ?_;refine rbq 0 ?_;refine rbq 0 ?_;refine rq 1 (fun ev wo E=>?_) ?_
        · have e26:ev (.tmp 26)=.int .i64 (n:Nat):=E.e 0;have ec:=E.const;have h0:=hwm;go_simp;exact rv
        refine rq 2 (fun ev wo E=>?_) ?_
        · have e25:ev (.tmp 25)=.slice (some ⟨ga,oa,none⟩) n c:=E.e 0;have e27:ev (.tmp 27)=.int .i64 (m:Nat):=E.e 1;have h1:=hm1;have h2:=hm2;go_simp;exact rv
        refine rq 1 (fun ev wo E=>?_) ?_
        · have e28:ev (.tmp 28)=.pointer (some ⟨ga,oa+m*2,none⟩):=E.e 0;have hx0:=(E.bel.cell TL.out.lt).trans TL.out.c0;have hx1:=(E.bel.cell TL.out.lt).trans TL.out.c1;go_simp;exact rv
        refine rq 0 (fun ev wo E=>?_) ?_
        · have e2:ev (.tmp 2)=.pointer (some ⟨b2,0,none⟩):=(E.base 2 rfl).trans rfl;have hx0:=cb_ 0 (bk_ Q2.out E.bel) rfl;have hx1:=cb_ 1 (bk_ Q2.out E.bel) rfl;go_simp;exact rv
        refine rq 2 (fun ev wo E=>?_) ?_
        · have e29:ev (.tmp 29)=.agg #[.slice rl.a rl.n rl.c,.slice rl.b rl.m rl.d]:=E.e 0;have e30:ev (.tmp 30)=.agg #[.slice r.a r.n r.c,.slice r.b r.m r.d]:=E.e 1;have ef:=E.func;go_simp;refine qAb ((HSM.out wo E.bel).mono ?_);rintro e w' ⟨rfl,hb⟩;exact⟨_,rfl,hb,rfl⟩
        refine rf (fun ev wo E=>?_) ?_
        · have e24:ev (.tmp 24)=.bool true:=E.e 0;have e31:ev (.tmp 31)=.bool true:=E.e 1;have ec:=E.const;go_simp;exact rv
        refine⟨qA7 0 (qA5.free rfl) (.inr rfl) rfl rfl rfl rfl (qAr _),?_⟩;trivial
      · intro wq bq
        (iterate 11 rintro _ rfl);have BQ:=hh_ (BW.out.trans (bq.mono BW.out.size));clear bq BW HSM TL Q2;simp only[qAq];go_simp
        go_wp2_with fail
        refine bodyPost_ret (v:=.tuple #[.pointer none,.int .i64 n,.int .i64 0]) ?_ rfl ?_
        · simp[results,Tryz.results40,Tryz.f40,go_sem]
        have e:=HGO.out;cases e;exact qIe.same BQ.out
    · have HSM :=hh_ (show ∀W,Below w1.heap.size w1 W→Calls Tryz.prog 35 #[.agg #[.slice rl.a rl.n rl.c,.slice rl.b rl.m rl.d],.agg #[.slice r.a r.n r.c,.slice r.b r.m r.d]] W (fun e w'=>e=.returned (.bool false)∧Below W.heap.size W w') from fun W hb=>by
        have h:=SM.out W (SR1.out.to hb) (R1.out.to hb)
        have hf:(decide (sl.1=s.1)&&decide (sl.2=s.2))=false:=by
         rw[Bool.and_eq_false_iff];by_cases e1:sl.1=s.1
         · exact .inr (decide_eq_false (fun e2=>hsame (Prod.ext e1 e2)))
         · exact .inl (decide_eq_false e1)
        rw[hf] at h
        exact h)
      have HNL:=hh_ (show L.getLast?≠some s from fun e=>hsame (by rw[hlast] at e;exact Option.some.inj e));clear SM SR1;refine qAe [iT,iT,isV (.slice (some ⟨ga,oa,none⟩) n c),isV (.int .i64 (n:Nat)),isV (.int .i64 (m:Nat)),isV (.pointer (some ⟨ga,oa+m*2,none⟩)),isV (.agg #[.slice rl.a rl.n rl.c,.slice rl.b rl.m rl.d]),isV (.agg #[.slice r.a r.n r.c,.slice r.b r.m r.d]),iF,iF,iF] (by kernel_rfl) (by kernel_rfl) ?_ ?_
      ·
        refine rb ?_;refine rc 0 ?_;refine rbq 0 ?_;refine rbq 0 ?_;refine rq 1 (fun ev wo E=>?_) ?_
        · have e26:ev (.tmp 26)=.int .i64 (n:Nat):=E.e 0;have ec:=E.const;have h0:=hwm;go_simp;exact rv
        refine rq 2 (fun ev wo E=>?_) ?_
        · have e25:ev (.tmp 25)=.slice (some ⟨ga,oa,none⟩) n c:=E.e 0;have e27:ev (.tmp 27)=.int .i64 (m:Nat):=E.e 1;have h1:=hm1;have h2:=hm2;go_simp;exact rv
        refine rq 1 (fun ev wo E=>?_) ?_
        · have e28:ev (.tmp 28)=.pointer (some ⟨ga,oa+m*2,none⟩):=E.e 0;have hx0:=(E.bel.cell TL.out.lt).trans TL.out.c0;have hx1:=(E.bel.cell TL.out.lt).trans TL.out.c1;go_simp;exact rv
        refine rq 0 (fun ev wo E=>?_) ?_
        · have e2:ev (.tmp 2)=.pointer (some ⟨b2,0,none⟩):=(E.base 2 rfl).trans rfl;have hx0:=cb_ 0 (bk_ Q2.out E.bel) rfl;have hx1:=cb_ 1 (bk_ Q2.out E.bel) rfl;go_simp;exact rv
        refine rq 2 (fun ev wo E=>?_) ?_
        · have e29:ev (.tmp 29)=.agg #[.slice rl.a rl.n rl.c,.slice rl.b rl.m rl.d]:=E.e 0;have e30:ev (.tmp 30)=.agg #[.slice r.a r.n r.c,.slice r.b r.m r.d]:=E.e 1;have ef:=E.func;go_simp;refine qAb ((HSM.out wo E.bel).mono ?_);rintro e w' ⟨rfl,hb⟩;exact⟨_,rfl,hb,rfl⟩
        refine rf (fun ev wo E=>?_) ?_
        · have e24:ev (.tmp 24)=.bool true:=E.e 0;have e31:ev (.tmp 31)=.bool false:=E.e 1;have ec:=E.const;go_simp;exact rv
        refine⟨qA7 0 (qA5.free rfl) (.inr rfl) rfl rfl rfl rfl (qAr _),?_⟩;trivial
      · intro wq bq
        (iterate 11 rintro _ rfl)
        have HA:=hh_ (A1.out.to bq);have Q1:=hh_ (bk_ Q11.out bq);have Q22:=hh_ (bk_ Q2.out bq);have HY:=hh_ (Y1.out.to bq);have HR:=hh_ (R1.out.to bq);have BQ:=hh_ (BW.out.trans (bq.mono BW.out.size));clear bq A1 Q11 Q2 Y1 R1 BW HSM TL;have Q2:=Q22;clear Q22;simp only[qAq];go_simp;by_cases h64:n=64
        · have hgo:=HG.out.2.1 HNL.out (.inl h64);have HGO:=hh_ (HRES.out.symm.trans hgo);have h64b:((n:Int)==64)=true:=by rw[h64];rfl
          clear hgo h64;go_wp2_with fail
          refine bodyPost_ret (v:=.tuple #[.pointer none,.int .i64 0,.int .i64 5]) ?_ rfl ?_
          · simp[results,Tryz.results40,Tryz.f40,go_sem]
          have e:=HGO.out;cases e;exact qIe.same BQ.out
        · have h64b:((n:Int)==64)=false:=by rw[beq_eq_false_iff_ne];omega
          have HLM:=hh_ (show ¬(n=64∨(qAp G S.data.toList=none∧G.length=16)) from fun h=>h.elim h64 (fun e=>by rw[HKK.out] at e;cases e.1));have hn63:n≤63:=by have:=HN.out;omega
          clear h64;go_upto_region 7 with fail
          refine qDc (l:=[_,_,_,_,_]) (o:=_) (t:=[_]) [isV (.slice (some ⟨ga,oa,none⟩) n c),qMl wq.heap.size 33 rs n,isV (.agg #[.slice r.a r.n r.c,.slice r.b r.m r.d]),qNj Kp 45 3 s,qTi Kp 33 45 3 s] (by kernel_rfl) (by kernel_rfl) (by kernel_rfl) (by kernel_rfl) (by kernel_rfl) (by kernel_rfl) (by kernel_rfl) ?_ ?_
          ·
            refine rb ?_;refine⟨qBo (qA5.free rfl) (qE6 _ _ _ _) (fun ev wo E=>?_),?_⟩
            · have e49:ev (.tmp 49)=.slice (some ⟨ga,oa,none⟩) n c:=E.e 0;have ef:=E.func;go_simp;refine qAb ((qIh wo (some ⟨ga,oa,none⟩) n c rs (by have:=HN.out;omega) HLEN.out ((HY.out.lay.below E.bel).more E.bel.size)).mono ?_);rintro e w' ⟨v,rfl,ho,hb⟩;obtain⟨A',c',rfl,-,-⟩:=qAf ho;refine⟨_,rfl,hb,A',c',by rw[HLEN.out],?_⟩;have hq:=qAv ho E.bel.size;rw[←HLEN.out] at hq;exact hq
            refine rf (fun ev wo E=>?_) ?_
            · have e2:ev (.tmp 2)=.pointer (some ⟨b2,0,none⟩):=(E.base 2 rfl).trans rfl;have hx0:=cb_ 0 (bk_ Q2.out E.bel) rfl;have hx1:=cb_ 1 (bk_ Q2.out E.bel) rfl;go_simp;exact rv
            refine⟨qBo (qA5.free rfl) (qGy _ _ _ _) (fun ev wo E=>?_),?_⟩
            · have e51:ev (.tmp 51)=.agg #[.slice r.a r.n r.c,.slice r.b r.m r.d]:=E.e 0;have ef:=E.func;go_simp;refine qAb ((qEe r s wo (HR.out.to E.bel)).mono ?_);rintro e w' ⟨r',rfl,hb,ht,ho,hi⟩;unfold qBw at ho;unfold OwnI at hi;have hzo:wq.heap.size≤wo.heap.size:=E.bel.size;have hzw:=BQ.out.size;exact⟨_,rfl,hb,r',rfl,ht,AtK.own ho (fun b h=>HKP.out b (by omega)) _,AtK.own hi (fun b h=>HKP.out b (by omega)) _⟩
            refine⟨qBo (qA5.free rfl) (qGp _ _ _ _ _) (fun ev wo E=>?_),?_⟩
            · have e52:(qNj Kp 45 3 s) (ev (.tmp 52)) wo:=E.d 0 rfl rfl rfl;obtain⟨r',e0,ht,hk'⟩:=e52;go_simp;have bn:=(Below.refl wo.heap.size wo).alloc le_ (.cells #[.slice r'.a r'.n r'.c,.slice r'.b r'.m r'.d] 33);exact qA9 ⟨bn,_,r',rfl,qAd _ _,ht.to bn,hk'⟩
            trivial
          · intro wz bz;rintro _ rfl;intro v50 h50;rintro _ rfl;intro v52 h52;intro v53 h53;have h50s:=Classical.choose_spec h50;generalize Classical.choose h50=A5 at h50s;have h50t:=Classical.choose_spec h50s;generalize Classical.choose h50s=c5 at h50t;have h53s:=Classical.choose_spec h53;generalize Classical.choose h53=gn at h53s;have h53t:=Classical.choose_spec h53s;generalize Classical.choose h53s=rn at h53t;have q50:=h50t.1;have q53:=h53t.1;subst q50;subst q53;simp only[qAq,qGt];refine qGr (.tmp 50) (.tmp 53) 36 rfl wq.heap.size 33 sc _ 2 48 qC8 si sz0 sz1 sz2 rfl (by omega) _ _ _ rfl h50t.2 _ (some ⟨gn,0,none⟩) 1 1 rn.vs rfl rfl (qI6 h53t.2.1) (fun u hu=>qD2 [rn] u (by simpa[scsV] using hu)) (by have:=HN.out;unfold maxLen;omega) (by have:=HN.out;omega) bz.size ?_;intro v8 w8 hown8 hg8;have hq:=qAf hown8;have hq1:=Classical.choose_spec hq;generalize Classical.choose hq=A8 at hq1;have hq2:=Classical.choose_spec hq1;generalize Classical.choose hq1=c8 at hq2;have e8:=hq2.1;subst e8;have n1:(45:TypeId)≠33:=by decide
            have n2:(3:TypeId)≠33:=by decide
            have b8:Below wq.heap.size wq w8:=qAh h50t.2 bz bz.size le_ hg8;have ht8:=h53t.2.2.1.eff (EffT.own h50t.2 hg8) n1 n2
            have l8:Lay w8 w8.heap.size A8 (scsV (rs++[rn])):=by
             have h:=Lay.of_own hown8 le_;rw[qHb,show scsV [rn]=rn.vs by simp[scsV]];exact h
            have hsc:qA0 w8 w8.heap.size A8 (rs++[rn]) (L++[s]):=qA0.snoc HY.out.len l8 (fun i r' s' h1 h2=>(HY.out.each i r' s' h1 h2).to b8) ht8.lay;have HRK:=hh_ (show qDt Kp A8 (rs++[rn]) from HYK.out.snoc (AtK.own hown8 (fun b h=>HKP.out b (by have:=BQ.out.size;omega)) _) h53t.2.2.2);have HSC:=hh_ hsc;have B8:=hh_ b8;have C8:=hh_ hq2.2;clear bz h50 h50s h50t h53 h53s h53t h52 hown8 hg8 hq hq1 hq2 l8 hsc b8 ht8 n1 n2;unfold Oper.wp;go_simp;have hch:=qJy w8 A8 (n+1) c8 (rs++[rn]) (L++[s]) (by have:=HN.out;omega) (by rw[List.length_append,←HLEN.out];rfl) HSC.out HSZ.out (HE.out.below (BQ.out.trans (B8.out.mono BQ.out.size)));obtain⟨K,hK⟩:∃K,qAs (L++[s])=K:=⟨_,rfl⟩;rw[hK] at hch;have HCH:=hh_ hch;have HK:=hh_ hK;clear hch hK;by_cases hk0:K=0
            · subst hk0;have hgo:=HG.out.2.2.2 HNL.out HLM.out HK.out
              have hok:RgOk (qBl G S.data.toList (L++[s])):=by
               have h:=HA.out.ok.add S.data.toList s;rw[hgo] at h;exact h
              have HOK:=hh_ hok;have HGO:=hh_ (HRES.out.symm.trans hgo);clear hgo hok;go_wp2_with fail
              refine HCH.out.mono ?_;rintro e w9 ⟨rfl,b9⟩;have A9:=hh_ (HA.out.to (B8.out.trans (b9.mono B8.out.size)));have SC9:=hh_ (HSC.out.to b9);have B9:=hh_ (BQ.out.trans ((B8.out.trans (b9.mono B8.out.size)).mono BQ.out.size));have Q19:=hh_ (bk_ Q1.out (B8.out.trans (b9.mono B8.out.size)));have c0:=cb_ 0 (v:=.map (some mb)) A9.out.snap rfl;have hcl:=AnyW.maps_Clone_owns Tryz.mclone42 9 qCx mb G.length D w9 A9.out.map;have HCL:=hh_ hcl;clear b9 HCH hcl B8 HSC;go_wp2_with fail
              refine HCL.out.mono ?_;rintro e wa ⟨rfl,hm1,-,ba⟩;obtain⟨Y,hY⟩:∃Y,Y=wa.alloc (.cells #[.map (some w9.heap.size)] 87):=⟨_,rfl⟩;have bY:Below wa.heap.size wa Y:=by rw[hY];exact br_.alloc le_ _
              have qY:Y.heap[wa.heap.size]?=some (.cells #[.map (some w9.heap.size)] 87 (0,0)):=by rw[hY];exact qAd _ _
              have bb:Below w9.heap.size w9 Y:=ba.trans (bY.mono ba.size);have mY:Y.ownsMap Tryz.prog 9 qCx w9.heap.size G.length D:=by rw[hY];exact hm1.alloc _
              obtain⟨mb2,hmb⟩:∃k,k=w9.heap.size:=⟨_,rfl⟩;obtain⟨sp2,hsp⟩:∃k,k=wa.heap.size:=⟨_,rfl⟩;have QY:=hh_ (show Y.heap[sp2]?=some (.cells #[.map (some mb2)] 87 (0,0)) by rw[hsp,hmb];exact qY);have MY:=hh_ (show Y.ownsMap Tryz.prog 9 qCx mb2 G.length D by rw[hmb];exact mY);have AY:=hh_ (A9.out.to bb);have SY:=hh_ (SC9.out.to bb);have BY:=hh_ (B9.out.trans (bb.mono B9.out.size));have Q1Y:=hh_ (bk_ Q19.out bb)
              have HLO:=hh_ (show w.heap.size≤mb2∧sp2≠mb2 by
               have h1:=B9.out.size;have h2:=hm1.lt
               omega)
              clear hm1 ba bY qY bb mY HCL A9 SC9 B9 Q19 c0;go_upto_region 11 with fail
              rw[←hY];rw[←hsp];rw[←hmb];clear hY hsp hmb;refine qB4 (l:=[_,_,_,_,_,_]) (o:=_) [isV (.pointer (some ⟨sp2,0,none⟩)),isV (.pointer (some ⟨sp2,0,none⟩)),isV (.pointer (some ⟨sp2,0,none⟩)),isV (.map (some mb2)),isV (.string S),isV (.slice A8 (n+1) c8)] (by kernel_rfl) (by kernel_rfl) (by kernel_rfl) (by kernel_rfl) rfl ?_ ?_
              ·
                refine rb ?_;refine rf (fun ev wo E=>?_) ?_
                · have e65:ev (.tmp 65)=.pointer (some ⟨sp2,0,none⟩):=E.e 0;go_simp;exact rv
                refine rf (fun ev wo E=>?_) ?_
                · have e66:ev (.tmp 66)=.pointer (some ⟨sp2,0,none⟩):=E.e 0;go_simp;exact rv
                refine rf (fun ev wo E=>?_) ?_
                · have e67:ev (.tmp 67)=.pointer (some ⟨sp2,0,none⟩):=E.e 0;have hx0:=cb_ 0 (bk_ QY.out E.bel) rfl;go_simp;exact rv
                refine rf (fun ev wo E=>?_) ?_
                · have e1:ev (.tmp 1)=.pointer (some ⟨b1,0,none⟩):=(E.base 1 rfl).trans rfl;have hx0:=cb_ 0 (bk_ Q1Y.out E.bel) rfl;go_simp;exact rv
                refine rb ?_;trivial
              · intro wz bz
                (iterate 6 rintro _ rfl);have hput:=qM7 MY.out bz (show G.length<maxLen by have:=AY.out.ok.len;unfold maxLen;omega) HZ.out (.slice A8 (n+1) c8);have hw:=Classical.choose_spec hput
                generalize Classical.choose hput=w' at hw;have hrun:=hw.1;have hm3:=hw.2.1;have hg3:=hw.2.2;have az:=AY.out.to bz;have hmz:=MY.out.kept (row:=none) ⟨bz.os,bz.tape,bz.output,bz.size,fun k hk _=>bz.block k hk⟩ (by simp);have hqm:∃es clock,wz.heap[mb2]?=some (.map es clock):=by obtain⟨es,clock,h,_⟩:=hmz;exact⟨es,clock,h⟩
                have hin:RgIn Kp wz (D.put (.string S.data.toList) (.held (.slice A8 (n+1) c8))) (qBl G S.data.toList (L++[s])):=by
                 have h:=az.inn.put (az.map.tidy qFz) az.ok.up S.data.toList (A:=A8) (c:=c8) (SY.out.to bz) HRK.out;rw[show(L++[s]).length=n+1 by rw[List.length_append,←HLL.out];rfl] at h;exact h
                have hin2:RgIn Kp w' (D.put (.string S.data.toList) (.held (.slice A8 (n+1) c8))) (qBl G S.data.toList (L++[s])):=by
                 obtain⟨es,clock,h⟩:=hqm;exact hin.butM hg3 h
                have hm4:=qHe hm3;rw[hin2.size] at hm4;have hsn:w'.heap[sp2]?=some (.cells #[.map (some mb2)] 87 (0,0)):=(hg3.block _ (Array.getElem?_eq_some_iff.1 (bk_ QY.out bz)).1 (fun e=>HLO.out.2 (by cases e;rfl))).trans (bk_ QY.out bz);have hb':Below w.heap.size w w':=(BY.out.trans (bz.mono BY.out.size)).grown hg3 (Nat.le_trans BY.out.size bz.size) (fun k e=>by cases e;exact HLO.out.1);have FIN:=hh_ (show RgS Kp w G (qBl G S.data.toList (L++[s])) ((n:Int)+1) 0 (.returned (.tuple #[.pointer (some ⟨sp2,0,none⟩),.int .i64 ((n:Int)+1),.int .i64 0])) w' from⟨hb',.inr ⟨sp2,mb2,_,rfl,hsn,hm4,hin2,HOK.out⟩⟩);have hwn:=iw_ ((n:Int)+1) (by have:=HN.out;omega);clear bz hput hw hm3 hg3 az hmz hqm hin hin2 hm4 hsn hb';simp only[qAq];unfold Oper.wp;go_simp;go_wp2_with fail
                refine bodyPost_ret (v:=.tuple #[.pointer (some ⟨sp2,0,none⟩),.int .i64 ((n:Int)+1),.int .i64 0]) ?_ rfl ?_
                · simp[results,Tryz.results40,Tryz.f40,go_sem]
                have e:=HGO.out;cases e;first|exact FIN.out|(rw[←HLL.out];exact FIN.out)
            · have hgo:=HG.out.2.2.1 HNL.out HLM.out (fun e=>hk0 (HK.out.symm.trans e));have HGO:=hh_ (HRES.out.symm.trans hgo);have hkb:(K==0)=false:=by simpa using hk0
              have hkn:(K != 0)=true:=by simpa using hk0
              clear hgo;go_wp2_with fail
              refine HCH.out.mono ?_;rintro e w9 ⟨rfl,b9⟩;have B9:=hh_ (BQ.out.trans ((B8.out.trans (b9.mono B8.out.size)).mono BQ.out.size));clear b9;go_wp2_with fail
              refine bodyPost_ret (v:=.tuple #[.pointer none,.int .i64 0,.int .i64 120]) ?_ rfl ?_
              · simp[results,Tryz.results40,Tryz.f40,go_sem]
              have e:=HGO.out;cases e;exact qIe.same B9.out
end Go.Proofs.YtainiaighnjpfaaGreatDoor
