/- Registries: Get, Chain, Subjects. Registries: Chain. Registries: what Add's inner function needs. A region that draws its order, reads, and fills two new boxes: q, then two new boxes, then a store into each. -/
import Derived.Test.YtainiaighnjpfaaGreatDoorZQad
import Derived.Test.YtainiaighnjpfaaGreatDoorZQp
import Derived.Test.YtainiaighnjpfaaGreatDoorZQx
import Derived.Test.YtainiaighnjpfaaGreatDoorZQs
import Derived.Test.YtainiaighnjpfaaGreatDoorZQt
set_option linter.unusedVariables false
set_option linter.unusedSimpArgs false
namespace Go.Proofs.YtainiaighnjpfaaGreatDoor
open Go.RowKit Go.Maps Go.Sort Go.Shelf Go.Proofs
theorem qN2 (m:Nat):AnyZ.SortsIn Tryz.prog Tryz.sorted53_ren Fence.wide m:=
  ⟨fun blk off cap ss W hH hblk hsz=>callsIn_wide.2 (AnyM.slices_Sort_string Tryz.sort92 blk off cap ss W hH hblk hsz),
   fun p cap W=>callsIn_wide.2 (AnyM.slices_Sort_string_none Tryz.sort92 p cap W)⟩
theorem qQh (mb:Option Nat) (W:World):CallsIn Fence.wide 5 Tryz.prog 54 #[.map mb] W fun e w'=>e=.returned (.func (.func 93) #[] #[.pointer (some ⟨W.heap.size,0,none⟩)])∧w'=W.alloc (.cells #[.map mb] 85):=
  AnyZ.keys_in Tryz.keys54 Fence.wide 5 trivial rfl mb W
set_option maxHeartbeats 1000000 in
theorem qLt {H:Type} (b nn:Nat) (D0:DataW H) (R:Value→Option (DataW H×List MemPlace)) (w:World) (hown:w.ownsMap Tryz.prog 9 R b nn D0) (hmax:Maps.size D0≤maxLen) (hbytes:Maps.size D0*16≤140737488355328) :
    CallsIn Fence.wide 5 Tryz.prog 53 #[.func (.func 93) #[] #[.pointer (some ⟨w.heap.size,0,none⟩)]] (w.alloc (.cells #[.map (some b)] 85)) fun e w'=> ∃(v:Value) (ss:List (List UInt8)),e=.returned v∧ss.Perm (strKeys D0)∧
      w'.ownsRow (w.alloc (.cells #[.map (some b)] 85)).heap.size 9 1 v ss.length ((ss.mergeSort (fun x y=>decide (x≤y))).map encStr)∧(v=.slice none 0 0↔ss=[])∧Below (w.alloc (.cells #[.map (some b)] 85)).heap.size (w.alloc (.cells #[.map (some b)] 85)) w':=by
 have hbl:=hown.lt
 have hseq:SeqGives Fence.wide 2 Tryz.prog 93 #[.pointer (some ⟨w.heap.size,0,none⟩)] encStr (fun ss=>ss.Perm (strKeys D0)) (Maps.size D0) (w.alloc (.cells #[.map (some b)] 85)):=
   AnyZ.keys_gives (ρ:=Tryz.keys54_ren) { Tryz.keys54 with } Fence.wide _ trivial rfl (by omega) w.heap.size b nn D0 _ (by simp) (by simp) (by
     obtain⟨es,clock,hb,Ft,hs,hD⟩:=hown
     exact⟨es,clock,(Below.heap_alloc _ _ b hbl).trans hb,Ft,hs,hD⟩)
 exact AnyZ.sorted_in Tryz.sorted53 Fence.wide 5 trivial trivial trivial trivial rfl (by omega) (qN2 _) (enters_of Tryz.func92 (by kernel_rfl) rfl) 93 #[.pointer (some ⟨w.heap.size,0,none⟩)] trivial (enters_of Tryz.func93 (by kernel_rfl) rfl) _ _ hmax hbytes _ hseq
end Go.Proofs.YtainiaighnjpfaaGreatDoor
namespace Go.Ms
open Go.RowKit Go.Lib Go.Maps
end Go.Ms
namespace Go.Proofs.YtainiaighnjpfaaGreatDoor
open Go.RowKit Go.Ms Go.Lib Go.Maps Go.WideMaps
theorem qMz {w:World} {b n:Nat} {D:DataW Value} (h:w.ownsMap Tryz.prog 9 qCj b n D):∀es,D=.map es→∀p∈es,∃x,p.1=.string x:=fun es e p hp=>by
 obtain⟨es',e',hk⟩:=h.keysOf;rw[e'] at e
 obtain rfl:es'=es:=by simpa using e
 obtain⟨v,hv⟩:=hk p hp;obtain⟨x,_,hx,_⟩:=Maps.keyOf_str Tryz.underlying9 hv;exact⟨x,hx⟩
def qVe (w:World) (N:List Bs) (e:Ending) (w':World):Prop:= ∃v,e=.returned v∧w'.ownsRow w.heap.size 9 1 v N.length (N.map encStr)∧Below w.heap.size w w'
set_option maxRecDepth 100000 in
theorem qBj {Kp:Nat→Prop} (g:Nat) (G:Rg) (w:World) (h:RgLK Kp g G w) :
    Calls Tryz.prog 22 #[.pointer (some ⟨g,0,none⟩)] w (qVe w (G.map Prod.fst)):=by
 obtain⟨sp,mb,D,ha⟩:=h;have hl:=qEi g sp mb D G w ha;have c0:=cell_of_block (i:=0) ha.snap rfl;have hk:=(callsIn_wide (n:=5)).1 (qQh (some mb) w)
 have hz:Maps.size D≤16:=by rw[ha.inn.size];exact ha.ok.len
 have hs:=(callsIn_wide (n:=5)).1 (qLt mb G.length D qCj w ha.map (by unfold maxLen;omega) (by omega))
 have hn:=fun (ss:List Bs) (hp:ss.Perm (strKeys D))=>qR6 (ha.map.tidy qEd) (qMz ha.map) ha.inn ha.ok.up hp
 have HL:=Lib.hid hl;have HK:=Lib.hid hk;have HS:=Lib.hid hs;have HN:=Lib.hid hn
 clear hl hk hs hn hz ha
 go_enter Tryz.func22,Tryz.ntmps22
 go_wp2_with fail
 refine HL.out.mono ?_;rintro e w' ⟨rfl,hw⟩;rw[hw];clear hw
 go_wp2_with fail
 refine HK.out.mono ?_;rintro e w' ⟨rfl,hw⟩;rw[hw];clear hw
 go_wp2_with fail
 refine HS.out.mono ?_;rintro e w2 ⟨v,ss,rfl,hp,ho,-,hb⟩;have e1:=HN.out ss hp
 have e2:ss.length=(G.map Prod.fst).length:=by rw[←e1,List.length_mergeSort]
 have ho2:w2.ownsRow w.heap.size 9 1 v (G.map Prod.fst).length ((G.map Prod.fst).map encStr):=by
  rw[←e2,←e1];exact qB1 ho (by rw[World.size_alloc];omega)
 have hb2:Below w.heap.size w w2:=((Below.refl _ w).alloc (Nat.le_refl _) _).trans (hb.mono (by rw[World.size_alloc];omega))
 have HO:=Lib.hid ho2;have HB:=Lib.hid hb2
 clear ho ho2 hb hb2 hp e1 e2
 go_wp2_with fail
 go_ret
 exact⟨v,rfl,HO.out,HB.out⟩
set_option maxRecDepth 100000 in
set_option maxHeartbeats 1000000 in
theorem qHb {Kp:Nat→Prop} (g:Nat) (G:Rg) (S:ByteArray) (v:Int) (w:World) (hS:S.size≤100000) (h:RgLK Kp g G w) (hv: -9223372036854775808≤v∧v≤9223372036854775807) :
    Calls Tryz.prog 20 #[.pointer (some ⟨g,0,none⟩),.string S,.int .i64 v] w (qUo w (qHj G S.data.toList v).1 (qHj G S.data.toList v).2):=by
 obtain⟨X,hX⟩:∃X,X=w.alloc (.cells #[.slice none 0 0,.slice none 0 0] 33):=⟨_,rfl⟩
 have bX:Below w.heap.size w X:=by rw[hX];exact(Below.refl _ w).alloc (Nat.le_refl _) _
 have qX:X.heap[w.heap.size]?=some (.cells #[.slice none 0 0,.slice none 0 0] 33 (0,0)):=by rw[hX];exact qAf _ _
 have hf:=qF5 g G S X hS (h.to bX)
 have hlen:(rgAt G S.data.toList).length≤64:=by
  obtain⟨_,_,_,ha⟩:=h
  by_cases e:rgAt G S.data.toList=[]
  · rw[e];exact Nat.zero_le _
  · exact ha.ok.few _ (qGy e)
 have x0:=cell_of_block (i:=0) (v:=.slice none 0 0) qX rfl;have x1:=cell_of_block (i:=1) (v:=.slice none 0 0) qX rfl;have f0:=qAb (i:=0) qX;have f1:=qAb (i:=1) qX;have q3:=qLf qX (.slice none 0 0) (.slice none 0 0);have b3:Below w.heap.size w ((X.setCell ⟨w.heap.size,0,none⟩ (.slice none 0 0)).setCell ⟨w.heap.size,1,none⟩ (.slice none 0 0)):=(bX.setCell (p:=⟨w.heap.size,0,none⟩) (Nat.le_refl _) _).setCell (p:=⟨w.heap.size,1,none⟩) (Nat.le_refl _) _;have z0:=cell_of_block (i:=0) (v:=.slice none 0 0) q3 rfl
 have z1:=cell_of_block (i:=1) (v:=.slice none 0 0) q3 rfl
 have B3:=Lib.hid b3;have BX:=Lib.hid bX;have QX:=Lib.hid qX
 clear b3 bX qX q3 h hS
 cases hk:qAq G S.data.toList with
 |none=>
  have ha:rgAt G S.data.toList=[]:=by unfold rgAt;rw[hk];rfl
  have hg:qHj G S.data.toList v=(([],[]),130):=by unfold qHj;rw[hk]
  rw[hg];rw[hk,ha] at hf;simp only[Option.isSome_none,Bool.false_eq_true,if_false] at hf;have HF:=Lib.hid hf;clear hf hk ha hg hlen
  go_enter Tryz.func20,Tryz.ntmps20
  go_wp2_with fail
  rw[←hX];clear hX;refine HF.out.mono ?_;rintro e w' ⟨⟨A,c,rs,rfl,-⟩,hw⟩;rw[hw];clear hw
  go_wp2_with fail
  refine bodyPost_ret (v:=.tuple #[.agg #[.slice none 0 0,.slice none 0 0],.int .i64 130]) ?_ rfl ?_
  · simp[results,Tryz.results20,Tryz.f20,go_sem,z0,z1]
  exact qLm _ _ _ B3.out
 |some l=>
  have ha:rgAt G S.data.toList=l:=by unfold rgAt;rw[hk];rfl
  rw[hk] at hf;rw[ha] at hf hlen;simp only[Option.isSome_some,if_true] at hf
  by_cases hr:v<1∨(l.length:Int)<v
  · have hg:qHj G S.data.toList v=(([],[]),131):=by unfold qHj;rw[hk];simp only;rw[if_pos hr]
    rw[hg];have HF:=Lib.hid hf;clear hf hk ha hg hlen
    generalize l.length=n at HF hr
    by_cases h1:v<1
    · clear hr
      go_enter Tryz.func20,Tryz.ntmps20
      go_wp2_with fail
      rw[←hX];clear hX;refine HF.out.mono ?_;rintro e w' ⟨⟨A,c,rs,rfl,-⟩,hw⟩;rw[hw];clear hw
      go_wp2_with fail
      refine bodyPost_ret (v:=.tuple #[.agg #[.slice none 0 0,.slice none 0 0],.int .i64 131]) ?_ rfl ?_
      · simp[results,Tryz.results20,Tryz.f20,go_sem,z0,z1]
      exact qLm _ _ _ B3.out
    · have h2:(n:Int)<v:=hr.resolve_left h1;clear hr
      go_enter Tryz.func20,Tryz.ntmps20
      go_wp2_with fail
      rw[←hX];clear hX;refine HF.out.mono ?_;rintro e w' ⟨⟨A,c,rs,rfl,-⟩,hw⟩;rw[hw];clear hw
      go_wp2_with fail
      refine bodyPost_ret (v:=.tuple #[.agg #[.slice none 0 0,.slice none 0 0],.int .i64 131]) ?_ rfl ?_
      · simp[results,Tryz.results20,Tryz.f20,go_sem,z0,z1]
      exact qLm _ _ _ B3.out
  · obtain⟨k,rfl⟩:∃k:Nat,v=(k:Int)+1:=⟨(v-1).toNat,by omega⟩
    have hkl:k<l.length:=by omega
    obtain⟨s,hs⟩:∃s,l[k]?=some s:=⟨_,List.getElem?_eq_getElem hkl⟩
    have hg:qHj G S.data.toList ((k:Int)+1)=(s,0):=by
     unfold qHj;rw[hk]
     simp only
     rw[if_neg hr,show((k:Int)+1-1).toNat=k by omega,List.getD_eq_getElem?_getD,hs];rfl
    rw[hg]
    have HF:=Lib.hid hf;have HS:=Lib.hid hs
    have h1:¬((k:Int)+1<1):=by omega
    have h2:¬((l.length:Int)<(k:Int)+1):=by omega
    have hw1:IntKind.i64.wrap ((k:Int)+1-1)=(k:Int):=by rw[show(k:Int)+1-1=k by omega];exact IntWalk.i64_in _ (by omega)
    have h3:(k:Int)<l.length:=by omega
    clear hf hk ha hg hr z0 z1 B3
    go_enter Tryz.func20,Tryz.ntmps20
    go_wp2_with fail
    rw[←hX];clear hX;refine HF.out.mono ?_;rintro e w' ⟨⟨A,c,rs,rfl,hl⟩,hw⟩;rw[hw];clear hw;obtain⟨r,hr⟩:∃r,rs[k]?=some r:=⟨_,List.getElem?_eq_getElem (by rw[hl.len];exact hkl)⟩;obtain⟨ga,oa,ea,ta⟩:=hl.at_ hr;subst ea;have hone:=hl.each k r s hr HS.out;have y0:=ta.c0;have y1:=ta.c1;have HO:=Lib.hid hone;clear hl ta hone hr
    go_wp2_with fail
    refine(qF8 r s X HO.out).mono ?_;rintro e w2 ⟨r',rfl,hb,ht,o1,o2⟩;have q2:=qAa QX.out hb;have u0:=cell_of_block (i:=0) (v:=.slice none 0 0) q2 rfl;have u1:=cell_of_block (i:=1) (v:=.slice none 0 0) q2 rfl;have g0:=qAb (i:=0) q2;have g1:=qAb (i:=1) q2;have q4:=qLf q2 (.slice r'.a r'.n r'.c) (.slice r'.b r'.m r'.d);have y2:=cell_of_block (i:=0) (v:=.slice r'.a r'.n r'.c) q4 rfl;have y3:=cell_of_block (i:=1) (v:=.slice r'.b r'.m r'.d) q4 rfl
    have b2:Below w.heap.size w ((w2.setCell ⟨w.heap.size,0,none⟩ (.slice r'.a r'.n r'.c)).setCell ⟨w.heap.size,1,none⟩ (.slice r'.b r'.m r'.d)):=((BX.out.trans (hb.mono BX.out.size)).setCell (p:=⟨w.heap.size,0,none⟩) (Nat.le_refl _) _).setCell (p:=⟨w.heap.size,1,none⟩) (Nat.le_refl _) _;have e1:=EffT.set q2 0 (.slice r'.a r'.n r'.c);have e2:=EffT.set (two_set0 q2 (.slice r'.a r'.n r'.c)) 1 (.slice r'.b r'.m r'.d)
    have n1:(45:TypeId)≠33:=by decide
    have n2:(3:TypeId)≠33:=by decide
    have ht2:=(ht.eff e1 n1 n2).eff e2 n1 n2;have hXz:w.heap.size<X.heap.size:=(Array.getElem?_eq_some_iff.1 QX.out).1;have o12:=qB1 (own_set' (own_set' o1 (i:=0) hXz (.slice r'.a r'.n r'.c)) (i:=1) hXz (.slice r'.b r'.m r'.d)) BX.out.size;have o22:=qB1 (own_set' (own_set' o2 (i:=0) hXz (.slice r'.a r'.n r'.c)) (i:=1) hXz (.slice r'.b r'.m r'.d)) BX.out.size
    have B2:=Lib.hid b2;have HT:=Lib.hid ht2;have O1:=Lib.hid o12;have O2:=Lib.hid o22
    clear hb ht o1 o2 q2 q4 b2 e1 e2 ht2 o12 o22 y0 y1 f0 f1 x0 x1
    go_wp2_with fail
    refine bodyPost_ret (v:=.tuple #[.agg #[.slice r'.a r'.n r'.c,.slice r'.b r'.m r'.d],.int .i64 0]) ?_ rfl ?_
    · simp[results,Tryz.results20,Tryz.f20,go_sem,y2,y3]
    exact⟨r',rfl,B2.out,HT.out,O1.out,O2.out⟩
end Go.Proofs.YtainiaighnjpfaaGreatDoor
set_option linter.unusedSimpArgs false
namespace Go.Proofs.YtainiaighnjpfaaGreatDoor
open Go.RowKit Go.Ms Go.Lib Go.Maps Go.WideMaps
def qXn (w:World) (L:List Sc) (e:Ending) (w':World):Prop:= ∃(v:Value) (rs:List SRef),e=.returned v∧rs.length=L.length∧CkSt 33 45 3 v rs L w w'
set_option maxRecDepth 100000 in
set_option maxHeartbeats 2000000 in
theorem qV1 {Kp:Nat→Prop} (g:Nat) (G:Rg) (S:ByteArray) (w:World) (hS:S.size≤100000) (h:RgLK Kp g G w) :
    Calls Tryz.prog 12 #[.pointer (some ⟨g,0,none⟩),.string S] w (qXn w (rgAt G S.data.toList)):=by
 obtain⟨sc,si,sz0,sz1,sz2⟩:=info_parts qHt;have hf:=qF5 g G S w hS h
 have hlen:(rgAt G S.data.toList).length≤64:=by
  obtain⟨_,_,_,ha⟩:=h
  by_cases e:rgAt G S.data.toList=[]
  · rw[e];exact Nat.zero_le _
  · exact ha.ok.few _ (qGy e)
 generalize (if (qAq G S.data.toList).isSome=true then (0:Int) else 130)=E at hf
 generalize rgAt G S.data.toList=L at hf hlen
 have n1:(45:TypeId)≠33:=by decide
 have n2:(3:TypeId)≠33:=by decide
 have HF:=Lib.hid hf;clear hf h hS;obtain⟨n,hn⟩:∃n,L.length=n:=⟨_,rfl⟩;rw[hn] at HF hlen;have HN:=Lib.hid hn;clear hn
 go_enter Tryz.func12,Tryz.ntmps12
 go_wp2_with fail
 refine HF.out.mono ?_;rintro e w' ⟨⟨A,c,rs,rfl,hl⟩,hw⟩;rw[hw];clear hw HF;have HL:=Lib.hid hl;clear hl
 go_wp2_with fail
 go_loopw [4,17] (fun s4 s17 wr=> ∃(k:Nat) (qs:List SRef),k≤n∧s17=.int .i64 k∧qs.length=k∧CkSt 33 45 3 s4 qs L w wr) (fun _ s17 _=>n-(RowKit.intOf s17).toNat)
 case atStart=>exact⟨0,[],Nat.zero_le _,rfl,rfl,CkSt.nil⟩
 case round=>
  obtain⟨k,qs,hk,rfl,hq,hst⟩:=hrel
  by_cases hk2:k<n
  · have tk:(k:Int)<n:=by omega
    obtain⟨s,hs⟩:∃s,L[k]?=some s:=⟨_,List.getElem?_eq_getElem (by rw[HN.out];exact hk2)⟩;obtain⟨r,hr⟩:∃r,rs[k]?=some r:=⟨_,List.getElem?_eq_getElem (by rw[HL.out.len,HN.out];exact hk2)⟩;obtain⟨ga,oa,ea,ta⟩:=HL.out.at_ hr;subst ea;have ta2:=ta.below hst.bel;have y0:=ta2.c0;have y1:=ta2.c1;have hone:=(HL.out.each k r s hr hs).to hst.bel
    have ST:=Lib.hid hst;have HS:=Lib.hid hs;have HO:=Lib.hid hone;have HQ:=Lib.hid hq
    clear hst hs hone ta ta2 hr hq
    go_upto_region 5 with fail
    obtain⟨Y,hY⟩:∃Y,Y=wr.alloc (.cells #[.slice r.a r.n r.c,.slice r.b r.m r.d] 33):=⟨_,rfl⟩
    have bY:Below wr.heap.size wr Y:=by rw[hY];exact(Below.refl _ _).alloc (Nat.le_refl _) _
    have qY:Y.heap[wr.heap.size]?=some (.cells #[.slice r.a r.n r.c,.slice r.b r.m r.d] 33 (0,0)):=by rw[hY];exact qAf _ _
    have z0:=cell_of_block (i:=0) (v:=.slice r.a r.n r.c) qY rfl;have z1:=cell_of_block (i:=1) (v:=.slice r.b r.m r.d) qY rfl;rw[←hY]
    have SY:=Lib.hid (ST.out.to bY);have OY:=Lib.hid (HO.out.to bY)
    clear hY bY qY ST HO y0 y1
    go_wp2_with fail
    refine(qF8 r s Y OY.out).mono ?_;rintro e w2 ⟨r',rfl,hb,ht,-,-⟩;have bn:=(Below.refl w2.heap.size w2).alloc (Nat.le_refl _) (.cells #[.slice r'.a r'.n r'.c,.slice r'.b r'.m r'.d] 33)
    have S2:=Lib.hid ((SY.out.to hb).to bn);have T2:=Lib.hid (ht.to bn);have HNW:=Lib.hid (qDr w2 r'.vs 33);have HONE:=Lib.hid (fun u hu=>qI9 [r'] u (by simpa[scsV] using hu):∀u∈r'.vs,u.oneCell'=true)
    have hsz:=S2.out.bel.size;have HSZ:=Lib.hid hsz;have hql:=HQ.out;clear hb ht bn SY z0 z1 hsz
    go_wp2_with (at_builtin;refine qA5 rfl (.tmp 21) (.tmp 24) _ rfl w.heap.size 33 sc _ 2 48 qFu si sz0 sz1 sz2 rfl (by omega) _ _ _ rfl S2.out.own _ (some ⟨w2.heap.size,0,none⟩) 1 1 r'.vs rfl rfl HNW.out HONE.out (by unfold maxLen;omega) (by omega) HSZ.out ?_;intro v8 w8 hown8 hg8;have S8:=Lib.hid (S2.out.push n1 n2 (by rw[hql];exact HS.out) T2.out hown8 hg8);clear hown8 hg8)
    go_roundw
    case rel=>exact⟨k+1,_,by omega,by go_num,by rw[List.length_append,hql];rfl,S8.out⟩
    case measure=>simp[RowKit.intOf];omega
  · obtain rfl:k=n:=by omega
    have ST:=Lib.hid hst;have HQ:=Lib.hid hq
    clear hst hq
    go_wp2_with fail
    go_ret
    exact⟨_,qs,rfl,HQ.out.trans HN.out.symm,ST.out⟩
end Go.Proofs.YtainiaighnjpfaaGreatDoor
set_option linter.unusedSimpArgs false
namespace Go.Ms
open Go.RowKit Go.Lib Go.Maps
theorem Lay.butM {W W':World} {B:Nat} {A:Option Addr} {xs:List Value} {g:Nat} {es:Array MapEntry} {k:Nat} (h:Lay W B A xs) (hg:W.grownBy W' (some g)) (hq:W.heap[g]?=some (.map es k)):Lay W' B A xs:=by
 intro j u hu
 obtain⟨b,o,e,hlt,hc⟩:=h j u hu;refine⟨b,o,e,hlt,?_⟩
 have hne:b≠g:=by
  rintro rfl
  simp[World.cell?,hq] at hc
 have hb:b<W.heap.size:=by
  unfold World.cell? at hc;simp only at hc
  cases hv:W.heap[b]? with
  |none=>rw[hv] at hc;cases hc
  |some o'=>exact(Array.getElem?_eq_some_iff.1 hv).1
 have hk:W'.heap[b]?=W.heap[b]?:=hg.block b hb (fun e=>hne (by cases e;rfl));unfold World.cell? at hc ⊢;simp only at hc ⊢;rw[hk];exact hc
theorem qBl.butM {W W':World} {A:Option Addr} {rs:List SRef} {ss:List Sc} {g:Nat} {es:Array MapEntry} {k:Nat} (h:qBl W W.heap.size A rs ss) (hg:W.grownBy W' (some g)) (hq:W.heap[g]?=some (.map es k)):qBl W' W'.heap.size A rs ss:=
  ⟨h.len,(h.lay.butM hg hq).more hg.size,fun i r s h1 h2=>⟨(h.each i r s h1 h2).n,(h.each i r s h1 h2).m,(h.each i r s h1 h2).nn,(h.each i r s h1 h2).mm,((h.each i r s h1 h2).la.butM hg hq).more hg.size,((h.each i r s h1 h2).lb.butM hg hq).more hg.size⟩⟩
theorem RgIn.butM {Kp:Nat→Prop} {W W':World} {D:DataW Value} {G:Rg} {g:Nat} {es:Array MapEntry} {k:Nat} (h:RgIn Kp W D G) (hg:W.grownBy W' (some g)) (hq:W.heap[g]?=some (.map es k)):RgIn Kp W' D G:=
  ⟨h.size,h.has,h.no,fun x l e=>by obtain⟨A,c,rs,h1,h2,h3⟩:=h.at_ x l e;exact⟨A,c,rs,h1,h2.butM hg hq,h3⟩⟩
def qJc (B:Nat) (e:TypeId) (rs:List SRef) (n:Nat):Value→World→Prop:=fun v w=> ∃A c,v=.slice A n c∧w.ownsRow B e 2 (.slice A n c) n (scsV rs)
theorem qD9 (B:Nat) (e:TypeId) (rs:List SRef) (n:Nat):Go.Rel.Stable (qJc B e rs n):=fun v w w' ⟨A,c,h1,h2⟩ hb=>⟨A,c,h1,own_below h2 hb⟩
def qKz (Kp:Nat→Prop) (tC tI:TypeId) (s:Sc):Value→World→Prop:=fun v w=> ∃r:SRef,v=.agg #[.slice r.a r.n r.c,.slice r.b r.m r.d]∧ScT tC tI w r s∧RefK Kp r
theorem qFg (Kp:Nat→Prop) (tC tI:TypeId) (s:Sc):Go.Rel.Stable (qKz Kp tC tI s):=fun v w w' ⟨r,h1,h2,h3⟩ hb=>⟨r,h1,h2.to hb,h3⟩
def qQq (Kp:Nat→Prop) (tS tC tI:TypeId) (s:Sc):Value→World→Prop:=fun v w=> ∃(g:Nat) (r:SRef),v=.slice (some ⟨g,0,none⟩) 1 1∧w.heap[g]?=some (.cells r.vs.toArray tS (0,0))∧ScT tC tI w r s∧RefK Kp r
theorem qFj (Kp:Nat→Prop) (tS tC tI:TypeId) (s:Sc):Go.Rel.Stable (qQq Kp tS tC tI s):=fun v w w' ⟨g,r,h1,h2,h3,h4⟩ hb=>⟨g,r,h1,qAa h2 hb,h3.to hb,h4⟩
theorem qBl.snoc {W:World} {A:Option Addr} {rs:List SRef} {r:SRef} {L:List Sc} {s:Sc} (hl:rs.length=L.length) (hA:Lay W W.heap.size A (scsV (rs++[r]))) (he:∀(i:Nat) r s,rs[i]?=some r→L[i]?=some s→qCi W W.heap.size r s) (hr:qCi W W.heap.size r s):qBl W W.heap.size A (rs++[r]) (L++[s]):=by
 refine⟨by rw[List.length_append,List.length_append,hl];rfl,hA,fun i r' s' h1 h2=>?_⟩
 by_cases hi:i<rs.length
 · rw[List.getElem?_append_left hi] at h1;rw[List.getElem?_append_left (by rw[←hl];exact hi)] at h2;exact he i r' s' h1 h2
 · have h3:=(List.getElem?_eq_some_iff.1 h1).1;rw[List.length_append,List.length_singleton] at h3
   obtain rfl:i=rs.length:=by omega
   rw[List.getElem?_append_right (Nat.le_refl _),Nat.sub_self] at h1;rw[List.getElem?_append_right (by omega),hl,Nat.sub_self] at h2
   cases h1
   cases h2
   exact hr
theorem qUq {cs:List Co} {ks:List Int} (h:scOk cs ks=true):ScSz cs:=fun c hc=>by
 have h1:=(qFf _ _).1 h;obtain⟨j,hj⟩:=List.getElem?_of_mem hc;obtain⟨h2,h3⟩:=h1.co j c hj;have h4:=qGm (k:=c.2.2.1.1) (tn:=c.2.2.1.2) (nu:=c.2.2.2.1) (n:=c.2.2.2.2.1) (s:=c.2.2.2.2.2.data.toList) h3
 have h5:c.2.1.data.toList.length≤32:=by
  unfold isNm at h2;simp only[Bool.and_eq_true,decide_eq_true_eq] at h2;exact h2.1.1.2
 have e1:c.2.1.data.toList.length=c.2.1.size:=by simp
 have e2:c.2.2.2.2.2.data.toList.length=c.2.2.2.2.2.size:=by simp
 omega
theorem qRs {l:List Sc} (h:qAu l=0):∀s∈l,scOk s.1 s.2=true:=by
 unfold qAu at h
 split at h
 · cases h
 · split at h
   · rename_i h2
     intro s hs
     exact List.all_eq_true.1 h2 s hs
   · cases h
theorem qDq {P:Program} {w:World} {o:Oper} {a:Act} {K:Act→World→Prop} {Q:Exit→Act→World→Prop} (s x:Operand) (t:TypeId)
    (ho:o.op=.call { callee:=.builtin .append,args:=#[s,x],argTypes:=#[t,t] })
    (base:Nat) (e:TypeId) (i:TypeInfo) (z:Value) (size bytes:Nat) (ht:P.underlying t=some (.slice e)) (hi:P.info? e=some i) (hz:i.zero=some z)
    (hsize:i.size=size) (hby:i.bytes=bytes) (hzs:z.cells.size=size) (hsz:0<size)
    (v:Value) (n:Nat) (xs:List Value) (hs:a.eval s=v) (hown:w.ownsRow base e size v n xs) (B:Nat) (A:Option Addr) (m c:Nat) (news:List Value) (hx:a.eval x=.slice A m c) (hl:news.length=m*size) (hnews:Lay w B A news) (h1:∀u∈news,u.oneCell'=true)
    (h63:n+m≤maxLen) (hbytes:(n+m)*bytes≤140737488355328) (hbase:base≤w.heap.size)
    (h:∀v' w',w'.ownsRow base e size v' (n+m) (xs++news)→w.grownBy w' v.ownBlock→K (a.put o.dst v') w'):Oper.wp P o a w K Q:=by
 obtain⟨v',w',hr,h2,h3⟩:=qDd (P:=P) w base t o.type e i z size bytes ht hi hz hsize hby hzs hsz v n xs hown B A m c news hl hnews h1 h63 hbytes hbase;unfold Oper.wp execOp;simp only[ho,resolve,invoke,builtin,Sem.run_bind,Sem.run_pure,Result.andThen_ok,List.map_toArray,List.map_cons,List.map_nil,hs,hx,hr];exact h v' w' h2 h3
def qGi (Kp:Nat→Prop) (P:Program) (tS tN:TypeId) (W:World) (G G':Rg) (n e:Int) (en:Ending) (w':World):Prop:=Below W.heap.size W w'∧((en=.returned (.tuple #[.pointer none,.int .i64 n,.int .i64 e])∧G'=G)∨
  ∃sp mb D,en=.returned (.tuple #[.pointer (some ⟨sp,0,none⟩),.int .i64 n,.int .i64 e])∧w'.heap[sp]?=some (.cells #[.map (some mb)] tN (0,0))∧w'.ownsMap P tS qCj mb G'.length D∧RgIn Kp w' D G'∧RgOk G')
theorem qGi.same {Kp:Nat→Prop} {P:Program} {tS tN:TypeId} {W w':World} {G:Rg} {n e:Int} (hb:Below W.heap.size W w'):qGi Kp P tS tN W G G n e (.returned (.tuple #[.pointer none,.int .i64 n,.int .i64 e])) w':=⟨hb,.inl ⟨rfl,rfl⟩⟩
theorem qEl {G:Rg} {x:Bs} {s:Sc} (h1:isNm x=true) (h2:scOk s.1 s.2=true) (h3:s.2≠[]) :
    ((rgAt G x).getLast?=some s→qBf G x s=(G,((rgAt G x).length:Int),0))∧
    ((rgAt G x).getLast?≠some s→(rgAt G x).length=64∨(qAq G x=none∧G.length=16)→qBf G x s=(G,0,5))∧
    ((rgAt G x).getLast?≠some s→¬((rgAt G x).length=64∨(qAq G x=none∧G.length=16))→qAu (rgAt G x++[s])≠0→qBf G x s=(G,0,120))∧
    ((rgAt G x).getLast?≠some s→¬((rgAt G x).length=64∨(qAq G x=none∧G.length=16))→qAu (rgAt G x++[s])=0→qBf G x s=(qCh G x (rgAt G x++[s]),((rgAt G x).length:Int)+1,0)):=by
 have e1:¬(isNm x=false):=by rw[h1];decide
 have e2:¬(scOk s.1 s.2=false∨s.2=[]):=fun h=>h.elim (fun h=>by rw[h2] at h;cases h) h3
 unfold qBf;rw[if_neg e1,if_neg e2];exact⟨fun h=>if_pos h,fun h k=>by rw[if_neg h,if_pos k],fun h k j=>by rw[if_neg h,if_neg k,if_neg j],fun h k j=>by rw[if_neg h,if_neg k,if_pos j]⟩
end Go.Ms
namespace Go.Proofs.YtainiaighnjpfaaGreatDoor
open Go.RowKit Go.Ms Go.Lib Go.Maps Go.WideMaps Go.Rel
abbrev RgS (Kp:Nat→Prop) (W:World) (G G':Rg) (n e:Int):Ending→World→Prop:=qGi Kp Tryz.prog 9 87 W G G' n e
theorem qHr {W:World} {mb n:Nat} {D:DataW Value} (hown:W.ownsMap Tryz.prog 9 qCj mb n D) {S:ByteArray} (hS:S.size≤100000) {v:Value} (hv:D.atKey (.string S.data.toList) (.held (.slice none 0 0))=.held v) {b:Bool} (hb:Maps.has D (.string S.data.toList)=b) :
    (Instr.lookup 85 (.map (some mb)) (.string S) true).run Tryz.prog W=.ok (.tuple #[v,.bool b]) W:=by
 obtain⟨v',ps,hr,hv'⟩:=hown.look_ok (t:=85) (e:=36) qEd Tryz.underlying85 (qPq W) (zd:=.held (.slice none 0 0)) (zp:=[]) rfl (qOl S hS);unfold qCj at hv';rw[hv] at hv';simp only[Option.some.injEq,Prod.mk.injEq,DataW.held.injEq] at hv';rw[←hv'.1,←hb];exact hr
theorem qKt {W W':World} {mb n:Nat} {D:DataW Value} (hown:W.ownsMap Tryz.prog 9 qCj mb n D) (hb:Below W.heap.size W W') (hn:n<maxLen) {S:ByteArray} (hS:S.size≤100000) (v:Value) :
    ∃w',(Instr.mapUpdate 85 (.map (some mb)) (.string S) v).run Tryz.prog W'=.ok () w'∧w'.ownsMap Tryz.prog 9 qCj mb (n+1) (D.put (.string S.data.toList) (.held v))∧W'.grownBy w' (some mb):=
  (hown.kept (row:=none) ⟨hb.os,hb.tape,hb.output,hb.size,fun k hk _=>hb.block k hk⟩ (by simp)).update qEd Tryz.underlying85 hn (qOl S hS) (show qCj v=some (.held v,[]) from rfl)
end Go.Proofs.YtainiaighnjpfaaGreatDoor
set_option linter.unusedSimpArgs false
namespace Go.Rel
open Go Go.RowKit
def qFv (md:Region.Mode) (ops:Array Oper):Bool:=(List.range ops.size).all fun i=>match ops[i]? with
 |none=>true
 |some o=>o.after.toList.all fun e=> !Region.binds md e||decide (e.on<i)
def qP1 (ops:Array Oper) (n:Nat):Bool:=(List.range ops.size).all fun i=>match qAr ops i with
 |none=>true
 |some d=>decide (d<n)&&(List.range ops.size).all fun j=>j==i||qAr ops j != some d
def waitsFor (md:Region.Mode) (o:Oper) (k:Nat):Bool:=o.after.toList.any fun e=>Region.binds md e&&e.on==k
section
variable {P:Program} {md:Region.Mode} {ops:Array Oper} {a0:Act} {w0:World}
theorem qPu (h:qFv md ops=true) {i:Nat} {o:Oper} (hi:ops[i]?=some o):∀e∈o.after,Region.binds md e=true→e.on<i:=fun e he hb=>by
 unfold qFv at h;have:=List.all_eq_true.1 h i (List.mem_range.2 (Array.getElem?_eq_some_iff.1 hi).1);rw[hi] at this;have:=List.all_eq_true.1 this e (Array.mem_toList_iff.2 he)
 simpa[hb] using this
theorem qSy {i:Nat} {d:Tmp} (h:qAr ops i=some d):i<ops.size:=by
 unfold qAr at h
 cases ho:ops[i]? with
 |none=>simp[ho] at h
 |some o=>exact(Array.getElem?_eq_some_iff.1 ho).1
theorem qPy (h:qP1 ops a0.tmps.size=true) {i:Nat} {d:Tmp} (hi:qAr ops i=some d):d<a0.tmps.size∧∀j,j≠i→qAr ops j≠some d:=by
 unfold qP1 at h;have:=List.all_eq_true.1 h i (List.mem_range.2 (qSy hi));rw[hi] at this;simp only[Bool.and_eq_true,decide_eq_true_eq] at this;refine⟨this.1,fun j hj hdj=>?_⟩;have:=List.all_eq_true.1 this.2 j (List.mem_range.2 (qSy hdj))
 simp[hj,hdj] at this
theorem qNy (hg:qFv md ops=true) {listed:Array Bool} (hl:listed.size=ops.size) {i:Nat} (hi:i<ops.size) (hu:listed.getD i false=false):Region.ready md ops listed≠[]:=by
 obtain ⟨m,hm,hmin⟩:∃m,(m<ops.size∧listed.getD m false=false)∧∀j,j<m→listed.getD j false=true:=by
  have:∀n,(∃k,k≤n∧k<ops.size∧listed.getD k false=false)→∃m,(m<ops.size∧listed.getD m false=false)∧∀j,j<m→listed.getD j false=true:=by
   intro n
   induction n with
   |zero=>
    rintro⟨k,hk,h1,h2⟩
    obtain rfl:k=0:=by omega
    exact⟨0,⟨h1,h2⟩,fun j hj=>by omega⟩
   |succ n ih=>
    rintro⟨k,hk,h1,h2⟩
    by_cases hex:∃k,k≤n∧k<ops.size∧listed.getD k false=false
    · exact ih hex
    · have hkn:k=n+1:=by
        by_cases hkn:k≤n
        · exact absurd ⟨k,hkn,h1,h2⟩ hex
        · omega
      refine⟨k,⟨h1,h2⟩,fun j hj=>?_⟩
      cases hjv:listed.getD j false with
      |true=>rfl
      |false=>exact absurd ⟨j,by omega,by omega,hjv⟩ hex
  exact this i ⟨i,Nat.le_refl _,hi,hu⟩
 intro h
 obtain⟨o,ho⟩:∃o,ops[m]?=some o:=⟨_,Array.getElem?_eq_getElem hm.1⟩
 have:m∈Region.ready md ops listed:=by
  rw[mem_ready];refine⟨?_,o,ho,fun e he hb=>hmin _ (qPu hg ho e he hb)⟩;have:=hm.2
  have hml:m<listed.size:=by rw[hl];exact hm.1
  simp[hml] at this ⊢
  exact this
 rw[h] at this
 cases this
theorem qFp {listed:Array Bool} {i j:Nat} (h:j≠i) (b:Bool):(listed.setIfInBounds i true).getD j b=listed.getD j b:=by
 have:i≠j:=fun e=>h e.symm
 simp[Array.getElem?_setIfInBounds_ne this]
theorem qMt {listed:Array Bool} {i:Nat} (h:i<listed.size) (b:Bool):(listed.setIfInBounds i true).getD i b=true:=by simp[h]
theorem qR4 {listed:Array Bool} {i:Nat} (h:listed.getD i true=false):listed.getD i false=false:=by
 by_cases hi:i<listed.size
 · simp[hi] at h ⊢;exact h
 · simp[hi] at h
theorem qSc {listed:Array Bool} {a:Act} {i:Nat} {o:Oper} {v:Value} (hil:i<listed.size) (ho:ops[i]?=some o) (h:∀t,(∀i,listed.getD i false=true→qAr ops i≠some t)→a.tmps[t]?=a0.tmps[t]?) :
    ∀t,(∀j,(listed.setIfInBounds i true).getD j false=true→qAr ops j≠some t)→(a.put o.dst v).tmps[t]?=a0.tmps[t]?:=fun t ht=>by
 have h0:=h t fun j hj=>ht j ((qC1 hil).2 (.inr hj))
 cases hd:o.dst with
 |none=>exact h0
 |some d=>
  have h1:d≠t:=fun e=>ht i ((qC1 hil).2 (.inl rfl)) (by unfold qAr;rw[ho];simp[hd,e])
  rw[←h0]
  simp[Act.put,Array.getElem?_setIfInBounds_ne h1]
theorem size_put (a:Act) (d:Option Tmp) (v:Value):(a.put d v).tmps.size=a.tmps.size∧(a.put d v).defers=a.defers:=by
 cases d <;> simp[Act.put]
end
end Go.Rel
namespace Go.Rel
open Go Go.RowKit
section
variable {P:Program} {md:Region.Mode} {ops:Array Oper} {a0:Act} {w0:World}
end
end Go.Rel
namespace Go.Rel
open Go Go.RowKit
theorem qOi (n i:Nat):¬(Array.replicate n false).getD i false=true:=by
 by_cases h:i<n
 · simp[h]
 · simp[h]
end Go.Rel
