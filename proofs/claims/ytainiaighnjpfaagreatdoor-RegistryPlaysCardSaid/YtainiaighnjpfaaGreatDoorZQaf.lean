/- Registries: New, Get, Chain, Subjects. Registries: Get, Chain, Subjects. Registries: Chain. Registries: what Add's inner function needs. A region that draws its order, reads, and fills two new boxes: q, then two new boxes, then a store into each. -/
import Derived.Test.YtainiaighnjpfaaGreatDoorZQae
import Derived.Shelf.SlIter.Nil
import Derived.Shelf.SortM.Plain
import Derived.Shelf.SortM.SortNone
import Derived.Sort.KeysCollected
set_option maxHeartbeats 1000000
set_option maxRecDepth 100000
set_option linter.unusedVariables false
set_option linter.unusedSimpArgs false
namespace Go.Ms
open Go.RowKit Go.Lib Go.Maps
def qEc (G:Rg) (x:Bs) (v:Int):Sc×Int:=match qAp G x with
 |none=>(([],[]),130)
 |some l=>if v<1∨(l.length:Int)<v then (([],[]),131) else (l.getD (v-1).toNat zSc,0)
theorem qYw {W:World} {B1 B2:Nat} {eC eI:TypeId} {r:SRef} {s:Sc} (h1:qBw W B1 eC (.slice r.a r.n r.c) s.1) (h2:OwnI W B2 eI (.slice r.b r.m r.d) s.2) (hN:r.n=s.1.length) (hM:r.m=s.2.length) (n1:r.n≤100000) (n2:r.m≤100000):ScT eC eI W r s:=by
 unfold qBw at h1;unfold OwnI at h2;rw[←hN] at h1;rw[←hM] at h2;exact⟨⟨hN,hM,n1,n2,Lay.of_own h1 le_,Lay.of_own h2 le_⟩,TyAt.own h1,TyAt.own h2⟩
theorem qV9 {Kp:Nat→Prop} {D:DataW Value} {G:Rg} {W:World} {ss:List Bs} (ht:Tidy D) (hk:∀es,D=.map es→∀p∈es,∃x,p.1=.string x) (h:RgIn Kp W D G) (up:G.Pairwise (fun p q=>p.1<q.1)) (hp:ss.Perm (strKeys D)) :
    ss.mergeSort (fun x y=>decide (x≤y))=G.map Prod.fst:=by
 obtain⟨es,rfl,hnd⟩:=ht;have hup:(G.map Prod.fst).Pairwise (· < ·):=List.pairwise_map.2 up;have hndG:(G.map Prod.fst).Nodup:=List.Pairwise.imp (fun {a b} (h:a<b) (e:a=b)=>List.lt_irrefl b (by rw[e] at h;exact h)) hup
 have hmem:∀x:Bs,Maps.has (.map es) (.string x)=true↔x∈G.map Prod.fst:=fun x=>by
  rw[h.has x]
  cases hl:qAp G x with
  |none=>
   have:=qEx.1 hl;simp only[Option.isSome_none,Bool.false_eq_true,false_iff];intro hx;obtain⟨p,hp1,hp2⟩:=List.mem_map.1 hx;exact this p hp1 hp2
  |some l=>
   simp only[Option.isSome_some,true_iff];exact List.mem_map.2 ⟨_,qEi hl,rfl⟩
 have h1:(G.map Prod.fst).Perm (strKeys (.map es)):=perm_strKeys hnd (hk es rfl) hndG (fun x=>(hmem x).symm);rw[mergeSort_of_perm (hp.trans h1.symm)];exact List.mergeSort_of_pairwise (hup.imp fun hab=>by simp only[decide_eq_true_eq];exact List.le_of_lt hab)
end Go.Ms
namespace Go.Proofs.YtainiaighnjpfaaGreatDoor
open Go.RowKit Go.Ms Go.Lib Go.Maps Go.WideMaps
theorem qOi (g sp mb:Nat) (q:Option Addr) (w:World) (hg:w.heap[g]?=some (.cells #[.pointer q] 71 (0,0))) (hs:w.heap[sp]?=some (.cells #[.map (some mb)] 87 (0,0))) :
    Calls Tryz.prog 36 #[.pointer (some ⟨g,0,none⟩),.pointer (some ⟨sp,0,none⟩)] w fun e w'=>(∃v,e=.returned v)∧w'=w.setCell ⟨g,0,none⟩ (.pointer (some ⟨sp,0,none⟩)):=by
 have hst:=qJj (P:=Tryz.prog) Tryz.func78 (by kernel_rfl) (by kernel_rfl) (by kernel_rfl) (by kernel_rfl) (y:=some ⟨sp,0,none⟩) (cb_ 0 hg rfl) (by simp[World.frozen?,hg]);have hcv:=run_convert_to_unsafe (P:=Tryz.prog) (src:=63) (dst:=67) Tryz.underlying63 Tryz.underlying67 (by kernel_rfl) (cb_ 0 hs rfl);clear hg hs;go_enter Tryz.func36,Tryz.ntmps36;go_wp2_with fail
 go_end0;exact⟨⟨_,rfl⟩,rfl⟩
theorem qRc (Kp:Nat→Prop) (w:World):Calls Tryz.prog 9 #[] w fun e w'=> ∃g,e=.returned (.pointer (some ⟨g,0,none⟩))∧RgLK Kp g [] w'∧Below w.heap.size w w'∧w.heap.size≤g:=by
 have hmm:=@run_makeMap Tryz.prog;obtain⟨Y,hY⟩:∃Y,Y=((w.alloc (.cells #[.pointer none] 71)).alloc (.map #[] 0)).alloc (.cells #[.map (some (w.heap.size+1))] 87):=⟨_,rfl⟩;have hz:(w.alloc (.cells #[.pointer none] 71)).heap.size=w.heap.size+1:=World.size_alloc _ _;have hz2:((w.alloc (.cells #[.pointer none] 71)).alloc (.map #[] 0)).heap.size=w.heap.size+2:=by rw[World.size_alloc,hz]
 have q0:Y.heap[w.heap.size]?=some (.cells #[.pointer none] 71 (0,0)):=by rw[hY];exact bx_ (bx_ (qAd w _) _) _
 have q2:Y.heap[w.heap.size+2]?=some (.cells #[.map (some (w.heap.size+1))] 87 (0,0)):=by
  have h:=qAd ((w.alloc (.cells #[.pointer none] 71)).alloc (.map #[] 0)) (.cells #[.map (some (w.heap.size+1))] 87);rw[hz2] at h;rw[hY];exact h
 have hm:Y.ownsMap Tryz.prog 9 qCx (w.heap.size+1) 0 (.map []:DataW Value):=by
  have e:=(World.ownsMap_made (H:=Value) (w.alloc (.cells #[.pointer none] 71)) Tryz.prog 9 qCx).alloc (.cells #[.map (some (w.heap.size+1))] 87);rw[hz] at e;rw[hY];exact e
 have bY:Below w.heap.size w Y:=by rw[hY];exact(((Below.refl _ w).alloc le_ _).alloc (by rw[hz];omega) _).alloc (by rw[hz2];omega) _
 have hst:=qOi w.heap.size (w.heap.size+2) (w.heap.size+1) none Y q0 q2;have HST:=hh_ hst;have Q0:=hh_ q0;have Q2:=hh_ q2;have HM:=hh_ hm;have BY:=hh_ bY;clear hst q0 q2 hm bY hz hz2;go_enter Tryz.func9,Tryz.ntmps9;go_wp2_with fail
 rw[←hY];clear hY;refine HST.out.mono ?_;rintro e w' ⟨⟨v,rfl⟩,hw⟩
 have hr:RgLK Kp w.heap.size [] w':=by
  rw[hw];refine⟨w.heap.size+2,w.heap.size+1,.map [],ms_one_set Q0.out _,qAj Q2.out (by omega) _,HM.out.setCell (by simp) _,RgIn.nil _ _,qPk⟩
 have hb:Below w.heap.size w w':=by
  rw[hw];exact BY.out.setCell (p:=⟨w.heap.size,0,none⟩) le_ _
 clear hw HST Q0 Q2 HM BY;have HR:=hh_ hr;have HB:=hh_ hb;clear hr hb;go_wp2_with fail
 go_ret;exact⟨_,rfl,HR.out,HB.out,Nat.le_refl _⟩
theorem qJx (w:World):Calls Tryz.prog 9 #[] w fun e w'=> ∃g,e=.returned (.pointer (some ⟨g,0,none⟩))∧RgL g [] w'∧Below w.heap.size w w'∧w.heap.size≤g:=qRc (fun _=>True) w
theorem qEe (r:SRef) (s:Sc) (w:World) (h:qBv w w.heap.size r s):Calls Tryz.prog 19 #[.agg #[.slice r.a r.n r.c,.slice r.b r.m r.d]] w fun e w'=>
    ∃r':SRef,e=.returned (.agg #[.slice r'.a r'.n r'.c,.slice r'.b r'.m r'.d])∧Below w.heap.size w w'∧ScT 45 3 w' r' s∧qBw w' w.heap.size 45 (.slice r'.a r'.n r'.c) s.1∧OwnI w' w.heap.size 3 (.slice r'.b r'.m r'.d) s.2:=by
 refine(qQr w r.a r.b r.n r.c r.m r.d s.1 s.2 h.nn h.mm h.n h.m h.la h.lb).mono ?_;rintro e w' ⟨A',c',B',d',rfl,h1,h2,hb⟩;exact⟨⟨A',r.n,c',B',r.m,d'⟩,rfl,hb,qYw h1 h2 h.n h.m h.nn h.mm,h1,h2⟩
def qWe (w:World) (s:Sc) (E:Int) (e:Ending) (w':World):Prop:= ∃r:SRef,e=.returned (.tuple #[.agg #[.slice r.a r.n r.c,.slice r.b r.m r.d],.int .i64 E])∧Below w.heap.size w w'∧ScT 45 3 w' r s∧qBw w' w.heap.size 45 (.slice r.a r.n r.c) s.1∧OwnI w' w.heap.size 3 (.slice r.b r.m r.d) s.2
theorem qL6 (w w':World) (E:Int) (hb:Below w.heap.size w w'):qWe w ([],[]) E (.returned (.tuple #[.agg #[.slice none 0 0,.slice none 0 0],.int .i64 E])) w':=
  ⟨⟨none,0,0,none,0,0⟩,rfl,hb,⟨⟨rfl,rfl,Nat.zero_le _,Nat.zero_le _,fun j u hu=>by simp[colV] at hu,fun j u hu=>by simp[intV] at hu⟩,(fun g o e=>by cases e),(fun g o e=>by cases e)⟩,World.ownsRow_nil _ _ _ _,World.ownsRow_nil _ _ _ _⟩
open Go.Sort Go.Shelf Go.Proofs
theorem qRw (m:Nat):AnyZ.SortsIn Tryz.prog Tryz.sorted53_ren Fence.wide m:=
  ⟨fun blk off cap ss W hH hblk hsz=>callsIn_wide.2 (AnyM.slices_Sort_string Tryz.sort92 blk off cap ss W hH hblk hsz),
   fun p cap W=>callsIn_wide.2 (AnyM.slices_Sort_string_none Tryz.sort92 p cap W)⟩
theorem qS3 (mb:Option Nat) (W:World):CallsIn Fence.wide 5 Tryz.prog 54 #[.map mb] W fun e w'=>e=.returned (.func (.func 93) #[] #[.pointer (some ⟨W.heap.size,0,none⟩)])∧w'=W.alloc (.cells #[.map mb] 85):=
  AnyZ.keys_in Tryz.keys54 Fence.wide 5 trivial rfl mb W
theorem qO9 {H:Type} (b nn:Nat) (D0:DataW H) (R:Value→Option (DataW H×List MemPlace)) (w:World) (hown:w.ownsMap Tryz.prog 9 R b nn D0) (hmax:Maps.size D0≤maxLen) (hbytes:Maps.size D0*16≤140737488355328) :
    CallsIn Fence.wide 5 Tryz.prog 53 #[.func (.func 93) #[] #[.pointer (some ⟨w.heap.size,0,none⟩)]] (w.alloc (.cells #[.map (some b)] 85)) fun e w'=> ∃(v:Value) (ss:List (List UInt8)),e=.returned v∧ss.Perm (strKeys D0)∧
      w'.ownsRow (w.alloc (.cells #[.map (some b)] 85)).heap.size 9 1 v ss.length ((ss.mergeSort (fun x y=>decide (x≤y))).map encStr)∧(v=.slice none 0 0↔ss=[])∧Below (w.alloc (.cells #[.map (some b)] 85)).heap.size (w.alloc (.cells #[.map (some b)] 85)) w':=by
 have hbl:=hown.lt
 have hseq:SeqGives Fence.wide 2 Tryz.prog 93 #[.pointer (some ⟨w.heap.size,0,none⟩)] encStr (fun ss=>ss.Perm (strKeys D0)) (Maps.size D0) (w.alloc (.cells #[.map (some b)] 85)):=
   AnyZ.keys_gives (ρ:=Tryz.keys54_ren) { Tryz.keys54 with } Fence.wide _ trivial rfl (by omega) w.heap.size b nn D0 _ (by simp) (by simp) (by
     obtain⟨es,clock,hb,Ft,hs,hD⟩:=hown
     exact⟨es,clock,(Below.heap_alloc _ _ b hbl).trans hb,Ft,hs,hD⟩)
 exact AnyZ.sorted_in Tryz.sorted53 Fence.wide 5 trivial trivial trivial trivial rfl (by omega) (qRw _) (enters_of Tryz.func92 (by kernel_rfl) rfl) 93 #[.pointer (some ⟨w.heap.size,0,none⟩)] trivial (enters_of Tryz.func93 (by kernel_rfl) rfl) _ _ hmax hbytes _ hseq
end Go.Proofs.YtainiaighnjpfaaGreatDoor
namespace Go.Ms
open Go.RowKit Go.Lib Go.Maps
end Go.Ms
namespace Go.Proofs.YtainiaighnjpfaaGreatDoor
open Go.RowKit Go.Ms Go.Lib Go.Maps Go.WideMaps
theorem qQz {w:World} {b n:Nat} {D:DataW Value} (h:w.ownsMap Tryz.prog 9 qCx b n D):∀es,D=.map es→∀p∈es,∃x,p.1=.string x:=fun es e p hp=>by
 obtain⟨es',e',hk⟩:=h.keysOf;rw[e'] at e;obtain rfl:es'=es:=by simpa using e
 obtain⟨v,hv⟩:=hk p hp;obtain⟨x,_,hx,_⟩:=Maps.keyOf_str Tryz.underlying9 hv;exact⟨x,hx⟩
def zAn (w:World) (N:List Bs) (e:Ending) (w':World):Prop:= ∃v,e=.returned v∧w'.ownsRow w.heap.size 9 1 v N.length (N.map encStr)∧Below w.heap.size w w'
theorem qD9 {Kp:Nat→Prop} (g:Nat) (G:Rg) (w:World) (h:RgLK Kp g G w) :
    Calls Tryz.prog 22 #[.pointer (some ⟨g,0,none⟩)] w (zAn w (G.map Prod.fst)):=by
 obtain⟨sp,mb,D,ha⟩:=h;have hl:=qFv g sp mb D G w ha;have c0:=cb_ 0 ha.snap rfl;have hk:=(callsIn_wide (n:=5)).1 (qS3 (some mb) w);have hz:Maps.size D≤16:=by rw[ha.inn.size];exact ha.ok.len
 have hs:=(callsIn_wide (n:=5)).1 (qO9 mb G.length D qCx w ha.map ml_ (by omega));have hn:=fun (ss:List Bs) (hp:ss.Perm (strKeys D))=>qV9 (ha.map.tidy qFz) (qQz ha.map) ha.inn ha.ok.up hp
 have HL:=hh_ hl;have HK:=hh_ hk;have HS:=hh_ hs;have HN:=hh_ hn;clear hl hk hs hn hz ha;go_enter Tryz.func22,Tryz.ntmps22;go_wp2_with fail
 refine HL.out.mono ?_;rintro e w' ⟨rfl,hw⟩;rw[hw];clear hw;go_wp2_with fail
 refine HK.out.mono ?_;rintro e w' ⟨rfl,hw⟩;rw[hw];clear hw;go_wp2_with fail
 refine HS.out.mono ?_;rintro e w2 ⟨v,ss,rfl,hp,ho,-,hb⟩;have e1:=HN.out ss hp;have e2:ss.length=(G.map Prod.fst).length:=by rw[←e1,List.length_mergeSort]
 have ho2:w2.ownsRow w.heap.size 9 1 v (G.map Prod.fst).length ((G.map Prod.fst).map encStr):=by
  rw[←e2,←e1];exact qAv ho (by rw[World.size_alloc];omega)
 have hb2:Below w.heap.size w w2:=((Below.refl _ w).alloc le_ _).trans (hb.mono (by rw[World.size_alloc];omega));have HO:=hh_ ho2;have HB:=hh_ hb2;clear ho ho2 hb hb2 hp e1 e2;go_wp2_with fail
 go_ret;exact⟨v,rfl,HO.out,HB.out⟩
theorem qG6 {Kp:Nat→Prop} (g:Nat) (G:Rg) (S:ByteArray) (v:Int) (w:World) (hS:S.size≤100000) (h:RgLK Kp g G w) (hv: -9223372036854775808≤v∧v≤9223372036854775807) :
    Calls Tryz.prog 20 #[.pointer (some ⟨g,0,none⟩),.string S,.int .i64 v] w (qWe w (qEc G S.data.toList v).1 (qEc G S.data.toList v).2):=by
 obtain⟨X,hX⟩:∃X,X=w.alloc (.cells #[.slice none 0 0,.slice none 0 0] 33):=⟨_,rfl⟩;have bX:Below w.heap.size w X:=by rw[hX];exact(Below.refl _ w).alloc le_ _
 have qX:X.heap[w.heap.size]?=some (.cells #[.slice none 0 0,.slice none 0 0] 33 (0,0)):=by rw[hX];exact qAd _ _
 have hf:=qFs g G S X hS (h.to bX)
 have hlen:(rgAt G S.data.toList).length≤64:=by
  obtain⟨_,_,_,ha⟩:=h;by_cases e:rgAt G S.data.toList=[]
  · rw[e];exact Nat.zero_le _
  · exact ha.ok.few _ (qEq e)
 have x0:=cb_ 0 (v:=.slice none 0 0) qX rfl;have x1:=cb_ 1 (v:=.slice none 0 0) qX rfl;have f0:=fz_ 0 qX;have f1:=fz_ 1 qX;have q3:=qGd qX (.slice none 0 0) (.slice none 0 0);have b3:Below w.heap.size w ((X.setCell ⟨w.heap.size,0,none⟩ (.slice none 0 0)).setCell ⟨w.heap.size,1,none⟩ (.slice none 0 0)):=(bX.setCell (p:=⟨w.heap.size,0,none⟩) le_ _).setCell (p:=⟨w.heap.size,1,none⟩) le_ _;have z0:=cb_ 0 (v:=.slice none 0 0) q3 rfl;have z1:=cb_ 1 (v:=.slice none 0 0) q3 rfl;have B3:=hh_ b3;have BX:=hh_ bX;have QX:=hh_ qX;clear b3 bX qX q3 h hS
 cases hk:qAp G S.data.toList with
 |none=>
  have ha:rgAt G S.data.toList=[]:=by unfold rgAt;rw[hk];rfl
  have hg:qEc G S.data.toList v=(([],[]),130):=by unfold qEc;rw[hk]
  rw[hg];rw[hk,ha] at hf;simp only[Option.isSome_none,Bool.false_eq_true,if_false] at hf;have HF:=hh_ hf;clear hf hk ha hg hlen;go_enter Tryz.func20,Tryz.ntmps20;go_wp2_with fail
  rw[←hX];clear hX;refine HF.out.mono ?_;rintro e w' ⟨⟨A,c,rs,rfl,-⟩,hw⟩;rw[hw];clear hw;go_wp2_with fail
  refine bodyPost_ret (v:=.tuple #[.agg #[.slice none 0 0,.slice none 0 0],.int .i64 130]) ?_ rfl ?_
  · simp[results,Tryz.results20,Tryz.f20,go_sem,z0,z1]
  exact qL6 _ _ _ B3.out
 |some l=>
  have ha:rgAt G S.data.toList=l:=by unfold rgAt;rw[hk];rfl
  rw[hk] at hf;rw[ha] at hf hlen;simp only[Option.isSome_some,if_true] at hf;by_cases hr:v<1∨(l.length:Int)<v
  · have hg:qEc G S.data.toList v=(([],[]),131):=by unfold qEc;rw[hk];simp only;rw[if_pos hr]
    rw[hg];have HF:=hh_ hf;clear hf hk ha hg hlen;generalize l.length=n at HF hr;by_cases h1:v<1
    · clear hr;go_enter Tryz.func20,Tryz.ntmps20;go_wp2_with fail
      rw[←hX];clear hX;refine HF.out.mono ?_;rintro e w' ⟨⟨A,c,rs,rfl,-⟩,hw⟩;rw[hw];clear hw;go_wp2_with fail
      refine bodyPost_ret (v:=.tuple #[.agg #[.slice none 0 0,.slice none 0 0],.int .i64 131]) ?_ rfl ?_
      · simp[results,Tryz.results20,Tryz.f20,go_sem,z0,z1]
      exact qL6 _ _ _ B3.out
    · have h2:(n:Int)<v:=hr.resolve_left h1;clear hr;go_enter Tryz.func20,Tryz.ntmps20;go_wp2_with fail
      rw[←hX];clear hX;refine HF.out.mono ?_;rintro e w' ⟨⟨A,c,rs,rfl,-⟩,hw⟩;rw[hw];clear hw;go_wp2_with fail
      refine bodyPost_ret (v:=.tuple #[.agg #[.slice none 0 0,.slice none 0 0],.int .i64 131]) ?_ rfl ?_
      · simp[results,Tryz.results20,Tryz.f20,go_sem,z0,z1]
      exact qL6 _ _ _ B3.out
  · obtain⟨k,rfl⟩:∃k:Nat,v=(k:Int)+1:=⟨(v-1).toNat,by omega⟩;have hkl:k<l.length:=by omega
    obtain⟨s,hs⟩:∃s,l[k]?=some s:=⟨_,List.getElem?_eq_getElem hkl⟩
    have hg:qEc G S.data.toList ((k:Int)+1)=(s,0):=by
     unfold qEc;rw[hk];simp only;rw[if_neg hr,show((k:Int)+1-1).toNat=k by omega,List.getD_eq_getElem?_getD,hs];rfl
    rw[hg];have HF:=hh_ hf;have HS:=hh_ hs;have h1:¬((k:Int)+1<1):=by omega
    have h2:¬((l.length:Int)<(k:Int)+1):=by omega
    have hw1:IntKind.i64.wrap ((k:Int)+1-1)=(k:Int):=by rw[show(k:Int)+1-1=k by omega];exact IntWalk.i64_in _ (by omega)
    have h3:(k:Int)<l.length:=by omega
    clear hf hk ha hg hr z0 z1 B3;go_enter Tryz.func20,Tryz.ntmps20;go_wp2_with fail
    rw[←hX];clear hX;refine HF.out.mono ?_;rintro e w' ⟨⟨A,c,rs,rfl,hl⟩,hw⟩;rw[hw];clear hw;obtain⟨r,hr⟩:∃r,rs[k]?=some r:=⟨_,List.getElem?_eq_getElem (by rw[hl.len];exact hkl)⟩;obtain⟨ga,oa,ea,ta⟩:=hl.at_ hr;subst ea;have hone:=hl.each k r s hr HS.out;have y0:=ta.c0;have y1:=ta.c1;have HO:=hh_ hone;clear hl ta hone hr;go_wp2_with fail
    refine(qEe r s X HO.out).mono ?_;rintro e w2 ⟨r',rfl,hb,ht,o1,o2⟩;have q2:=bk_ QX.out hb;have u0:=cb_ 0 (v:=.slice none 0 0) q2 rfl;have u1:=cb_ 1 (v:=.slice none 0 0) q2 rfl;have g0:=fz_ 0 q2;have g1:=fz_ 1 q2;have q4:=qGd q2 (.slice r'.a r'.n r'.c) (.slice r'.b r'.m r'.d);have y2:=cb_ 0 (v:=.slice r'.a r'.n r'.c) q4 rfl;have y3:=cb_ 1 (v:=.slice r'.b r'.m r'.d) q4 rfl;have b2:Below w.heap.size w ((w2.setCell ⟨w.heap.size,0,none⟩ (.slice r'.a r'.n r'.c)).setCell ⟨w.heap.size,1,none⟩ (.slice r'.b r'.m r'.d)):=((BX.out.trans (hb.mono BX.out.size)).setCell (p:=⟨w.heap.size,0,none⟩) le_ _).setCell (p:=⟨w.heap.size,1,none⟩) le_ _;have e1:=EffT.set q2 0 (.slice r'.a r'.n r'.c);have e2:=EffT.set (two_set0 q2 (.slice r'.a r'.n r'.c)) 1 (.slice r'.b r'.m r'.d);have n1:(45:TypeId)≠33:=by decide
    have n2:(3:TypeId)≠33:=by decide
    have ht2:=(ht.eff e1 n1 n2).eff e2 n1 n2;have hXz:w.heap.size<X.heap.size:=(Array.getElem?_eq_some_iff.1 QX.out).1;have o12:=qAv (own_set' (own_set' o1 (i:=0) hXz (.slice r'.a r'.n r'.c)) (i:=1) hXz (.slice r'.b r'.m r'.d)) BX.out.size;have o22:=qAv (own_set' (own_set' o2 (i:=0) hXz (.slice r'.a r'.n r'.c)) (i:=1) hXz (.slice r'.b r'.m r'.d)) BX.out.size;have B2:=hh_ b2;have HT:=hh_ ht2;have O1:=hh_ o12;have O2:=hh_ o22;clear hb ht o1 o2 q2 q4 b2 e1 e2 ht2 o12 o22 y0 y1 f0 f1 x0 x1;go_wp2_with fail
    refine bodyPost_ret (v:=.tuple #[.agg #[.slice r'.a r'.n r'.c,.slice r'.b r'.m r'.d],.int .i64 0]) ?_ rfl ?_
    · simp[results,Tryz.results20,Tryz.f20,go_sem,y2,y3]
    exact⟨r',rfl,B2.out,HT.out,O1.out,O2.out⟩
def zBu (w:World) (L:List Sc) (e:Ending) (w':World):Prop:= ∃(v:Value) (rs:List SRef),e=.returned v∧rs.length=L.length∧CkSt 33 45 3 v rs L w w'
end Go.Proofs.YtainiaighnjpfaaGreatDoor
namespace Go.Ms
open Go.RowKit Go.Lib Go.Maps
theorem Lay.butM {W W':World} {B:Nat} {A:Option Addr} {xs:List Value} {g:Nat} {es:Array MapEntry} {k:Nat} (h:Lay W B A xs) (hg:W.grownBy W' (some g)) (hq:W.heap[g]?=some (.map es k)):Lay W' B A xs:=by
 intro j u hu;obtain⟨b,o,e,hlt,hc⟩:=h j u hu;refine⟨b,o,e,hlt,?_⟩
 have hne:b≠g:=by
  rintro rfl;simp[World.cell?,hq] at hc
 have hb:b<W.heap.size:=by
  unfold World.cell? at hc;simp only at hc
  cases hv:W.heap[b]? with
  |none=>rw[hv] at hc;cases hc
  |some o'=>exact(Array.getElem?_eq_some_iff.1 hv).1
 have hk:W'.heap[b]?=W.heap[b]?:=hg.block b hb (fun e=>hne (by cases e;rfl));unfold World.cell? at hc ⊢;simp only at hc ⊢;rw[hk];exact hc
theorem qA0.butM {W W':World} {A:Option Addr} {rs:List SRef} {ss:List Sc} {g:Nat} {es:Array MapEntry} {k:Nat} (h:qA0 W W.heap.size A rs ss) (hg:W.grownBy W' (some g)) (hq:W.heap[g]?=some (.map es k)):qA0 W' W'.heap.size A rs ss:=
  ⟨h.len,(h.lay.butM hg hq).more hg.size,fun i r s h1 h2=>⟨(h.each i r s h1 h2).n,(h.each i r s h1 h2).m,(h.each i r s h1 h2).nn,(h.each i r s h1 h2).mm,((h.each i r s h1 h2).la.butM hg hq).more hg.size,((h.each i r s h1 h2).lb.butM hg hq).more hg.size⟩⟩
theorem RgIn.butM {Kp:Nat→Prop} {W W':World} {D:DataW Value} {G:Rg} {g:Nat} {es:Array MapEntry} {k:Nat} (h:RgIn Kp W D G) (hg:W.grownBy W' (some g)) (hq:W.heap[g]?=some (.map es k)):RgIn Kp W' D G:=
  ⟨h.size,h.has,h.no,fun x l e=>by obtain⟨A,c,rs,h1,h2,h3⟩:=h.at_ x l e;exact⟨A,c,rs,h1,h2.butM hg hq,h3⟩⟩
def qMl (B:Nat) (e:TypeId) (rs:List SRef) (n:Nat):Value→World→Prop:=fun v w=> ∃A c,v=.slice A n c∧w.ownsRow B e 2 (.slice A n c) n (scsV rs)
theorem qE6 (B:Nat) (e:TypeId) (rs:List SRef) (n:Nat):Go.Rel.Stable (qMl B e rs n):=fun v w w' ⟨A,c,h1,h2⟩ hb=>⟨A,c,h1,own_below h2 hb⟩
def qNj (Kp:Nat→Prop) (tC tI:TypeId) (s:Sc):Value→World→Prop:=fun v w=> ∃r:SRef,v=.agg #[.slice r.a r.n r.c,.slice r.b r.m r.d]∧ScT tC tI w r s∧RefK Kp r
theorem qGy (Kp:Nat→Prop) (tC tI:TypeId) (s:Sc):Go.Rel.Stable (qNj Kp tC tI s):=fun v w w' ⟨r,h1,h2,h3⟩ hb=>⟨r,h1,h2.to hb,h3⟩
def qTi (Kp:Nat→Prop) (tS tC tI:TypeId) (s:Sc):Value→World→Prop:=fun v w=> ∃(g:Nat) (r:SRef),v=.slice (some ⟨g,0,none⟩) 1 1∧w.heap[g]?=some (.cells r.vs.toArray tS (0,0))∧ScT tC tI w r s∧RefK Kp r
theorem qGp (Kp:Nat→Prop) (tS tC tI:TypeId) (s:Sc):Go.Rel.Stable (qTi Kp tS tC tI s):=fun v w w' ⟨g,r,h1,h2,h3,h4⟩ hb=>⟨g,r,h1,bk_ h2 hb,h3.to hb,h4⟩
theorem qA0.snoc {W:World} {A:Option Addr} {rs:List SRef} {r:SRef} {L:List Sc} {s:Sc} (hl:rs.length=L.length) (hA:Lay W W.heap.size A (scsV (rs++[r]))) (he:∀(i:Nat) r s,rs[i]?=some r→L[i]?=some s→qBv W W.heap.size r s) (hr:qBv W W.heap.size r s):qA0 W W.heap.size A (rs++[r]) (L++[s]):=by
 refine⟨by rw[List.length_append,List.length_append,hl];rfl,hA,fun i r' s' h1 h2=>?_⟩;by_cases hi:i<rs.length
 · rw[List.getElem?_append_left hi] at h1;rw[List.getElem?_append_left (by rw[←hl];exact hi)] at h2;exact he i r' s' h1 h2
 · have h3:=(List.getElem?_eq_some_iff.1 h1).1;rw[List.length_append,List.length_singleton] at h3;obtain rfl:i=rs.length:=by omega
   rw[List.getElem?_append_right le_,Nat.sub_self] at h1;rw[List.getElem?_append_right (by omega),hl,Nat.sub_self] at h2;cases h1;cases h2;exact hr
theorem qZ4 {cs:List Co} {ks:List Int} (h:scOk cs ks=true):ScSz cs:=fun c hc=>by
 have h1:=(qFy _ _).1 h;obtain⟨j,hj⟩:=List.getElem?_of_mem hc;obtain⟨h2,h3⟩:=h1.co j c hj;have h4:=qIj (k:=c.2.2.1.1) (tn:=c.2.2.1.2) (nu:=c.2.2.2.1) (n:=c.2.2.2.2.1) (s:=c.2.2.2.2.2.data.toList) h3
 have h5:c.2.1.data.toList.length≤32:=by
  unfold isNm at h2;simp only[Bool.and_eq_true,decide_eq_true_eq] at h2;exact h2.1.1.2
 have e1:c.2.1.data.toList.length=c.2.1.size:=by simp
 have e2:c.2.2.2.2.2.data.toList.length=c.2.2.2.2.2.size:=by simp
 omega
theorem qVh {l:List Sc} (h:qAs l=0):∀s∈l,scOk s.1 s.2=true:=by
 unfold qAs at h;split at h
 · cases h
 · split at h
   · rename_i h2
     intro s hs;exact List.all_eq_true.1 h2 s hs
   · cases h
theorem qGr {P:Program} {w:World} {o:Oper} {a:Act} {K:Act→World→Prop} {Q:Exit→Act→World→Prop} (s x:Operand) (t:TypeId)
    (ho:o.op=.call { callee:=.builtin .append,args:=#[s,x],argTypes:=#[t,t] })
    (base:Nat) (e:TypeId) (i:TypeInfo) (z:Value) (size bytes:Nat) (ht:P.underlying t=some (.slice e)) (hi:P.info? e=some i) (hz:i.zero=some z)
    (hsize:i.size=size) (hby:i.bytes=bytes) (hzs:z.cells.size=size) (hsz:0<size)
    (v:Value) (n:Nat) (xs:List Value) (hs:a.eval s=v) (hown:w.ownsRow base e size v n xs) (B:Nat) (A:Option Addr) (m c:Nat) (news:List Value) (hx:a.eval x=.slice A m c) (hl:news.length=m*size) (hnews:Lay w B A news) (h1:∀u∈news,u.oneCell'=true)
    (h63:n+m≤maxLen) (hbytes:(n+m)*bytes≤140737488355328) (hbase:base≤w.heap.size)
    (h:∀v' w',w'.ownsRow base e size v' (n+m) (xs++news)→w.grownBy w' v.ownBlock→K (a.put o.dst v') w'):Oper.wp P o a w K Q:=by
 obtain⟨v',w',hr,h2,h3⟩:=qDa (P:=P) w base t o.type e i z size bytes ht hi hz hsize hby hzs hsz v n xs hown B A m c news hl hnews h1 h63 hbytes hbase;unfold Oper.wp execOp;simp only[ho,resolve,invoke,builtin,Sem.run_bind,Sem.run_pure,Result.andThen_ok,List.map_toArray,List.map_cons,List.map_nil,hs,hx,hr];exact h v' w' h2 h3
def qIe (Kp:Nat→Prop) (P:Program) (tS tN:TypeId) (W:World) (G G':Rg) (n e:Int) (en:Ending) (w':World):Prop:=Below W.heap.size W w'∧((en=.returned (.tuple #[.pointer none,.int .i64 n,.int .i64 e])∧G'=G)∨
  ∃sp mb D,en=.returned (.tuple #[.pointer (some ⟨sp,0,none⟩),.int .i64 n,.int .i64 e])∧w'.heap[sp]?=some (.cells #[.map (some mb)] tN (0,0))∧w'.ownsMap P tS qCx mb G'.length D∧RgIn Kp w' D G'∧RgOk G')
theorem qIe.same {Kp:Nat→Prop} {P:Program} {tS tN:TypeId} {W w':World} {G:Rg} {n e:Int} (hb:Below W.heap.size W w'):qIe Kp P tS tN W G G n e (.returned (.tuple #[.pointer none,.int .i64 n,.int .i64 e])) w':=⟨hb,.inl ⟨rfl,rfl⟩⟩
theorem qCb {G:Rg} {x:Bs} {s:Sc} (h1:isNm x=true) (h2:scOk s.1 s.2=true) (h3:s.2≠[]) :
    ((rgAt G x).getLast?=some s→qBf G x s=(G,((rgAt G x).length:Int),0))∧
    ((rgAt G x).getLast?≠some s→(rgAt G x).length=64∨(qAp G x=none∧G.length=16)→qBf G x s=(G,0,5))∧
    ((rgAt G x).getLast?≠some s→¬((rgAt G x).length=64∨(qAp G x=none∧G.length=16))→qAs (rgAt G x++[s])≠0→qBf G x s=(G,0,120))∧
    ((rgAt G x).getLast?≠some s→¬((rgAt G x).length=64∨(qAp G x=none∧G.length=16))→qAs (rgAt G x++[s])=0→qBf G x s=(qBl G x (rgAt G x++[s]),((rgAt G x).length:Int)+1,0)):=by
 have e1:¬(isNm x=false):=by rw[h1];decide
 have e2:¬(scOk s.1 s.2=false∨s.2=[]):=fun h=>h.elim (fun h=>by rw[h2] at h;cases h) h3
 unfold qBf;rw[if_neg e1,if_neg e2];exact⟨fun h=>if_pos h,fun h k=>by rw[if_neg h,if_pos k],fun h k j=>by rw[if_neg h,if_neg k,if_neg j],fun h k j=>by rw[if_neg h,if_neg k,if_pos j]⟩
end Go.Ms
namespace Go.Proofs.YtainiaighnjpfaaGreatDoor
open Go.RowKit Go.Ms Go.Lib Go.Maps Go.WideMaps Go.Rel
abbrev RgS (Kp:Nat→Prop) (W:World) (G G':Rg) (n e:Int):Ending→World→Prop:=qIe Kp Tryz.prog 9 87 W G G' n e
theorem qJo {W:World} {mb n:Nat} {D:DataW Value} (hown:W.ownsMap Tryz.prog 9 qCx mb n D) {S:ByteArray} (hS:S.size≤100000) {v:Value} (hv:D.atKey (.string S.data.toList) (.held (.slice none 0 0))=.held v) {b:Bool} (hb:Maps.has D (.string S.data.toList)=b) :
    (Instr.lookup 85 (.map (some mb)) (.string S) true).run Tryz.prog W=.ok (.tuple #[v,.bool b]) W:=by
 obtain⟨v',ps,hr,hv'⟩:=hown.look_ok (t:=85) (e:=36) qFz Tryz.underlying85 (qUv W) (zd:=.held (.slice none 0 0)) (zp:=[]) rfl (qSa S hS);unfold qCx at hv';rw[hv] at hv';simp only[Option.some.injEq,Prod.mk.injEq,DataW.held.injEq] at hv';rw[←hv'.1,←hb];exact hr
theorem qM7 {W W':World} {mb n:Nat} {D:DataW Value} (hown:W.ownsMap Tryz.prog 9 qCx mb n D) (hb:Below W.heap.size W W') (hn:n<maxLen) {S:ByteArray} (hS:S.size≤100000) (v:Value) :
    ∃w',(Instr.mapUpdate 85 (.map (some mb)) (.string S) v).run Tryz.prog W'=.ok () w'∧w'.ownsMap Tryz.prog 9 qCx mb (n+1) (D.put (.string S.data.toList) (.held v))∧W'.grownBy w' (some mb):=
  (hown.kept (row:=none) ⟨hb.os,hb.tape,hb.output,hb.size,fun k hk _=>hb.block k hk⟩ (by simp)).update qFz Tryz.underlying85 hn (qSa S hS) (show qCx v=some (.held v,[]) from rfl)
end Go.Proofs.YtainiaighnjpfaaGreatDoor
namespace Go.Rel
open Go Go.RowKit
def qG3 (md:Region.Mode) (ops:Array Oper):Bool:=(List.range ops.size).all fun i=>match ops[i]? with
 |none=>true
 |some o=>o.after.toList.all fun e=> !Region.binds md e||decide (e.on<i)
def qT7 (ops:Array Oper) (n:Nat):Bool:=(List.range ops.size).all fun i=>match qAy ops i with
 |none=>true
 |some d=>decide (d<n)&&(List.range ops.size).all fun j=>j==i||qAy ops j != some d
def waitsFor (md:Region.Mode) (o:Oper) (k:Nat):Bool:=o.after.toList.any fun e=>Region.binds md e&&e.on==k
section
variable {P:Program} {md:Region.Mode} {ops:Array Oper} {a0:Act} {w0:World}
theorem qTw (h:qG3 md ops=true) {i:Nat} {o:Oper} (hi:ops[i]?=some o):∀e∈o.after,Region.binds md e=true→e.on<i:=fun e he hb=>by
 unfold qG3 at h;have:=List.all_eq_true.1 h i (List.mem_range.2 (Array.getElem?_eq_some_iff.1 hi).1);rw[hi] at this;have:=List.all_eq_true.1 this e (Array.mem_toList_iff.2 he)
 simpa[hb] using this
theorem qYg {i:Nat} {d:Tmp} (h:qAy ops i=some d):i<ops.size:=by
 unfold qAy at h
 cases ho:ops[i]? with
 |none=>simp[ho] at h
 |some o=>exact(Array.getElem?_eq_some_iff.1 ho).1
theorem qTv (h:qT7 ops a0.tmps.size=true) {i:Nat} {d:Tmp} (hi:qAy ops i=some d):d<a0.tmps.size∧∀j,j≠i→qAy ops j≠some d:=by
 unfold qT7 at h;have:=List.all_eq_true.1 h i (List.mem_range.2 (qYg hi));rw[hi] at this;simp only[Bool.and_eq_true,decide_eq_true_eq] at this;refine⟨this.1,fun j hj hdj=>?_⟩;have:=List.all_eq_true.1 this.2 j (List.mem_range.2 (qYg hdj));simp[hj,hdj] at this
theorem qQn (hg:qG3 md ops=true) {listed:Array Bool} (hl:listed.size=ops.size) {i:Nat} (hi:i<ops.size) (hu:listed.getD i false=false):Region.ready md ops listed≠[]:=by
 obtain ⟨m,hm,hmin⟩:∃m,(m<ops.size∧listed.getD m false=false)∧∀j,j<m→listed.getD j false=true:=by
  have:∀n,(∃k,k≤n∧k<ops.size∧listed.getD k false=false)→∃m,(m<ops.size∧listed.getD m false=false)∧∀j,j<m→listed.getD j false=true:=by
   intro n
   induction n with
   |zero=>
    rintro⟨k,hk,h1,h2⟩;obtain rfl:k=0:=by omega
    exact⟨0,⟨h1,h2⟩,fun j hj=>by omega⟩
   |succ n ih=>
    rintro⟨k,hk,h1,h2⟩;by_cases hex:∃k,k≤n∧k<ops.size∧listed.getD k false=false
    · exact ih hex
    · have hkn:k=n+1:=by
        by_cases hkn:k≤n
        · exact absurd ⟨k,hkn,h1,h2⟩ hex
        · omega
      refine⟨k,⟨h1,h2⟩,fun j hj=>?_⟩
      cases hjv:listed.getD j false with
      |true=>rfl
      |false=>exact absurd ⟨j,by omega,by omega,hjv⟩ hex
  exact this i ⟨i,Nat.le_refl _,hi,hu⟩
 intro h;obtain⟨o,ho⟩:∃o,ops[m]?=some o:=⟨_,Array.getElem?_eq_getElem hm.1⟩
 have:m∈Region.ready md ops listed:=by
  rw[mem_ready];refine⟨?_,o,ho,fun e he hb=>hmin _ (qTw hg ho e he hb)⟩;have:=hm.2;have hml:m<listed.size:=by rw[hl];exact hm.1
  simp[hml] at this ⊢;exact this
 rw[h] at this;cases this
theorem qGs {listed:Array Bool} {i j:Nat} (h:j≠i) (b:Bool):(listed.setIfInBounds i true).getD j b=listed.getD j b:=by
 have:i≠j:=fun e=>h e.symm
 simp[Array.getElem?_setIfInBounds_ne this]
theorem qPw {listed:Array Bool} {i:Nat} (h:i<listed.size) (b:Bool):(listed.setIfInBounds i true).getD i b=true:=by simp[h]
theorem qXn {listed:Array Bool} {i:Nat} (h:listed.getD i true=false):listed.getD i false=false:=by
 by_cases hi:i<listed.size
 · simp[hi] at h ⊢;exact h
 · simp[hi] at h
theorem qWb {listed:Array Bool} {a:Act} {i:Nat} {o:Oper} {v:Value} (hil:i<listed.size) (ho:ops[i]?=some o) (h:∀t,(∀i,listed.getD i false=true→qAy ops i≠some t)→a.tmps[t]?=a0.tmps[t]?) :
    ∀t,(∀j,(listed.setIfInBounds i true).getD j false=true→qAy ops j≠some t)→(a.put o.dst v).tmps[t]?=a0.tmps[t]?:=fun t ht=>by
 have h0:=h t fun j hj=>ht j ((qDq hil).2 (.inr hj))
 cases hd:o.dst with
 |none=>exact h0
 |some d=>
  have h1:d≠t:=fun e=>ht i ((qDq hil).2 (.inl rfl)) (by unfold qAy;rw[ho];simp[hd,e])
  rw[←h0];simp[Act.put,Array.getElem?_setIfInBounds_ne h1]
theorem size_put (a:Act) (d:Option Tmp) (v:Value):(a.put d v).tmps.size=a.tmps.size∧(a.put d v).defers=a.defers:=by
 cases d <;> simp[Act.put]
end
section
variable {P:Program} {md:Region.Mode} {ops:Array Oper} {a0:Act} {w0:World}
end
theorem qSy (n i:Nat):¬(Array.replicate n false).getD i false=true:=by
 by_cases h:i<n
 · simp[h]
 · simp[h]
end Go.Rel
