/- Registry's laws: RegistryMoves, walked. -/
import Derived.Test.YtainiaighnjpfaaGreatDoorZQaj
import Derived.Test.YtainiaighnjpfaaGreatDoorZgk
import Derived.Test.YtainiaighnjpfaaGreatDoorZQae
import Derived.Test.YtainiaighnjpfaaGreatDoorZQac
import Derived.Test.YtainiaighnjpfaaGreatDoorZQad
set_option linter.unusedVariables false
set_option linter.unusedSimpArgs false
namespace Go.Ms
open Go.RowKit Go.Lib
def oneW (n:Int):List Value:=[.int .i32 n]
theorem qXa (n:Int):(oneW n).length=1:=rfl
def wV (l:List Int):List Value:=l.flatMap oneW
theorem qXj (l:List Int):(wV l).length=l.length:=by
 unfold wV
 induction l with
 |nil=>rfl
 |cons a t ih=>show(oneW a++t.flatMap oneW).length=_;rw[List.length_append,ih];simp[oneW];omega
theorem qXh : ∀ (l : List Int) (i:Nat) (x:Int),l[i]?=some x→(wV l)[i]?=some (.int .i32 x)
  | a :: t, 0, x, h => by obtain rfl:a=x:=by simpa using h
                          rfl
  |a::t,i+1,x,h=>qXh t i x (by simpa using h)
theorem qWt {w:World} {b:Nat} {x y z:Value} {T:TypeId} (h:w.heap[b]?=some (.cells #[x,y,z] T (0,0))) (u:Value):(w.setCell ⟨b,1,none⟩ u).heap[b]?=some (.cells #[x,u,z] T (0,0)):=by
 simp[World.setCell,Array.getElem?_modify,h]
theorem qWy (N:List Int):∀(cs:List Co) (i:Nat),∀c∈mvAt N i cs,c.2.2.size≤100000
  |[],_,c,h=>by cases h
  |d::r,i,c,h=>by
   rcases List.mem_cons.1 h with e|h
   · rw[e];exact Nat.zero_le _
   · exact qWy N r (i+1) c h
structure qWv (w:World) (D:Option Addr) (q:Nat) (N:List Int):Prop where
  en:q=N.length
  nn:q≤maxLen
  la:Lay w w.heap.size D (wV N)
  c:∀x∈N,I32 x
theorem qWv.at_ {w:World} {D:Option Addr} {q:Nat} {N:List Int} (h:qWv w D q N) {k:Nat} (hk:k<q):∃g o x,D=some ⟨g,o,none⟩∧N[k]?=some x∧I32 x∧∀W,Below w.heap.size w W→W.cell? ⟨g,o+k,none⟩=some (.int .i32 x):=by
 have hk2:k<N.length:=by have:=h.en;omega
 have hx:N[k]?=some N[k]:=List.getElem?_eq_getElem hk2;obtain⟨g,o,e,hb,hc⟩:=h.la.some_ (by rw[qXj];omega);exact⟨g,o,N[k],e,hx,h.c _ (List.getElem_mem hk2),fun W hW=>(hW.cell hb).trans (hc _ _ (qXh N k _ hx))⟩
end Go.Ms
namespace Go.Proofs.YtainiaighnjpfaaGreatDoor
open Go.RowKit Go.Ms Go.Lib Go.Maps Go.WideMaps Go.Rel
structure MvSt (g:Nat) (G:Rg) (x y:Int) (w W:World):Prop where
  la:RgL g G W
  bx:W.heap[w.heap.size]?=some (.cells #[.int .i64 x,.int .i64 y] 23 (0,0))
  bel:Below w.heap.size w W
  lo:w.heap.size+1≤g
section
variable {g:Nat} {G G':Rg} {x y:Int} {w W W':World}
theorem MvSt.to (h:MvSt g G x y w W) (hb:Below W.heap.size W W'):MvSt g G x y w W':=⟨h.la.to hb,qAa h.bx hb,h.bel.trans (hb.mono h.bel.size),h.lo⟩
theorem MvSt.turn (h:MvSt g G x y w W) (hl:RgL g G' W') (hg:W.grownBy W' (some g)):MvSt g G' x y w W':=
  ⟨hl,(hg.block _ (Array.getElem?_eq_some_iff.1 h.bx).1 (fun e=>by cases e;have:=h.lo;omega)).trans h.bx,qSm h.bel hg h.bel.size (by have:=h.lo;omega),h.lo⟩
theorem MvSt.sz (h:MvSt g G x y w W):∀s∈rgAt G [120],(∃x,s=qBx x)→ScSz s.1:=fun s _ ⟨x,e⟩=>by rw[e];exact qFt x
end
set_option maxRecDepth 100000 in
set_option maxHeartbeats 8000000 in
theorem qV4 (A:Option Addr) (n c:Nat) (V:List (Int×Int×Int)) (x y:Int) (D:Option Addr) (q qc:Nat) (N:List Int) (w:World) (hs:qNe w A n V) (hx: -9223372036854775808≤x∧x≤9223372036854775807) (hy: -9223372036854775808≤y∧y≤9223372036854775807) (hN:qWv w D q N) (hE:Env w) :
    Calls Tryz.prog 3 #[.slice A n c,.agg #[.int .i64 x,.int .i64 y],.slice D q qc] w fun e w'=>e=.returned (.bool true)∧Below w.heap.size w w':=by
 obtain⟨ic,ci,cz0,cz1,cz2⟩:=info_parts qK5
 have HS:=Lib.hid hs;have HX:=Lib.hid hx;have HY:=Lib.hid hy;have HW:=Lib.hid hN;have HE:=Lib.hid hE
 obtain⟨X,hX⟩:∃X,X=w.alloc (.cells #[.int .i64 x,.int .i64 y] 23):=⟨_,rfl⟩
 have bX:Below w.heap.size w X:=by rw[hX];exact(Below.refl _ w).alloc (Nat.le_refl _) _
 have qX:X.heap[w.heap.size]?=some (.cells #[.int .i64 x,.int .i64 y] 23 (0,0)):=by rw[hX];exact qAf _ _
 have zX:X.heap.size=w.heap.size+1:=by rw[hX];exact World.size_alloc _ _
 have hnew:=qKl X
 have HNEW:=Lib.hid hnew;have BX:=Lib.hid bX;have QX:=Lib.hid qX;have ZX:=Lib.hid zX
 clear hs hx hy hN hE hnew bX qX zX
 go_enter Tryz.func3,Tryz.ntmps3
 go_wp2_with fail
 rw[←hX];clear hX;refine HNEW.out.mono ?_;rintro en w1 ⟨g,rfl,l1,b1,o1⟩;have K0:=Lib.hid (show MvSt g [] x y w w1 from⟨l1,qAa QX.out b1,BX.out.trans (b1.mono (by rw[ZX.out];omega)),by have:=ZX.out;omega⟩);clear l1 b1 o1 HNEW BX QX ZX
 go_upto_block 0 with fail
 go_cut [] (fun wx=> ∃(k:Nat) (G:Rg),MvSt g G x y w wx∧MvOk G k∧(k=0→n=0))
 case first=>
  go_wp2_with fail
  go_loopw [8] (fun s8 wr=> ∃(k:Nat) (G:Rg),k≤n∧k≤10∧s8=.int .i64 k∧MvSt g G x y w wr∧MvOk G k) (fun s8 _=>10-(RowKit.intOf s8).toNat)
  case atStart=>exact⟨0,_,Nat.zero_le _,by omega,rfl,K0.out,MvOk.nil⟩
  case round=>
   obtain⟨k,G,hk,hk10,rfl,hK,hM⟩:=hrel
   have K:=Lib.hid hK;have MK:=Lib.hid hM
   clear hK hM K0;have hnn:=HS.out.nn;have hqq:=HW.out.nn
   by_cases hk1:k<n
   · have tk:(k:Int)<n:=by omega
     have tk0:(0:Int)≤k:=by omega
     by_cases hk2:k<10
     · have tk2:(k:Int)<10:=by omega
       obtain⟨ga,oa,⟨x0,x1,x2⟩,eA,-,hN,hx0,hx1,hx2⟩:=HS.out.at_ hk1;subst eA
       have HN:=Lib.hid hN;have HX0:=Lib.hid hx0;have HX1:=Lib.hid hx1;have HX2:=Lib.hid hx2
       clear hN hx0 hx1 hx2;simp only at HX0 HX1 HX2 HN;have y':=(HN.out _ K.out.bel);have y0:=y'.c0;have y1:=y'.c1;have y2:=y'.c2;clear y'
       go_wp2_with fail
       refine(qFb (x0,x1,x2) _ HX0.out HX1.out HX2.out).mono ?_;rintro en w2 ⟨r,rfl,b2,hl2,-⟩
       have K2:=Lib.hid (K.out.to b2);have L2:=Lib.hid hl2
       clear b2 hl2 y0 y1 y2 K
       go_wp2_with fail
       have had:=qDy g G ⟨#[120]⟩ r (qBx (x0,x1,x2)) w2 (by decide) K2.out.la L2.out (qFt _) (HE.out.below K2.out.bel);rw[show(⟨#[120]⟩:ByteArray).data.toList=[120] from rfl] at had;refine had.mono ?_;rintro en w3 ⟨rfl,hl3,hg3⟩
       have K3:=Lib.hid (K2.out.turn hl3 hg3);have M3:=Lib.hid (MK.out.add (x0,x1,x2))
       clear hl3 hg3 had K2 L2 MK
       go_wp2_with fail
       exact⟨⟨k+1,_,by omega,by omega,by go_num,K3.out,M3.out⟩,by simp[RowKit.intOf];omega⟩
     · have tk2:¬((k:Int)<10):=by omega
       have FIN:=Lib.hid (show ∃(k:Nat) (G:Rg),MvSt g G x y w wr∧MvOk G k∧(k=0→n=0) from⟨k,G,K.out,MK.out,fun h=>by omega⟩);clear K MK
       go_wp2_with fail
       go_meet
       exact FIN.out
   · have tk:¬((k:Int)<n):=by omega
     have FIN:=Lib.hid (show ∃(k:Nat) (G:Rg),MvSt g G x y w wr∧MvOk G k∧(k=0→n=0) from⟨k,G,K.out,MK.out,fun h=>by omega⟩);clear K MK
     go_wp2_with fail
     go_meet
     exact FIN.out
 case rest =>
  obtain⟨k,G,hK,hM,hk0⟩:=hcut
  have K:=Lib.hid hK;have MK:=Lib.hid hM;have HK0:=Lib.hid hk0
  have hqq:=HW.out.nn;clear hK hM hk0 K0
  go_wp2_with fail
  have hch:=qV1 g G ⟨#[120]⟩ _ (by decide) K.out.la;rw[show(⟨#[120]⟩:ByteArray).data.toList=[120] from rfl] at hch;refine hch.mono ?_;clear hch;rintro en w1 ⟨v,rs,rfl,hlen,hst⟩;obtain⟨A9,c9,rfl,hc9,hcm9,hscs⟩:=hst.scs hlen;have K1:=Lib.hid (K.out.to hst.bel);obtain⟨L,hL⟩:∃L,L=rgAt G [120]:=⟨_,rfl⟩;rw[←hL] at hlen hscs
  have hl64:L.length≤64:=by
   rw[hL]
   by_cases e:rgAt G [120]=[]
   · rw[e];exact Nat.zero_le _
   · exact MK.out.ok.few _ (qGy e)
  have HL:=Lib.hid hL;have SC1:=Lib.hid hscs;have RL:=Lib.hid hlen
  obtain⟨ln,hln⟩:∃ln,ln=rs.length:=⟨_,rfl⟩
  have hll:L.length=ln:=by omega
  have HLN:=Lib.hid hln;have HLL:=Lib.hid hll
  rw[←hln]
  have hl64:ln≤64:=by omega
  clear hst hlen hscs hc9 hcm9 hL K hln hll;obtain⟨lp,hlp⟩:∃lp:Nat,lp=ln+1:=⟨_,rfl⟩
  have hwl:IntKind.i64.wrap ((ln:Int)+1)=(lp:Int):=by rw[IntWalk.i64_in _ (by omega)];omega
  have y0:=cell_of_block (i:=0) (v:=.int .i64 x) K1.out.bx rfl;have HLP:=Lib.hid hlp;clear hlp
  go_wp2_with fail
  have hx:=HX.out;have hlp:=HLP.out;refine(qEc x lp hx.1 hx.2 (by omega) (by omega) w1).mono ?_;rintro en w2 ⟨rfl,b2⟩
  have K2:=Lib.hid (K1.out.to b2);have SC2:=Lib.hid (SC1.out.to b2)
  clear b2 K1 SC1 y0;have r1:=Int.emod_nonneg x (show(lp:Int)≠0 by omega);have r2:=Int.emod_lt_of_pos x (show(0:Int)<lp by omega);obtain⟨f,hf⟩:∃f:Nat,(f:Int)=1+x%lp:=⟨(1+x%lp).toNat,by omega⟩
  have hf1:1≤f:=by omega
  have hf2:f≤ln+1:=by omega
  have hwf:IntKind.i64.wrap (1+x%(lp:Int))=(f:Int):=by rw[←hf];exact IntWalk.i64_in _ (by omega)
  clear hf r1 r2 hx hlp
  go_upto_if 49 with fail
  obtain⟨bf,hbf⟩:∃bf,decide (f≤ln)=bf:=⟨_,rfl⟩;rw[hbf];have HBF:=Lib.hid hbf;clear hbf
  go_cut [11] (fun s11 wx=> ∃(q9:Nat) (RR:List Cl) (A3:Option Addr) (c3:Nat),s11=.slice A3 q9 c3∧MvSt g G x y w wx∧qBl wx wx.heap.size A9 rs L∧qKo wx A3 q9 RR∧(L≠[]→∀t:Nat,f≤t→(qCf L f t RR).2=if (t:Int)≤ln then 0 else 131))
  case first=>
   by_cases hfl:f≤ln
   · obtain rfl:bf=true:=by rw[←HBF.out];exact decide_eq_true hfl
     have tf:(f:Int)≤ln:=by omega
     obtain⟨p,hp⟩:∃p:Nat,p=f-1:=⟨_,rfl⟩
     have hpl:p<ln:=by omega
     have tp:(p:Int)<ln:=by omega
     have tp0:(0:Int)≤p:=by omega
     have hwp:IntKind.i64.wrap ((f:Int)-1)=(p:Int):=by rw[IntWalk.i64_in _ (by omega)];omega
     obtain⟨r,hr⟩:∃r,rs[p]?=some r:=⟨_,List.getElem?_eq_getElem (by rw[←HLN.out];exact hpl)⟩;obtain⟨s,hsp⟩:∃s,L[p]?=some s:=⟨_,List.getElem?_eq_getElem (by rw[HLL.out];exact hpl)⟩;obtain⟨g9,o9,e9,h9⟩:=SC2.out.at_ hr;have hrs:=SC2.out.each p r s hr hsp;subst e9
     have H9:=Lib.hid h9;have RS:=Lib.hid hrs;have HSP:=Lib.hid hsp;have HP:=Lib.hid hp
     have hrn:=hrs.n;have hrnn:=hrs.nn;clear h9 hrs hr hsp hp;obtain⟨ra,rn,rc,rb,rm,rd⟩:=r;simp only at hrn hrnn
     go_upto_region 11 with fail
     go_loopw [11,12] (fun s11 s12 wr=> ∃i:Nat,i≤rn∧s12=.int .i64 i∧wr.ownsRow w2.heap.size 43 3 s11 i (rowV (mvAt N 0 (s.1.take i)))∧Below w2.heap.size w2 wr) (fun _ s12 _=>rn-(RowKit.intOf s12).toNat)
     case atStart=>exact⟨0,Nat.zero_le _,rfl,World.ownsRow_nil _ _ _ _,Below.refl _ _⟩
     case round=>
      obtain⟨i,hi,rfl,hown,hb⟩:=hrel;obtain⟨A3,c3,rfl,hc3,hcm3⟩:=qAh hown;have t9:=H9.out.below hb;have j0:=t9.c0;clear t9;simp only at j0
      have OW:=Lib.hid hown;have HBW:=Lib.hid hb
      clear hown hb hc3 hcm3
      by_cases hir:i<rn
      · have ti:(i:Int)<rn:=by omega
        have ti0:(0:Int)≤i:=by omega
        obtain⟨co,hco⟩:∃co,s.1[i]?=some co:=⟨_,List.getElem?_eq_getElem (by rw[←hrn];exact hir)⟩;obtain⟨g3,o3,e3,hg3,j1,j2,j3,j4,j5,j6,j7⟩:=RS.out.la.co hco;simp only at e3;subst e3;replace j4:=(HBW.out.cell hg3).trans j4
        have htk:s.1.take (i+1)=s.1.take i++[co]:=by rw[List.take_add_one,hco];rfl
        have hlen:(s.1.take i).length=i:=by rw[List.length_take];omega
        have hsn:mvAt N 0 (s.1.take (i+1))=mvAt N 0 (s.1.take i)++[qV0 N i co]:=by rw[htk,qWj,hlen,Nat.zero_add]
        obtain⟨i0,s0,⟨k0,u0⟩,nn0,m0,t0⟩:=co;simp only at j4;have HSN:=Lib.hid hsn;clear hco hg3 j1 j2 j3 j5 j6 j7 htk hlen hsn;obtain⟨Y,hY⟩:∃Y,Y=wr.alloc (.cells #[.bool u0,.int .i64 0,.string ⟨#[]⟩] 43):=⟨_,rfl⟩
        have bY:Below wr.heap.size wr Y:=by rw[hY];exact(Below.refl _ _).alloc (Nat.le_refl _) _
        have qY:Y.heap[wr.heap.size]?=some (.cells #[.bool u0,.int .i64 0,.string ⟨#[]⟩] 43 (0,0)):=by rw[hY];exact qAf _ _
        have BY:=Lib.hid bY;have QY:=Lib.hid qY
        clear bY qY
        go_upto_region 14 with fail
        rw[←hY];clear hY j0 j4
        cases u0 with
        |true=>
         have z0:=cell_of_block (i:=0) QY.out rfl;have z1:=cell_of_block (i:=1) (v:=.int .i64 0) QY.out rfl;have z2:=cell_of_block (i:=2) QY.out rfl
         have hx0:qV0 N i (i0,s0,(k0,true),nn0,m0,t0)=(true,0,⟨#[]⟩):=by unfold qV0;rw[if_pos (.inr rfl)]
         by_cases hq0:q=0
         · have tq:¬(0:Int)<q:=by omega
           have O5:=Lib.hid (own_below OW.out ((BY.out).alloc (BY.out.size) (.cells #[.bool true,.int .i64 0,.string ⟨#[]⟩] 43)));have HNW:=Lib.hid (qDr Y (clV (true,0,⟨#[]⟩)) 43);have HONE:=Lib.hid (fun u hu=>qJ0 [((true,0,⟨#[]⟩):Cl)] u (by simpa[rowV] using hu):∀u∈clV (true,0,⟨#[]⟩),u.oneCell'=true)
           have hz6:w2.heap.size≤(Y.alloc (.cells #[.bool true,.int .i64 0,.string ⟨#[]⟩] 43)).heap.size:=by rw[World.size_alloc];have:=HBW.out.size;have:=BY.out.size;omega
           have B5:=Lib.hid ((HBW.out.trans (BY.out.mono HBW.out.size)).alloc (Nat.le_trans HBW.out.size BY.out.size) (.cells #[.bool true,.int .i64 0,.string ⟨#[]⟩] 43))
           go_wp2_with (at_builtin;refine qA5 rfl (.tmp 90) (.tmp 92) _ rfl w2.heap.size 43 ic _ 3 32 qC2 ci cz0 cz1 cz2 rfl (by omega) _ _ _ rfl O5.out _ (some ⟨Y.heap.size,0,none⟩) 1 1 (clV (true,0,⟨#[]⟩)) rfl rfl HNW.out HONE.out (by unfold maxLen;omega) (by omega) hz6 ?_;intro v7 w7 hown7 hg7;have HO7:=Lib.hid hown7;have HB7:=Lib.hid (qBp O5.out B5.out hz6 (Nat.le_refl _) hg7);clear hown7 hg7)
           go_roundw
           case rel=>
            first|refine⟨i+1,by omega,by go_num,?_,HB7.out⟩|((repeat apply Exists.intro);refine⟨⟨i+1,by omega,by go_num,?_,HB7.out⟩,rfl⟩)
            rw[HSN.out,hx0,qMl,show rowV [((true,0,⟨#[]⟩):Cl)]=clV (true,0,⟨#[]⟩) by simp[rowV]];exact HO7.out
           case measure=>simp[RowKit.intOf];omega
         · have tq:(0:Int)<q:=by omega
           have O5:=Lib.hid (own_below OW.out ((BY.out).alloc (BY.out.size) (.cells #[.bool true,.int .i64 0,.string ⟨#[]⟩] 43)));have HNW:=Lib.hid (qDr Y (clV (true,0,⟨#[]⟩)) 43);have HONE:=Lib.hid (fun u hu=>qJ0 [((true,0,⟨#[]⟩):Cl)] u (by simpa[rowV] using hu):∀u∈clV (true,0,⟨#[]⟩),u.oneCell'=true)
           have hz6:w2.heap.size≤(Y.alloc (.cells #[.bool true,.int .i64 0,.string ⟨#[]⟩] 43)).heap.size:=by rw[World.size_alloc];have:=HBW.out.size;have:=BY.out.size;omega
           have B5:=Lib.hid ((HBW.out.trans (BY.out.mono HBW.out.size)).alloc (Nat.le_trans HBW.out.size BY.out.size) (.cells #[.bool true,.int .i64 0,.string ⟨#[]⟩] 43))
           go_wp2_with (at_builtin;refine qA5 rfl (.tmp 90) (.tmp 92) _ rfl w2.heap.size 43 ic _ 3 32 qC2 ci cz0 cz1 cz2 rfl (by omega) _ _ _ rfl O5.out _ (some ⟨Y.heap.size,0,none⟩) 1 1 (clV (true,0,⟨#[]⟩)) rfl rfl HNW.out HONE.out (by unfold maxLen;omega) (by omega) hz6 ?_;intro v7 w7 hown7 hg7;have HO7:=Lib.hid hown7;have HB7:=Lib.hid (qBp O5.out B5.out hz6 (Nat.le_refl _) hg7);clear hown7 hg7)
           go_roundw
           case rel=>
            first|refine⟨i+1,by omega,by go_num,?_,HB7.out⟩|((repeat apply Exists.intro);refine⟨⟨i+1,by omega,by go_num,?_,HB7.out⟩,rfl⟩)
            rw[HSN.out,hx0,qMl,show rowV [((true,0,⟨#[]⟩):Cl)]=clV (true,0,⟨#[]⟩) by simp[rowV]];exact HO7.out
           case measure=>simp[RowKit.intOf];omega
        |false=>
         by_cases hq0:q=0
         · have tq:¬(0:Int)<q:=by omega
           have z0:=cell_of_block (i:=0) QY.out rfl;have z1:=cell_of_block (i:=1) (v:=.int .i64 0) QY.out rfl;have z2:=cell_of_block (i:=2) QY.out rfl
           have hx0:qV0 N i (i0,s0,(k0,false),nn0,m0,t0)=(false,0,⟨#[]⟩):=by unfold qV0;rw[if_pos (.inl (List.eq_nil_of_length_eq_zero (by rw[←HW.out.en];exact hq0)))]
           have O5:=Lib.hid (own_below OW.out ((BY.out).alloc (BY.out.size) (.cells #[.bool false,.int .i64 0,.string ⟨#[]⟩] 43)));have HNW:=Lib.hid (qDr Y (clV (false,0,⟨#[]⟩)) 43);have HONE:=Lib.hid (fun u hu=>qJ0 [((false,0,⟨#[]⟩):Cl)] u (by simpa[rowV] using hu):∀u∈clV (false,0,⟨#[]⟩),u.oneCell'=true)
           have hz6:w2.heap.size≤(Y.alloc (.cells #[.bool false,.int .i64 0,.string ⟨#[]⟩] 43)).heap.size:=by rw[World.size_alloc];have:=HBW.out.size;have:=BY.out.size;omega
           have B5:=Lib.hid ((HBW.out.trans (BY.out.mono HBW.out.size)).alloc (Nat.le_trans HBW.out.size BY.out.size) (.cells #[.bool false,.int .i64 0,.string ⟨#[]⟩] 43))
           go_wp2_with (at_builtin;refine qA5 rfl (.tmp 90) (.tmp 92) _ rfl w2.heap.size 43 ic _ 3 32 qC2 ci cz0 cz1 cz2 rfl (by omega) _ _ _ rfl O5.out _ (some ⟨Y.heap.size,0,none⟩) 1 1 (clV (false,0,⟨#[]⟩)) rfl rfl HNW.out HONE.out (by unfold maxLen;omega) (by omega) hz6 ?_;intro v7 w7 hown7 hg7;have HO7:=Lib.hid hown7;have HB7:=Lib.hid (qBp O5.out B5.out hz6 (Nat.le_refl _) hg7);clear hown7 hg7)
           go_roundw
           case rel=>
            first|refine⟨i+1,by omega,by go_num,?_,HB7.out⟩|((repeat apply Exists.intro);refine⟨⟨i+1,by omega,by go_num,?_,HB7.out⟩,rfl⟩)
            rw[HSN.out,hx0,qMl,show rowV [((false,0,⟨#[]⟩):Cl)]=clV (false,0,⟨#[]⟩) by simp[rowV]];exact HO7.out
           case measure=>simp[RowKit.intOf];omega
         · have tq:(0:Int)<q:=by omega
           have hzq:i%q<q:=Nat.mod_lt _ (by omega);obtain⟨gd,od,m,eD,hm,hm32,jd⟩:=HW.out.at_ hzq;subst eD
           have hx0:qV0 N i (i0,s0,(k0,false),nn0,m0,t0)=(false,m,⟨#[]⟩):=by
            unfold qV0;rw[if_neg (fun h=>h.elim (fun e=>hq0 (by rw[HW.out.en,e];rfl)) (fun e=>by cases e)),←HW.out.en,List.getD_eq_getElem?_getD,hm];rfl
           have jd1:=jd Y ((K2.out.bel.trans (HBW.out.mono K2.out.bel.size)).trans (BY.out.mono (Nat.le_trans K2.out.bel.size HBW.out.size)))
           have tz:((q:Int)==0)=false:=by simp;omega
           have tz2:¬(q:Int)=0:=by omega
           have tmd:(i:Int).tmod q=((i%q:Nat):Int):=by rw[Int.tmod_eq_emod_of_nonneg (by omega)];rfl
           have tzl:((i%q:Nat):Int)<q:=by omega
           have hm64:IntKind.i64.wrap m=m:=IntWalk.i64_in _ (by unfold I32 at hm32;omega);have z0:=cell_of_block (i:=0) QY.out rfl;have z1:=cell_of_block (i:=1) (v:=.int .i64 0) QY.out rfl;have f1:=qAb (i:=1) QY.out
           generalize i%q=z at tmd tzl hzq jd1
           clear hm jd
           go_upto_region 16 with fail
           obtain⟨Y2,hY2⟩:∃Y2,Y2=Y.setCell ⟨wr.heap.size,1,none⟩ (.int .i64 m):=⟨_,rfl⟩;rw[←hY2]
           have qY2:Y2.heap[wr.heap.size]?=some (.cells #[.bool false,.int .i64 m,.string ⟨#[]⟩] 43 (0,0)):=by rw[hY2];exact qWt QY.out _
           have bY2:Below wr.heap.size wr Y2:=by rw[hY2];exact BY.out.setCell (p:=⟨wr.heap.size,1,none⟩) (Nat.le_refl _) _
           have QY2:=Lib.hid qY2;have BY2:=Lib.hid bY2
           clear qY2 bY2 hY2 z0 z1 f1 jd1 tz tz2 tmd tzl tq;have z0:=cell_of_block (i:=0) QY2.out rfl;have z1:=cell_of_block (i:=1) (v:=.int .i64 m) QY2.out rfl;have z2:=cell_of_block (i:=2) QY2.out rfl;have O5:=Lib.hid (own_below OW.out ((BY2.out).alloc (BY2.out.size) (.cells #[.bool false,.int .i64 m,.string ⟨#[]⟩] 43)));have HNW:=Lib.hid (qDr Y2 (clV (false,m,⟨#[]⟩)) 43);have HONE:=Lib.hid (fun u hu=>qJ0 [((false,m,⟨#[]⟩):Cl)] u (by simpa[rowV] using hu):∀u∈clV (false,m,⟨#[]⟩),u.oneCell'=true)
           have hz6:w2.heap.size≤(Y2.alloc (.cells #[.bool false,.int .i64 m,.string ⟨#[]⟩] 43)).heap.size:=by rw[World.size_alloc];have:=HBW.out.size;have:=BY2.out.size;omega
           have B5:=Lib.hid ((HBW.out.trans (BY2.out.mono HBW.out.size)).alloc (Nat.le_trans HBW.out.size BY2.out.size) (.cells #[.bool false,.int .i64 m,.string ⟨#[]⟩] 43))
           go_wp2_with (at_builtin;refine qA5 rfl (.tmp 90) (.tmp 92) _ rfl w2.heap.size 43 ic _ 3 32 qC2 ci cz0 cz1 cz2 rfl (by omega) _ _ _ rfl O5.out _ (some ⟨Y2.heap.size,0,none⟩) 1 1 (clV (false,m,⟨#[]⟩)) rfl rfl HNW.out HONE.out (by unfold maxLen;omega) (by omega) hz6 ?_;intro v7 w7 hown7 hg7;have HO7:=Lib.hid hown7;have HB7:=Lib.hid (qBp O5.out B5.out hz6 (Nat.le_refl _) hg7);clear hown7 hg7)
           go_roundw
           case rel=>
            first|refine⟨i+1,by omega,by go_num,?_,HB7.out⟩|((repeat apply Exists.intro);refine⟨⟨i+1,by omega,by go_num,?_,HB7.out⟩,rfl⟩)
            rw[HSN.out,hx0,qMl,show rowV [((false,m,⟨#[]⟩):Cl)]=clV (false,m,⟨#[]⟩) by simp[rowV]];exact HO7.out
           case measure=>simp[RowKit.intOf];omega
      · have ti:¬(i:Int)<rn:=by omega
        obtain rfl:i=rn:=by omega
        have hall:s.1.take i=s.1:=List.take_of_length_le (by omega);have HALL:=Lib.hid hall
        have K3:=Lib.hid (K2.out.to HBW.out);have SC3:=Lib.hid (SC2.out.to HBW.out)
        have hrl:=Lay.of_own OW.out (Nat.le_refl _);rw[HALL.out] at hrl;have hrw:qKo wr A3 i (qWp N s.1):=⟨by rw[qWm];exact hrn,hrnn,hrl,qWy N _ 0⟩
        have hgd:s=L.getD (f-1) zSc:=by
         have h1:=HSP.out;rw[HP.out] at h1;rw[List.getD_eq_getElem?_getD,h1];rfl
        have hne:L≠[]:=fun e=>by have:=HLL.out;rw[e] at this;simp at this;omega
        have hch:qAu L=0:=by rw[HL.out];exact MK.out.chain (by rw[←HL.out];exact hne)
        have hE3:∀t:Nat,f≤t→(qCf L f t (qWp N s.1)).2=if (t:Int)≤ln then 0 else 131:=fun t h=>by
         rw[hgd,←HLL.out];exact qWu hch HW.out.c (fun s h=>MK.out.all s (by rw[←HL.out];exact h)) hf1 (by have:=HLL.out;omega) (by omega)
        have RW3:=Lib.hid hrw;have HE3:=Lib.hid hE3;have NE:=Lib.hid hne
        generalize qWp N s.1=RR at RW3 HE3
        have hrow:=RW3.out.qq
        have hln0:0<ln:=by omega
        clear hrw hE3 hne hgd hch hrl hall OW HBW hrn hrnn HALL hi
        go_wp2_with fail
        go_meet
        exact⟨i,RR,A3,c3,rfl,K3.out,SC3.out,RW3.out,fun _=>HE3.out⟩
   · obtain rfl:bf=false:=by rw[←HBF.out];exact decide_eq_false hfl
     have tf:¬(f:Int)≤ln:=by omega
     have RW2:=Lib.hid (show qKo w2 none 0 [] from⟨rfl,Nat.zero_le _,fun j u h=>by simp[rowV] at h,fun c h=>by cases h⟩)
     have hE3:L≠[]→∀t:Nat,f≤t→(qCf L f t []).2=if (t:Int)≤ln then 0 else 131:=fun hne t h=>by
      have hch:qAu L=0:=by rw[HL.out];exact MK.out.chain (by rw[←HL.out];exact hne)
      rw[if_neg (by omega),qW2 hch [] (by omega) (by omega) (by have:=HLL.out;omega)]
     have HE3:=Lib.hid hE3;clear hE3
     go_wp2_with fail
     go_meet
     exact⟨0,[],none,0,rfl,K2.out,SC2.out,RW2.out,HE3.out⟩
  case rest=>
   obtain⟨q9,RR,A3,c3,rfl,hK3,hSC3,hRW3,hE3⟩:=hcut
   have K3:=Lib.hid hK3;have SC3:=Lib.hid hSC3;have RW3:=Lib.hid hRW3;have HE0:=Lib.hid hE3
   have hrow:=RW3.out.qq;clear hK3 hSC3 hRW3 hE3 K2 SC2;have y1:=cell_of_block (i:=1) (v:=.int .i64 y) K3.out.bx rfl
   go_wp2_with fail
   have hy:=HY.out;have hlp:=HLP.out;refine(qEc y lp hy.1 hy.2 (by omega) (by omega) _).mono ?_;rintro en w4 ⟨rfl,b4⟩
   have K4:=Lib.hid (K3.out.to b4);have SC4:=Lib.hid (SC3.out.to b4);have RW4:=Lib.hid (RW3.out.to b4)
   clear b4 y1;have r1:=Int.emod_nonneg y (show(lp:Int)≠0 by omega);have r2:=Int.emod_lt_of_pos y (show(0:Int)<lp by omega);obtain⟨t,ht⟩:∃t:Nat,(t:Int)=f+y%lp:=⟨((f:Int)+y%lp).toNat,by omega⟩
   have ht1:f≤t:=by omega
   have ht2:t≤200:=by omega
   have hwt:IntKind.i64.wrap ((f:Int)+y%(lp:Int))=(t:Int):=by rw[←ht];exact IntWalk.i64_in _ (by omega)
   clear ht r1 r2 hy hlp
   go_wp2_with fail
   have hsz:∀s∈rgAt G [120],ScSz s.1:=fun s hs=>by obtain⟨x,e⟩:=MK.out.all s hs;rw[e];exact qFt x
   have hmv:=qIq g G ⟨#[120]⟩ (f:Int) (t:Int) (A3) q9 c3 RR w4 (by decide) K4.out.la hsz (by omega) (by omega) RW4.out (HE.out.below K4.out.bel);rw[show(⟨#[120]⟩:ByteArray).data.toList=[120] from rfl,←HL.out] at hmv;rw[←HL.out] at hsz;have HSZ:=Lib.hid hsz;clear hsz
   by_cases hl0:ln=0
   · have hLn:L=[]:=List.eq_nil_of_length_eq_zero (by rw[HLL.out];exact hl0)
     have hk:k=0:=by
      by_cases hk:k=0
      · exact hk
      · exact absurd (by rw[←HL.out];exact hLn) (MK.out.nz (by omega))
     have hn0:n=0:=HK0.out hk;have hG:G=[]:=MK.out.z hk;have HG:=Lib.hid hG
     have hlz:((ln:Int)==0)=true:=by rw[hl0];rfl
     have hnz:((n:Int)==0)=true:=by rw[hn0];rfl
     have HLZ:=Lib.hid hlz;have HNZ:=Lib.hid hnz
     clear hLn hk hG hn0 hl0 hlz hnz
     have hlk:(qAq G [120]).isSome=false:=by rw[HG.out];rfl
     rw[if_neg (by rw[hlk];decide),if_neg (by rw[hlk];decide)] at hmv;refine hmv.mono ?_;rintro en w5 ⟨v5,rfl,ho5,b5⟩;obtain⟨A5,c5,rfl,h5,h5m⟩:=qAh ho5
     have K5:=Lib.hid (K4.out.to b5);have SC5:=Lib.hid (SC4.out.to b5);have RW5:=Lib.hid (RW4.out.to b5);have O5:=Lib.hid ho5
     clear ho5 b5 hmv K4 SC4 RW4 hwt
     go_wp2_with fail
     have hca:=qPx w5 (A9) ln c9 rs L (f:Int) (t:Int) (A3) q9 c3 RR (by omega) HLN.out SC5.out HSZ.out (by omega) (by omega) RW5.out (HE.out.below K5.out.bel);obtain⟨Ra,Ea,hRE⟩:∃Ra Ea,qCf L (f:Int) (t:Int) RR=(Ra,Ea):=⟨_,_,rfl⟩;rw[hRE] at hca;have hlz:=HLZ.out;have hnz:=HNZ.out;refine hca.mono ?_;rintro en w7 ⟨v6,rfl,ho6,b6⟩;have K7:=Lib.hid (K5.out.to b6);clear ho6 b6 hca K5 SC5 RW5 O5 hRE
     go_wp2_with fail
     refine(qHc w7 (HE.out.below K7.out.bel)).mono ?_;rintro en w8 ⟨rfl,b8⟩;have K8:=Lib.hid (K7.out.to b8);clear b8
     go_wp2_with fail
     go_ret
     exact⟨rfl,K8.out.bel⟩
   · have hln0:0<ln:=by omega
     have hne:L≠[]:=fun e=>by have:=HLL.out;rw[e] at this;simp at this;omega
     have HE3:=Lib.hid (HE0.out hne);have NE:=Lib.hid hne
     clear hne hl0;have hlk:(qAq G [120]).isSome=true:=MvOk.look (by rw[←HL.out];exact NE.out);rw[if_pos hlk,if_pos hlk] at hmv;have hE2:=HE3.out t ht1;obtain⟨Ra,Ea,hRE⟩:∃Ra Ea,qCf L (f:Int) (t:Int) RR=(Ra,Ea):=⟨_,_,rfl⟩;rw[hRE] at hmv hE2;have HRE:=Lib.hid hRE;clear hRE hlk;simp only at hmv hE2;have HE2:=Lib.hid hE2;clear hE2;refine hmv.mono ?_;rintro en w5 ⟨v5,rfl,ho5,b5⟩;obtain⟨A5,c5,rfl,h5,h5m⟩:=qAh ho5
     have K5:=Lib.hid (K4.out.to b5);have SC5:=Lib.hid (SC4.out.to b5);have RW5:=Lib.hid (RW4.out.to b5);have O5:=Lib.hid ho5
     clear ho5 b5 hmv K4 SC4 RW4 hwt
     go_wp2_with fail
     have hca:=qPx w5 (A9) ln c9 rs L (f:Int) (t:Int) (A3) q9 c3 RR (by omega) HLN.out SC5.out HSZ.out (by omega) (by omega) RW5.out (HE.out.below K5.out.bel);rw[HRE.out] at hca;refine hca.mono ?_;rintro en w6 ⟨v6,rfl,ho6,b6⟩;obtain⟨A6,c6,rfl,h6,h6m⟩:=qAh ho6
     have K6:=Lib.hid (K5.out.to b6);have O6:=Lib.hid ho6;have P5:=Lib.hid (own_below O5.out b6)
     clear ho6 b6 hca K5 SC5 RW5 O5
     have hlz:((ln:Int)==0)=false:=by simp;omega
     by_cases ht3:t≤ln
     · have tt:(t:Int)≤ln:=by omega
       have hE2:=HE2.out;rw[if_pos tt] at hE2;subst hE2
       go_wp2_with fail
       have heq:=qM2 w6 A5 A6 Ra.length c5 Ra.length c6 Ra Ra (by omega) (by omega) rfl rfl (Lay.of_own P5.out (Nat.le_refl _)) (Lay.of_own O6.out (Nat.le_refl _));rw[decide_eq_true rfl] at heq;refine heq.mono ?_;clear heq;rintro en w7 ⟨rfl,b7⟩;have K7:=Lib.hid (K6.out.to b7);clear b7
       go_wp2_with fail
       refine(qHc w7 (HE.out.below K7.out.bel)).mono ?_;rintro en w8 ⟨rfl,b8⟩;have K8:=Lib.hid (K7.out.to b8);clear b8
       go_wp2_with fail
       go_ret
       exact⟨rfl,K8.out.bel⟩
     · have tt:¬(t:Int)≤ln:=by omega
       have hE2:=HE2.out;rw[if_neg tt] at hE2;subst hE2
       go_wp2_with fail
       have heq:=qM2 w6 A5 A6 Ra.length c5 Ra.length c6 Ra Ra (by omega) (by omega) rfl rfl (Lay.of_own P5.out (Nat.le_refl _)) (Lay.of_own O6.out (Nat.le_refl _));rw[decide_eq_true rfl] at heq;refine heq.mono ?_;clear heq;rintro en w7 ⟨rfl,b7⟩;have K7:=Lib.hid (K6.out.to b7);clear b7
       go_wp2_with fail
       refine(qHc w7 (HE.out.below K7.out.bel)).mono ?_;rintro en w8 ⟨rfl,b8⟩;have K8:=Lib.hid (K7.out.to b8);clear b8
       go_wp2_with fail
       go_ret
       exact⟨rfl,K8.out.bel⟩
end Go.Proofs.YtainiaighnjpfaaGreatDoor
