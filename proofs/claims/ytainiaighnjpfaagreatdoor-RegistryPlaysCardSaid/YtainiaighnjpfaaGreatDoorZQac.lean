/- Evolve: may schemas follow each other: the package's answer. -/
import Derived.Test.YtainiaighnjpfaaGreatDoorZQab
set_option maxHeartbeats 4000000
set_option maxRecDepth 100000
set_option linter.unusedVariables false
set_option linter.unusedSimpArgs false
namespace Go.Ms
open Go.RowKit Go.Lib
def SRef.vs (r:SRef):List Value:=[.slice r.a r.n r.c,.slice r.b r.m r.d]
def scsV (l:List SRef):List Value:=l.flatMap SRef.vs
theorem qFo (l:List SRef):(scsV l).length=l.length*2:=by
 induction l with
 |nil=>rfl
 |cons a t ih=>show(a.vs++scsV t).length=_;rw[List.length_append,ih,List.length_cons];simp[SRef.vs];omega
theorem qHb (l m:List SRef):scsV (l++m)=scsV l++scsV m:=List.flatMap_append
theorem qOx:∀(l:List SRef) (i:Nat) (r:SRef),l[i]?=some r→(scsV l)[i*2]?=some (.slice r.a r.n r.c)∧(scsV l)[i*2+1]?=some (.slice r.b r.m r.d)
  |[],i,r,h=>by simp at h
  |a::t,0,r,h=>by
   have h:a=r:=by simpa using h
   subst h;exact⟨rfl,rfl⟩
  |a::t,i+1,r,h=>by
   obtain⟨h1,h2⟩:=qOx t i r (by simpa using h);have e1:(i+1)*2=i*2+2:=by omega
   show(a.vs++scsV t)[(i+1)*2]?=_∧(a.vs++scsV t)[(i+1)*2+1]?=_
   rw[e1];exact⟨h1,h2⟩
theorem qD2 (l:List SRef):∀u∈scsV l,u.oneCell'=true:=by
 intro u hu;obtain⟨c,_,hc⟩:=List.mem_flatMap.1 hu;simp[SRef.vs] at hc;rcases hc with rfl|rfl <;> rfl
structure qA0 (W:World) (B:Nat) (L:Option Addr) (rs:List SRef) (ss:List Sc):Prop where
  len:rs.length=ss.length
  lay:Lay W B L (scsV rs)
  each:∀(i:Nat) r s,rs[i]?=some r→ss[i]?=some s→qBv W B r s
theorem qA0.to {W W':World} {L:Option Addr} {rs:List SRef} {ss:List Sc} (h:qA0 W W.heap.size L rs ss) (hb:Below W.heap.size W W'):qA0 W' W'.heap.size L rs ss:=
  ⟨h.len,(h.lay.below hb).more hb.size,fun i r s h1 h2=>(h.each i r s h1 h2).to hb⟩
structure qN2 (g o B:Nat) (r:SRef) (W:World):Prop where
  lt:g<B
  c0:W.cell? ⟨g,o,none⟩=some (.slice r.a r.n r.c)
  c1:W.cell? ⟨g,o+1,none⟩=some (.slice r.b r.m r.d)
theorem qN2.below {g o B:Nat} {r:SRef} {W W':World} (h:qN2 g o B r W) (hb:Below B W W'):qN2 g o B r W':=⟨h.lt,(hb.cell h.lt).trans h.c0,(hb.cell h.lt).trans h.c1⟩
theorem qN2.more {g o B B':Nat} {r:SRef} {W:World} (h:qN2 g o B r W) (hb:B≤B'):qN2 g o B' r W:=⟨Nat.lt_of_lt_of_le h.lt hb,h.c0,h.c1⟩
theorem qA0.at_ {W:World} {B:Nat} {L:Option Addr} {rs:List SRef} {ss:List Sc} (h:qA0 W B L rs ss) {i:Nat} {r:SRef} (hi:rs[i]?=some r):∃g o,L=some ⟨g,o,none⟩∧qN2 g (o+i*2) B r W:=by
 have hl:=(List.getElem?_eq_some_iff.1 hi).1;obtain⟨g,o,e,hb,hc⟩:=h.lay.some_ (by rw[qFo];omega);obtain⟨h1,h2⟩:=qOx rs i r hi;exact⟨g,o,e,hb,hc _ _ h1,hc _ _ h2⟩
def evAb (l:List Sc):Int:=l.foldl (fun ab s=>max ab (qB6 s.1)) 0
theorem qKa (l:List Sc) (s:Sc):evAb (l++[s])=max (evAb l) (qB6 s.1):=by unfold evAb;rw[List.foldl_append];rfl
theorem qJ6:∀(r:List Sc) (s:Sc) (pre:List Sc),qC4 s (evAb (pre++[s])) r=true↔∀(i:Nat) a b,(s::r)[i]?=some a→r[i]?=some b→qBa a b (evAb ((pre++(s::r)).take (pre.length+i+1)))=true
  |[],s,pre=>by simp[qC4]
  | t ::r,s,pre=>by
   have ih:=qJ6 r t (pre++[s]);have e:max (evAb (pre++[s])) (qB6 t.1)=evAb (pre++[s]++[t]):=(qKa _ _).symm;have e2:pre++[s]++(t::r)=pre++(s::t::r):=by simp
   rw[qC4,Bool.and_eq_true,e,ih,e2];constructor
   · rintro⟨h1,h2⟩ i a b ha hb
     cases i with
     | zero=>
      obtain rfl:s=a:=by simpa using ha
      obtain rfl:t=b:=by simpa using hb
      have:(pre++s::t::r).take (pre.length+0+1)=pre++[s]:=by
       rw[show pre++s::t::r=(pre++[s])++(t::r) by simp,List.take_left' (by simp)]
      rw[this];exact h1
     |succ i=>
      have:=h2 i a b (by simpa using ha) (by simpa using hb);rw[List.length_append,List.length_singleton] at this;rw[show pre.length+(i+1)+1=pre.length+1+i+1 by omega];exact this
   · intro h;refine⟨?_,fun i a b ha hb=>?_⟩
     · have h1:=h 0 s t rfl rfl
       have:(pre++s::t::r).take (pre.length+0+1)=pre++[s]:=by
        rw[show pre++s::t::r=(pre++[s])++(t::r) by simp,List.take_left' (by simp)]
       rw[this] at h1;exact h1
     · have:=h (i+1) a b (by simpa using ha) (by simpa using hb);rw[List.length_append,List.length_singleton];rw[show pre.length+(i+1)+1=pre.length+1+i+1 by omega] at this;exact this
def qOv (l:List Sc) (k:Nat):Prop:= ∀(i:Nat) a b,i+1<k→l[i]?=some a→l[i+1]?=some b→qBa a b (evAb (l.take (i+1)))=true
theorem qLd {l:List Sc} (h:64<l.length):qAs l=5:=by unfold qAs;rw[if_pos h]
theorem qM1 {l:List Sc} (h:¬64<l.length) (ha:l.all (fun s=>scOk s.1 s.2)=false):qAs l=2:=by unfold qAs;rw[if_neg h,ha];rfl
theorem qM9 {l:List Sc} (h:¬64<l.length) (ha:l.all (fun s=>scOk s.1 s.2)=true) (hl:qOv l l.length):qAs l=0:=by
 unfold qAs;rw[if_neg h,if_pos ha]
 cases l with
 |nil=>rfl
 | cons s r=>
  have h1:=(qJ6 r s []).2 (fun i a b h1 h2=>by
   have h3:=(List.getElem?_eq_some_iff.1 h2).1;have:=hl i a b (by rw[List.length_cons];omega) h1 (by simpa using h2)
   simpa using this)
  have e:evAb ([]++[s])=max 0 (qB6 s.1):=rfl;rw[e] at h1;simp only[h1,if_true]
theorem qNc {l:List Sc} (h:¬64<l.length) (ha:l.all (fun s=>scOk s.1 s.2)=true) {i:Nat} {a b:Sc} (h1:l[i]?=some a) (h2:l[i+1]?=some b) (hf:qBa a b (evAb (l.take (i+1)))=false):qAs l=120:=by
 unfold qAs;rw[if_neg h,if_pos ha]
 cases l with
 |nil=>simp at h1
 | cons s r=>
  have e:evAb ([]++[s])=max 0 (qB6 s.1):=rfl
  have hn:¬qC4 s (max 0 (qB6 s.1)) r=true:=fun hy=>by
   rw[←e] at hy;have:=(qJ6 r s []).1 hy i a b h1 (by simpa using h2);simp at this;simp at hf;rw[hf] at this;cases this
  simp only[hn,if_false];rfl
end Go.Ms
namespace Go.Proofs.YtainiaighnjpfaaGreatDoor
open Go.RowKit Go.Ms Go.Lib Go.Shelf Go.Rel
theorem qTp (r:SRef) (s:Sc) (w:World) (h:qBv w w.heap.size r s) (hz:ScSz s.1) (hE:Env w) :
    Calls Tryz.prog 69 #[.agg #[.slice r.a r.n r.c,.slice r.b r.m r.d]] w fun e w'=>e=.returned (.bool (!scOk s.1 s.2))∧Below w.heap.size w w':=by
 have hb0:Below w.heap.size w (w.alloc (.cells #[.slice r.a r.n r.c,.slice r.b r.m r.d] 33)):=(Below.refl _ w).alloc le_ _;have h0:=h.to hb0;have hc:=qGn _ r.a r.b r.n r.c r.m r.d s.1 s.2 hz h0.nn h0.mm h0.n h0.m h0.la h0.lb (hE.below hb0);have HC:=hh_ hc;have HB:=hh_ hb0;clear hc hb0 h0 h hz hE
 cases hs:scOk s.1 s.2 with
 |true=>
  rw[qF0 hs] at HC;simp only[if_true] at HC;go_enter Tryz.func69,Tryz.ntmps69;go_wp2_with fail
  refine HC.out.mono ?_;rintro en w1 ⟨rfl,b1⟩;have B1:=hh_ (HB.out.trans (b1.mono HB.out.size));clear b1;go_wp2_with fail
  go_ret;exact⟨rfl,B1.out⟩
 |false=>
  rw[qF0 hs] at HC;simp only[Bool.false_eq_true,if_false] at HC;go_enter Tryz.func69,Tryz.ntmps69;go_wp2_with fail
  refine HC.out.mono ?_;rintro en w1 ⟨rfl,b1⟩;have B1:=hh_ (HB.out.trans (b1.mono HB.out.size));clear b1;go_wp2_with fail
  go_ret;exact⟨rfl,B1.out⟩
theorem qRu (w:World) (L:Option Addr) (n cap:Nat) (rs:List SRef) (ss:List Sc) (hn':n≤100000) (hn:n=rs.length) (hL:qA0 w w.heap.size L rs ss) (hz:∀s∈ss,ScSz s.1) (hE:Env w) :
    Calls Tryz.prog 100 #[.slice L n cap,.func (.func 69) #[] #[]] w fun e w'=>e=.returned (.int .i64 (idxL (fun s=> !scOk s.1 s.2) ss))∧Below w.heap.size w w':=by
 have HL:=hh_ hL;have HN:=hh_ hn;have HZ:=hh_ hz;have HE:=hh_ hE;clear hL hn hz hE;go_enter Tryz.func100,Tryz.ntmps100;go_wp2_with fail
 go_loopw [8] (fun id wr=> ∃k:Nat,k≤n∧id=.int .i64 k∧Below w.heap.size w wr∧∀(j:Nat) x,j<k→ss[j]?=some x→(!scOk x.1 x.2)=false) (fun id _=>n-(RowKit.intOf id).toNat)
 case atStart=>exact⟨0,by omega,rfl,Below.refl _ _,fun j c h=>absurd h (by omega)⟩
 case round=>
  obtain⟨k,hk,rfl,hb,hp⟩:=hrel;have HP:=hh_ hp;clear hp;by_cases hlk:k<n
  · have hki:(k:Int)<n:=by omega
    obtain⟨r,hr⟩:∃r,rs[k]?=some r:=⟨_,List.getElem?_eq_getElem (by rw[←HN.out];omega)⟩;obtain⟨x,hx⟩:∃x,ss[k]?=some x:=⟨_,List.getElem?_eq_getElem (by rw[←HL.out.len,←HN.out];omega)⟩;obtain⟨g,o,rfl,hg⟩:=HL.out.at_ hr;have hg2:=hg.below hb;have g1:=hg2.c0;have g2:=hg2.c1;have hcall:=qTp r x wr ((HL.out.each k r x hr hx).to hb) (HZ.out x (List.mem_of_getElem? hx)) (HE.out.below hb);have HX:=hh_ hx;have HB:=hh_ hb;have HCA:=hh_ hcall;clear hx hb hcall hr hg hg2
    cases hpx:(!scOk x.1 x.2) with
    |true=>
     have HR:=hh_ (qMn (p:=fun s:Sc=> !scOk s.1 s.2) HX.out HP.out hpx);go_wp2_with fail
     refine HCA.out.mono ?_;rw[hpx];clear hpx;rintro en w1 ⟨rfl,b1⟩;have B1:=hh_ (HB.out.trans (b1.mono HB.out.size));clear b1;go_wp2_with fail
     go_ret;exact⟨congrArg (fun i=>Ending.returned (.int .i64 i)) HR.out.symm,B1.out⟩
    | false=>
     have HPX:=hh_ hpx;go_wp2_with fail
     refine HCA.out.mono ?_;rw[hpx];clear hpx;rintro en w1 ⟨rfl,b1⟩;have B1:=hh_ (HB.out.trans (b1.mono HB.out.size));clear b1;go_wp2_with fail
     go_roundw
     case rel=>
      refine⟨k+1,by omega,by go_num,B1.out,fun j y hj hy=>?_⟩;by_cases e:j=k
      · subst e;rw[HX.out] at hy;cases hy;exact HPX.out
      · exact HP.out j y (by omega) hy
     case measure=>simp[RowKit.intOf];omega
  · have hki:¬(k:Int)<n:=by omega
    have HR:=hh_ (qG9 (p:=fun s:Sc=> !scOk s.1 s.2) (l:=ss) (fun j x hx=>HP.out j x (by have:=(List.getElem?_eq_some_iff.1 hx).1;have:=HN.out;have:=HL.out.len;omega) hx));have HB:=hh_ hb;clear hb;go_wp2_with fail
    go_ret;exact⟨congrArg (fun i=>Ending.returned (.int .i64 i)) HR.out.symm,HB.out⟩
theorem qRg (w:World) (L:Option Addr) (n cap:Nat) (rs:List SRef) (ss:List Sc) (hn':n≤100000) (hn:n=rs.length) (hL:qA0 w w.heap.size L rs ss) (hz:∀s∈ss,ScSz s.1) (hE:Env w) :
    Calls Tryz.prog 68 #[.slice L n cap,.func (.func 69) #[] #[]] w fun e w'=>e=.returned (.bool (!ss.all (fun s=>scOk s.1 s.2)))∧Below w.heap.size w w':=by
 have hc:=qRu w L n cap rs ss hn' hn hL hz hE
 have e:decide (0≤idxL (fun s:Sc=> !scOk s.1 s.2) ss)= !ss.all (fun s=>scOk s.1 s.2):=by
  rw[qPj,List.not_all_eq_any_not]
 rw[←e];clear e hn hL hz hE hn';generalize idxL (fun s:Sc=> !scOk s.1 s.2) ss=I at hc ⊢;have HC:=hh_ hc;clear hc;go_enter Tryz.func68,Tryz.ntmps68;go_wp2_with fail
 refine HC.out.mono ?_;rintro en w1 ⟨rfl,b1⟩;go_wp2_with fail
 go_ret;exact⟨rfl,b1⟩
theorem qJy (w:World) (L:Option Addr) (n cap:Nat) (rs:List SRef) (ss:List Sc) (hn':n≤100000) (hn:n=rs.length) (hL:qA0 w w.heap.size L rs ss) (hz:∀s∈ss,ScSz s.1) (hE:Env w) :
    Calls Tryz.prog 33 #[.slice L n cap] w fun e w'=>e=.returned (.int .i64 (qAs ss))∧Below w.heap.size w w':=by
 have hns:n=ss.length:=hn.trans hL.len;by_cases h64:64<n
 · have hc:=qLd (l:=ss) (by omega);have h64':(64:Int)<n:=by omega
   have HC:=hh_ hc;clear hc hn hL hz hE hns;go_enter Tryz.func33,Tryz.ntmps33;go_wp2_with fail
   go_ret;exact⟨congrArg (fun i=>Ending.returned (.int .i64 i)) HC.out.symm,Below.refl _ _⟩
 have h64':¬(64:Int)<n:=by omega
 have h64s:¬64<ss.length:=by omega
 have hodd:=qRg w L n cap rs ss hn' hn hL hz hE
 cases hall:ss.all (fun s=>scOk s.1 s.2) with
 |false=>
  have hc:=qM1 h64s hall;rw[hall] at hodd;have HO:=hh_ hodd;have HC:=hh_ hc;clear hc hn hL hz hE hns hodd hall h64s;go_enter Tryz.func33,Tryz.ntmps33;go_wp2_with fail
  refine HO.out.mono ?_;rintro en w1 ⟨rfl,b1⟩;have B1:=hh_ b1;clear b1;go_wp2_with fail
  go_ret;exact⟨congrArg (fun i=>Ending.returned (.int .i64 i)) HC.out.symm,B1.out⟩
 | true =>
  have hok:∀(i:Nat) s,ss[i]?=some s→scOk s.1 s.2=true:=fun i s hs=>List.all_eq_true.1 hall s (List.mem_of_getElem? hs)
  rw[hall] at hodd;have HO:=hh_ hodd;have HN:=hh_ hn;have HL:=hh_ hL;have HNS:=hh_ hns;have HALL:=hh_ hall;have HOK:=hh_ hok;have H64:=hh_ h64s;clear hn hL hz hE hns hodd hall hok h64s;go_enter Tryz.func33,Tryz.ntmps33;go_wp2_with fail
  refine HO.out.mono ?_;rintro en w1 ⟨rfl,b1⟩;have B1:=hh_ b1;clear b1;go_wp2_with fail
  go_loopw [3,13] (fun ab id wr=> ∃k:Nat,k≤n∧id=.int .i64 k∧ab=.int .i64 (evAb (ss.take k))∧qOv ss k∧Below w.heap.size w wr) (fun _ id _=>n-(RowKit.intOf id).toNat)
  case atStart=>exact⟨0,by omega,rfl,rfl,fun i a b h=>absurd h (by omega),B1.out⟩
  case round =>
   obtain⟨k,hk,rfl,rfl,hlinks,hb⟩:=hrel;have HLK:=hh_ hlinks;clear hlinks;by_cases hlk:k<n
   · have hki:(k:Int)<n:=by omega
     obtain⟨rk,hrk⟩:∃r,rs[k]?=some r:=⟨_,List.getElem?_eq_getElem (by rw[←HN.out];omega)⟩;obtain⟨sk,hsk⟩:∃x,ss[k]?=some x:=⟨_,List.getElem?_eq_getElem (by rw[←HNS.out];omega)⟩;have htk:ss.take (k+1)=ss.take k++[sk]:=by rw[List.take_add_one,hsk];rfl
     have hab:evAb (ss.take (k+1))=max (evAb (ss.take k)) (qB6 sk.1):=by rw[htk,qKa]
     obtain⟨X,hX⟩:∃X,X=wr.alloc (.cells #[.slice rk.a rk.n rk.c,.slice rk.b rk.m rk.d] 33):=⟨_,rfl⟩;have bX:Below wr.heap.size wr X:=by rw[hX];exact(Below.refl _ wr).alloc le_ _
     have qX:X.heap[wr.heap.size]?=some (.cells #[.slice rk.a rk.n rk.c,.slice rk.b rk.m rk.d] 33 (0,0)):=by rw[hX];exact qAd _ _
     have bwX:=hb.trans (bX.mono hb.size);have pB:=(HL.out.each k rk sk hrk hsk).to bwX;have kK:=keys_in (HOK.out k sk hsk);have hgr:=fun (W:World) (hW:Below X.heap.size X W)=>qNa rk.a rk.b rk.n rk.c rk.m rk.d sk.1 sk.2 W pB.n pB.nn (pB.to hW).la (pB.to hW).lb
     obtain⟨g,o,eL,hg⟩:=HL.out.at_ hrk;have hg2:=hg.below hb;have g1:=hg2.c0;have g2:=hg2.c1;have HAB:=hh_ hab;have PB:=hh_ pB;have KK:=hh_ kK;have Q1:=hh_ qX;have BWX:=hh_ bwX;have HGR:=hh_ hgr;have HSK:=hh_ hsk;clear htk hab pB kK qX bX hgr hg hg2;rcases Nat.eq_zero_or_pos k with hk0|hk0
     · subst hk0;clear HLK;subst eL;rw[Nat.zero_mul,Nat.add_zero] at g1 g2;go_wp2_with fail
       rw[←hX];clear hX;refine qAe [isV (.int .i64 (0:Nat)),iF,iF,iU,iU,iU,iU,iU,iU,iU,iU,iU,iF] (by kernel_rfl) (by kernel_rfl) ?_ ?_
       ·
         refine rb ?_;refine rf (fun ev wo E=>?_) ?_
         · have e18:ev (.tmp 18)=.int .i64 (0:Nat):=E.e 0;have ec:=E.const;go_simp;exact rv
         refine rc 0 ?_;refine ro 0 ?_;refine ro 0 ?_;refine ro 1 ?_;refine ro 2 ?_;refine ro 1 ?_;refine ro 0 ?_;refine ro 0 ?_;refine ro 3 ?_;refine ro 1 ?_;refine rf (fun ev wo E=>?_) ?_
         · have e20:ev (.tmp 20)=.bool false:=E.e 0;have e29:ev (.tmp 29)=undef:=E.e 1;have ec:=E.const;go_simp;exact rv
         trivial
       · intro wz bz
         (iterate 13 rintro _ rfl)
         have B2:=hh_ (BWX.out.trans (bz.mono BWX.out.size));have HG:=hh_ (HGR.out wz bz);have q2:=bk_ Q1.out bz;have d0:=cb_ 0 q2 rfl;have d1:=cb_ 1 q2 rfl;clear bz q2;simp only[qAq];go_simp;go_wp2_with fail
         refine HG.out.mono ?_;rintro en w2 ⟨rfl,b2⟩;have B3:=hh_ (B2.out.trans (b2.mono B2.out.size));clear b2 d0 d1;go_wp2_with fail
         go_roundw
         case rel=>
          refine⟨0+1,by omega,by go_num,congrArg (fun i=>Value.int .i64 i) HAB.out.symm,fun i a b h=>absurd h (by omega),B3.out⟩
         case measure=>simp[RowKit.intOf];omega
     · have hkn:k-1<n:=by omega
       obtain⟨rp,hrp⟩:∃r,rs[k-1]?=some r:=⟨_,List.getElem?_eq_getElem (by rw[←HN.out];omega)⟩;obtain⟨sp,hsp⟩:∃x,ss[k-1]?=some x:=⟨_,List.getElem?_eq_getElem (by rw[←HNS.out];omega)⟩;obtain⟨g',o',eL',hg'⟩:=HL.out.at_ hrp;rw[eL] at eL';cases eL'
       subst eL;have hw:=iw_ ((k:Int)-1) (by omega);have G:=hh_ ((hg'.below BWX.out).more BWX.out.size);have PA:=hh_ ((HL.out.each (k-1) rp sp hrp hsp).to BWX.out);have KP:=hh_ (keys_in (HOK.out (k-1) sp hsp));have HK0:=hh_ hk0;have HW:=hh_ hw;have HKN:=hh_ hlk;have HSP:=hh_ hsp;clear hg' hrp hsp hw hrk hsk
       cases hf:qBa sp sk (evAb (ss.take k)) with
       |true=>
        have HF:=hh_ (show qBa (sp.1,sp.2) (sk.1,sk.2) (evAb (ss.take k))=true from hf);clear hf;go_wp2_with fail
        rw[←hX];clear hX;refine qAe [isV (.int .i64 (k:Nat)),iT,iT,isV (.slice (some ⟨g,o,none⟩) n cap),isV (.int .i64 (k:Nat)),isV (.int .i64 ((k:Int)-1)),isV (.pointer (some ⟨g,o+(k-1)*2,none⟩)),isV (.agg #[.slice rp.a rp.n rp.c,.slice rp.b rp.m rp.d]),isV (.agg #[.slice rk.a rk.n rk.c,.slice rk.b rk.m rk.d]),isV (.int .i64 (evAb (ss.take k))),iT,iF,iF] (by kernel_rfl) (by kernel_rfl) ?_ ?_
        ·
          refine rb ?_;refine rf (fun ev wo E=>?_) ?_
          · have e18:ev (.tmp 18)=.int .i64 (k:Nat):=E.e 0;have ec:=E.const;have h0:=HK0.out;go_simp;exact rv
          refine rc 0 ?_;refine rbq 0 ?_;refine rbq 0 ?_;refine rq 1 (fun ev wo E=>?_) ?_
          · have e22:ev (.tmp 22)=.int .i64 (k:Nat):=E.e 0;have ec:=E.const;have h0:=HW.out;go_simp;exact rv
          refine rq 2 (fun ev wo E=>?_) ?_
          · have e21:ev (.tmp 21)=.slice (some ⟨g,o,none⟩) n cap:=E.e 0;have e23:ev (.tmp 23)=.int .i64 ((k:Int)-1):=E.e 1;have h0:=HKN.out;have h1:=HK0.out;have h2:(0:Int)≤(k:Int)-1:=by omega
            have h3:(k:Int)-1<n:=by omega
            have h4:(1:Int)≤k:=by omega
            go_simp;exact rv
          refine rq 1 (fun ev wo E=>?_) ?_
          · have e24:ev (.tmp 24)=.pointer (some ⟨g,o+(k-1)*2,none⟩):=E.e 0;have hx0:=(E.bel.cell G.out.lt).trans G.out.c0;have hx1:=(E.bel.cell G.out.lt).trans G.out.c1;go_simp;exact rv
          refine rq 0 (fun ev wo E=>?_) ?_
          · have e5:ev (.tmp 5)=.pointer (some ⟨wr.heap.size,0,none⟩):=(E.base 5 rfl).trans rfl;have hx0:=cb_ 0 (bk_ Q1.out E.bel) rfl;have hx1:=cb_ 1 (bk_ Q1.out E.bel) rfl;go_simp;exact rv
          refine rbq 0 ?_;refine rq 3 (fun ev wo E=>?_) ?_
          · have e25:ev (.tmp 25)=.agg #[.slice rp.a rp.n rp.c,.slice rp.b rp.m rp.d]:=E.e 0;have e26:ev (.tmp 26)=.agg #[.slice rk.a rk.n rk.c,.slice rk.b rk.m rk.d]:=E.e 1;have e27:ev (.tmp 27)=.int .i64 (evAb (ss.take k)):=E.e 2;have ef:=E.func;go_simp;have pa:=PA.out.below E.bel |>.more E.bel.size;have pb:=PB.out.below E.bel |>.more E.bel.size;refine qAb ((qJl rp.a rp.b rp.n rp.c rp.m rp.d sp.1 sp.2 rk.a rk.b rk.n rk.c rk.m rk.d sk.1 sk.2 (evAb (ss.take k)) wo pa.n pa.m pa.nn pa.mm pa.la pa.lb KP.out pb.n pb.m pb.nn pb.mm pb.la pb.lb KK.out).mono ?_);rw[HF.out];rintro e w' ⟨rfl,hb⟩;exact⟨_,rfl,hb,rfl⟩
          refine rq 1 (fun ev wo E=>?_) ?_
          · have e28:ev (.tmp 28)=.bool true:=E.e 0;go_simp;exact rv
          refine rf (fun ev wo E=>?_) ?_
          · have e20:ev (.tmp 20)=.bool true:=E.e 0;have e29:ev (.tmp 29)=.bool false:=E.e 1;have ec:=E.const;go_simp;exact rv
          trivial
        · intro wz bz
          (iterate 13 rintro _ rfl)
          have B2:=hh_ (BWX.out.trans (bz.mono BWX.out.size));have HG:=hh_ (HGR.out wz bz);have q2:=bk_ Q1.out bz;have d0:=cb_ 0 q2 rfl;have d1:=cb_ 1 q2 rfl;clear bz q2;simp only[qAq];go_simp;go_wp2_with fail
          refine HG.out.mono ?_;rintro en w2 ⟨rfl,b2⟩;have B3:=hh_ (B2.out.trans (b2.mono B2.out.size));clear b2 d0 d1;go_wp2_with fail
          go_roundw
          case rel=>
           refine⟨k+1,by omega,by go_num,congrArg (fun i=>Value.int .i64 i) HAB.out.symm,fun i a b h1 h2 h3=>?_,B3.out⟩;by_cases e:i+1=k
           · obtain rfl:i=k-1:=by omega
             rw[HSP.out] at h2;cases h2;rw[e] at h3 ⊢;rw[HSK.out] at h3;cases h3;exact HF.out
           · exact HLK.out i a b (by omega) h2 h3
          case measure=>simp[RowKit.intOf];omega
       |false=>
        have HF:=hh_ (show qBa (sp.1,sp.2) (sk.1,sk.2) (evAb (ss.take k))=false from hf);clear hf;go_wp2_with fail
        rw[←hX];clear hX;refine qAe [isV (.int .i64 (k:Nat)),iT,iT,isV (.slice (some ⟨g,o,none⟩) n cap),isV (.int .i64 (k:Nat)),isV (.int .i64 ((k:Int)-1)),isV (.pointer (some ⟨g,o+(k-1)*2,none⟩)),isV (.agg #[.slice rp.a rp.n rp.c,.slice rp.b rp.m rp.d]),isV (.agg #[.slice rk.a rk.n rk.c,.slice rk.b rk.m rk.d]),isV (.int .i64 (evAb (ss.take k))),iF,iT,iT] (by kernel_rfl) (by kernel_rfl) ?_ ?_
        ·
          refine rb ?_;refine rf (fun ev wo E=>?_) ?_
          · have e18:ev (.tmp 18)=.int .i64 (k:Nat):=E.e 0;have ec:=E.const;have h0:=HK0.out;go_simp;exact rv
          refine rc 0 ?_;refine rbq 0 ?_;refine rbq 0 ?_;refine rq 1 (fun ev wo E=>?_) ?_
          · have e22:ev (.tmp 22)=.int .i64 (k:Nat):=E.e 0;have ec:=E.const;have h0:=HW.out;go_simp;exact rv
          refine rq 2 (fun ev wo E=>?_) ?_
          · have e21:ev (.tmp 21)=.slice (some ⟨g,o,none⟩) n cap:=E.e 0;have e23:ev (.tmp 23)=.int .i64 ((k:Int)-1):=E.e 1;have h0:=HKN.out;have h1:=HK0.out;have h2:(0:Int)≤(k:Int)-1:=by omega
            have h3:(k:Int)-1<n:=by omega
            have h4:(1:Int)≤k:=by omega
            go_simp;exact rv
          refine rq 1 (fun ev wo E=>?_) ?_
          · have e24:ev (.tmp 24)=.pointer (some ⟨g,o+(k-1)*2,none⟩):=E.e 0;have hx0:=(E.bel.cell G.out.lt).trans G.out.c0;have hx1:=(E.bel.cell G.out.lt).trans G.out.c1;go_simp;exact rv
          refine rq 0 (fun ev wo E=>?_) ?_
          · have e5:ev (.tmp 5)=.pointer (some ⟨wr.heap.size,0,none⟩):=(E.base 5 rfl).trans rfl;have hx0:=cb_ 0 (bk_ Q1.out E.bel) rfl;have hx1:=cb_ 1 (bk_ Q1.out E.bel) rfl;go_simp;exact rv
          refine rbq 0 ?_;refine rq 3 (fun ev wo E=>?_) ?_
          · have e25:ev (.tmp 25)=.agg #[.slice rp.a rp.n rp.c,.slice rp.b rp.m rp.d]:=E.e 0;have e26:ev (.tmp 26)=.agg #[.slice rk.a rk.n rk.c,.slice rk.b rk.m rk.d]:=E.e 1;have e27:ev (.tmp 27)=.int .i64 (evAb (ss.take k)):=E.e 2;have ef:=E.func;go_simp;have pa:=PA.out.below E.bel |>.more E.bel.size;have pb:=PB.out.below E.bel |>.more E.bel.size;refine qAb ((qJl rp.a rp.b rp.n rp.c rp.m rp.d sp.1 sp.2 rk.a rk.b rk.n rk.c rk.m rk.d sk.1 sk.2 (evAb (ss.take k)) wo pa.n pa.m pa.nn pa.mm pa.la pa.lb KP.out pb.n pb.m pb.nn pb.mm pb.la pb.lb KK.out).mono ?_);rw[HF.out];rintro e w' ⟨rfl,hb⟩;exact⟨_,rfl,hb,rfl⟩
          refine rq 1 (fun ev wo E=>?_) ?_
          · have e28:ev (.tmp 28)=.bool false:=E.e 0;go_simp;exact rv
          refine rf (fun ev wo E=>?_) ?_
          · have e20:ev (.tmp 20)=.bool true:=E.e 0;have e29:ev (.tmp 29)=.bool true:=E.e 1;have ec:=E.const;go_simp;exact rv
          trivial
        · intro wz bz
          (iterate 13 rintro _ rfl);have hbad:=qNc H64.out HALL.out HSP.out (by rw[Nat.sub_add_cancel HK0.out];exact HSK.out) (by rw[Nat.sub_add_cancel HK0.out];exact HF.out)
          have HBAD:=hh_ hbad;have B2:=hh_ (BWX.out.trans (bz.mono BWX.out.size));clear bz hbad;simp only[qAq];go_simp;go_wp2_with fail
          go_ret;exact⟨congrArg (fun i=>Ending.returned (.int .i64 i)) HBAD.out.symm,B2.out⟩
   · have hki:¬(k:Int)<n:=by omega
     obtain rfl:k=n:=by omega
     have hyes:=qM9 H64.out HALL.out (by rw[←HNS.out];exact HLK.out);have HY:=hh_ hyes;have B2:=hh_ hb;clear hyes hb;go_wp2_with fail
     go_ret;exact⟨congrArg (fun i=>Ending.returned (.int .i64 i)) HY.out.symm,B2.out⟩
end Go.Proofs.YtainiaighnjpfaaGreatDoor
