/- Rows: what Check answers. Schemas that follow each other, plainly: the chain of a seed. Schemas that follow each other, plainly: a seed's versions are a chain. Schemas that follow each other, plainly: a seed's rows, and what the laws say of them. Schemas that follow each other, plainly: a row carried in parts; what EvolveRows and EvolveCells say. -/
import Derived.Test.YtikpmmipopmjaaaGreatDoorZQn
import Derived.Test.YtikpmmipopmjaaaGreatDoorZQx
set_option linter.unusedVariables false
namespace Go.Proofs.YtikpmmipopmjaaaGreatDoor
open Go.RowKit Go.Ms Go.Lib
structure qFr (w:World) (p:Addr) (A:Option Addr) (n cap:Nat) (ts:List Ty) (xs:List Value):Prop where
  box:w.cell? p=some (.slice A n cap)
  cols:Cols w w.heap.size A ts xs
  len:n=ts.length
theorem qSs (w:World) (i:Nat) (c:Cl) (p:Addr) (A:Option Addr) (n cap:Nat) (ts:List Ty) (xs:List Value) (t:Ty) (hsz:c.2.2.size≤100000) (hn:n≤maxLen) (hi:ts[i]?=some t) (hS:qFr w p A n cap ts xs) (hE:Env w) :
    Calls Tryz.prog 71 #[.int .i64 i,.agg #[.bool c.1,.int .i64 c.2.1,.string c.2.2],.pointer (some p)] w fun e w'=>e=.returned (.int .i64 (qCc t c))∧Below w.heap.size w w':=by
 unfold maxLen at hn
 have hin:i<n:=by rw[hS.len];exact(List.getElem?_eq_some_iff.1 hi).1
 obtain⟨g,o,rfl,hb,h2,h3⟩:=hS.cols.ty hi;have hbox:=hS.box;obtain⟨u,m,S⟩:=c;obtain⟨k,tn⟩:=t
 have hcc:∀w',Env w'→Calls Tryz.prog 60 #[.agg #[.int .i64 k,.bool tn],.agg #[.bool u,.int .i64 m,.string S]] w' fun e w''=>e=.returned (.int .i64 (qCc (k,tn) (u,m,S)))∧Below w'.heap.size w' w'':=fun w' h=>qCr k tn u m S w' hsz h
 generalize qCc (k,tn) (u,m,S)=C at *
 have HC:=Lib.hid hcc;have HE:=Lib.hid hE;simp only at h2 h3;clear hcc hE hS hi hn;have l1:=qAi hbox;obtain⟨V,hV⟩:∃V,w.alloc (.cells #[.bool u,.int .i64 m,.string S] 57)=V:=⟨_,rfl⟩
 have hbel:Below w.heap.size w V:=by rw[←hV];exact(Below.refl _ _).alloc (Nat.le_refl _) _
 have hnew:V.heap[w.heap.size]?=some (.cells #[.bool u,.int .i64 m,.string S] 57 (0,0)):=by rw[←hV];exact heap_alloc_new w _
 have hD:(V.drew.cell? ⟨w.heap.size,0,none⟩=some (.bool u)∧V.drew.cell? ⟨w.heap.size,1,none⟩=some (.int .i64 m)∧V.drew.cell? ⟨w.heap.size,2,none⟩=some (.string S)∧V.drew.cell? p=some (.slice (some ⟨g,o,none⟩) n cap)∧V.drew.cell? ⟨g,o+i*7+2,none⟩=some (.int .i64 k)∧V.drew.cell? ⟨g,o+i*7+2+1,none⟩=some (.bool tn))∧Below w.heap.size w V.drew:=
   ⟨⟨by show V.cell? _=_;rw[Lib.cell_of_heap hnew];rfl,by show V.cell? _=_;rw[Lib.cell_of_heap hnew];rfl,by show V.cell? _=_;rw[Lib.cell_of_heap hnew];rfl,(hbel.cell l1).trans hbox,(hbel.cell hb).trans h2,(hbel.cell hb).trans h3⟩,qAc hbel 1⟩
 have HV:=Lib.hid hV;have HD:=Lib.hid hD;clear hV hbel hnew hD hbox h2 h3
 go_enter Tryz.func71,Tryz.ntmps71
 go_wp2_with fail
 rw[HV.out]
 go_region_held3 (fun w'=>(w'.cell? ⟨w.heap.size,0,none⟩=some (.bool u)∧w'.cell? ⟨w.heap.size,1,none⟩=some (.int .i64 m)∧w'.cell? ⟨w.heap.size,2,none⟩=some (.string S)∧w'.cell? p=some (.slice (some ⟨g,o,none⟩) n cap)∧w'.cell? ⟨g,o+i*7+2,none⟩=some (.int .i64 k)∧w'.cell? ⟨g,o+i*7+2+1,none⟩=some (.bool tn))∧Below w.heap.size w w')
   (first
     |exact HD.out
     |exact qY9 HD.out bb
     |exact qY9 (by assumption) bb
     |(go_keep;done))
   (((with_reducible refine(HC.out _ ?_).mono ?_);exact HE.out.below (And.right (by assumption));rintro en w5 ⟨rfl,bb⟩))
 all_goals
  go_wp2_with fail
  go_ret
  exact⟨rfl,endK (by assumption)⟩
theorem qFr.below {w w':World} {p:Addr} {A:Option Addr} {n cap:Nat} {ts:List Ty} {xs:List Value} (h:qFr w p A n cap ts xs) (hb:Below w.heap.size w w'):qFr w' p A n cap ts xs:=
  ⟨(hb.cell (qAi h.box)).trans h.box,(h.cols.below hb).more hb.size,h.len⟩
theorem qIz {ts:List Ty} {cs:List Cl} {k:Nat} {t:Ty} {c:Cl} (ht:ts[k]?=some t) (hc:cs[k]?=some c) :
    qCk (ts.drop k) (cs.drop k)=if qCc t c=0 then qCk (ts.drop (k+1)) (cs.drop (k+1)) else qCc t c:=by
 obtain⟨h1,rfl⟩:=List.getElem?_eq_some_iff.1 ht;obtain⟨h2,rfl⟩:=List.getElem?_eq_some_iff.1 hc;rw[List.drop_eq_getElem_cons h1,List.drop_eq_getElem_cons h2];rfl
set_option maxRecDepth 100000 in
theorem qM8 (w:World) (p:Addr) (A B:Option Addr) (n cap m capm:Nat) (ts:List Ty) (xs:List Value) (cs:List Cl) (hsz:∀c∈cs,c.2.2.size≤100000) (hn:n≤maxLen) (hm:m=cs.length) (hlen:n=m) (hS:qFr w p A n cap ts xs) (hL:Lay w w.heap.size B (rowV cs)) (hE:Env w) :
    Calls Tryz.prog 70 #[.slice B m capm,.func (.func 71) #[] #[.pointer (some p)]] w fun e w'=>e=.returned (.int .i64 (qCk ts cs))∧Below w.heap.size w w':=by
 have hlt:ts.length=cs.length:=by rw[←hS.len,←hm];exact hlen
 have hck:=fun (w':World) (i:Nat) (c:Cl) (t:Ty) (hc:c.2.2.size≤100000) (hi:ts[i]?=some t) (hS':qFr w' p A n cap ts xs) (hE':Env w')=>qSs w' i c p A n cap ts xs t hc hn hi hS' hE'
 unfold maxLen at hn
 have HS:=Lib.hid hS;have HL:=Lib.hid hL;have HE:=Lib.hid hE;have HK:=Lib.hid hck;have HZ:=Lib.hid hsz
 have HM:=Lib.hid hm;have HT:=Lib.hid hlt
 have hmb:m≤9223372036854775807:=by omega
 clear hS hL hE hck hsz hm hlt hlen
 go_enter Tryz.func70,Tryz.ntmps70
 go_wp2_with fail
 go_loopw [10] (fun id wr=> ∃k:Nat,k≤m∧id=.int .i64 k∧Below w.heap.size w wr∧qCk ts cs=qCk (ts.drop k) (cs.drop k)) (fun id _=>m-(RowKit.intOf id).toNat)
 case atStart=>exact⟨0,by omega,rfl,Below.refl _ _,rfl⟩
 case round=>
  obtain⟨k,hk,rfl,hb,hr⟩:=hrel;have HR:=Lib.hid hr;clear hr
  by_cases hlk:k<m
  · have hki:(k:Int)<m:=by omega
    obtain⟨c,hc⟩:∃c,cs[k]?=some c:=⟨_,List.getElem?_eq_getElem (by rw[←HM.out];exact hlk)⟩;obtain⟨t,ht⟩:∃t,ts[k]?=some t:=⟨_,List.getElem?_eq_getElem (by rw[HT.out,←HM.out];exact hlk)⟩;obtain⟨g,o,rfl,hg,h1,h2,h3⟩:=HL.out.cl hc;have g1:=(hb.cell hg).trans h1;have g2:=(hb.cell hg).trans h2;have g3:=(hb.cell hg).trans h3;have hz:c.2.2.size≤100000:=HZ.out c (List.mem_of_getElem? hc);have hd:=qIz ht hc;obtain⟨u,nn,S⟩:=c;simp only at g1 g2 g3 hz
    have hcall:=fun w' (h:qFr w' p A n cap ts xs) (h':Env w')=>HK.out w' k (u,nn,S) t hz ht h h'
    have HC:=Lib.hid hcall;have HD:=Lib.hid hd;have HB:=Lib.hid hb
    clear hcall hd hc ht h1 h2 h3 hb
    generalize qCc t (u,nn,S)=C at *
    by_cases hz0:C=0
    · subst hz0
      go_wp2_with fail
      refine(HC.out _ (HS.out.below (HB.out.alloc HB.out.size _)) (HE.out.below (HB.out.alloc HB.out.size _))).mono ?_;rintro en w1 ⟨rfl,b1⟩;have hb1:=(HB.out.alloc HB.out.size (.cells #[.bool u,.int .i64 nn,.string S] 57)).trans (b1.mono (HB.out.alloc HB.out.size _).size);have HB1:=Lib.hid hb1;clear hb1 b1
      go_wp2_with fail
      go_roundw
      case rel=>exact⟨k+1,by omega,by go_num,HB1.out,by rw[HR.out,HD.out];simp⟩
      case measure=>simp[RowKit.intOf];omega
    · have hz1:(C != 0)=true:=by simpa using hz0
      go_wp2_with fail
      refine(HC.out _ (HS.out.below (HB.out.alloc HB.out.size _)) (HE.out.below (HB.out.alloc HB.out.size _))).mono ?_;rintro en w1 ⟨rfl,b1⟩;have hb1:=(HB.out.alloc HB.out.size (.cells #[.bool u,.int .i64 nn,.string S] 57)).trans (b1.mono (HB.out.alloc HB.out.size _).size);have HB1:=Lib.hid hb1;have HZ1:=Lib.hid hz0;clear hb1 b1 hz0
      go_wp2_with fail
      go_ret
      exact⟨by rw[HR.out,HD.out,if_neg HZ1.out];rfl,HB1.out⟩
  · have hki:¬(k:Int)<m:=by omega
    have hkm:k=m:=by omega
    have h0:qCk ts cs=0:=by
     rw[HR.out,hkm,HM.out,List.drop_length]
     cases List.drop cs.length ts <;> rfl
    have H0:=Lib.hid h0;have HB:=Lib.hid hb;clear h0 hb hkm
    go_wp2_with fail
    go_ret
    exact⟨by rw[H0.out];rfl,HB.out⟩
theorem qI5 (w:World) (A B:Option Addr) (n cap m capm:Nat) (ts:List Ty) (xs:List Value) (cs:List Cl) (hsz:∀c∈cs,c.2.2.size≤100000) (hn:n≤maxLen) (hm':m≤maxLen) (hn':n=ts.length) (hm:m=cs.length) (hC:Cols w w.heap.size A ts xs) (hL:Lay w w.heap.size B (rowV cs)) (hE:Env w) :
    Calls Tryz.prog 35 #[.slice A n cap,.slice B m capm] w fun e w'=>e=.returned (.int .i64 (qBx ts cs))∧Below w.heap.size w w':=by
 have hb0:Below w.heap.size w (w.alloc (.cells #[.slice A n cap] 22)):=(Below.refl _ _).alloc (Nat.le_refl _) _
 by_cases h:n=m
 · have hc:w.heap.size<(w.alloc (.cells #[.slice A n cap] 22)).heap.size:=by simp
   have hcall:=qM8 (w.alloc (.cells #[.slice A n cap] 22)) ⟨w.heap.size,0,none⟩ A B n cap m capm ts xs cs hsz hn hm h ⟨by rw[Lib.cell_of_heap (heap_alloc_new w _)];rfl,(hC.below hb0).more (by simp),hn'⟩ ((hL.below hb0).more (by simp)) (hE.below hb0)
   have hr:qBx ts cs=qCk ts cs:=by unfold qBx;rw[if_pos (by omega)]
   rw[hr];subst h;unfold maxLen at hn
   have HC:=Lib.hid hcall;have HB:=Lib.hid hb0
   clear hcall hC hL hE hn' hr hc hb0 hm
   go_enter Tryz.func35,Tryz.ntmps35
   go_wp2_with fail
   refine HC.out.mono ?_;rintro en w1 ⟨rfl,b1⟩;have HB1:=Lib.hid (HB.out.trans (b1.mono HB.out.size));clear b1
   go_wp2_with fail
   go_ret
   exact⟨rfl,HB1.out⟩
 · have hr:qBx ts cs=100:=by unfold qBx;rw[if_neg (by omega)]
   rw[hr]
   have hne:((n:Int) != m)=true:=by simp;omega
   have hne2:(n != m)=true:=by simpa using h
   unfold maxLen at hn hm';clear hr hm hn' h hC hL;have HB:=Lib.hid hb0;clear hb0
   go_enter Tryz.func35,Tryz.ntmps35
   go_wp2_with fail
   go_ret
   exact⟨rfl,HB.out⟩
end Go.Proofs.YtikpmmipopmjaaaGreatDoor
set_option linter.unusedSimpArgs false
namespace Go.Ms
def evKd (n:Int):Int:=if n=0 then 2 else if n=1 then 3 else if n=2 then 4 else if n=3 then 1 else if n=4 then 5 else if n=5 then 2 else if n=6 then 4 else 2
def evNu (n:Int):Bool:=decide (5<n)
def evDf (n:Int):Cl:=if 5<n then (true,0,⟨#[]⟩) else if n=2∨n=4 then (false,0,⟨#[100]⟩) else (false,1,⟨#[]⟩)
def qEe (i:Nat):ByteArray:=⟨#[99,UInt8.ofNat (97+i)]⟩
def qGj (i:Nat):ByteArray:=⟨#[110,UInt8.ofNat (97+i)]⟩
def qE3 (id:Int) (nm:ByteArray) (n:Int):Co:=(id,nm,(evKd n,evNu n),evDf n)
def qEo:Co:=(1,⟨#[107]⟩,(2,false),(false,0,⟨#[]⟩))
def qBq:Nat→List Int→List Co
  |_,[]=>[]
  |i,n::r=>qE3 ((i:Int)+2) (qEe i) (n%8)::qBq (i+1) r
def qBu (wide:Int) (k:Nat) (c:Co):Co:=if (wide/2^k)%2=1∧c.2.2.1.1=2 then (c.1,c.2.1,(3,c.2.2.1.2),c.2.2.2) else c
def qBw (gone wide:Int):Nat→List Co→List Co
  |_,[]=>[]
  |k,c::r=>if 0<k∧(gone/2^k)%2=1 then qBw gone wide (k+1) r else qBu wide k c::qBw gone wide (k+1) r
def qCh (i:Nat) (v:Int×Int×Int) (s:List Co) (id:Int):List Co×Int:=
  if v.2.2%2=0 then (qBw (v.1%65536) (v.2.1%65536) 0 s,id)
  else (qBw (v.1%65536) (v.2.1%65536) 0 s++[qE3 (id+1+(v.1%65536)%2) (qGj i) ((v.2.2.tdiv 2)%8)],id+1+(v.1%65536)%2)
def qC3:Nat→List (Int×Int×Int)→List Co→Int→List Sc
  |_,[],_,_=>[]
  |i,v::r,s,id=>((qCh i v s id).1,[0])::qC3 (i+1) r (qCh i v s id).1 (qCh i v s id).2
def qEj (C:List Int) (V:List (Int×Int×Int)):List Sc:=
  (qEo::qBq 0 (C.take 6),[0])::qC3 0 (V.take 7) (qEo::qBq 0 (C.take 6)) (1+((C.take 6).length:Int))
def qGa (i:Nat):List Bs:=[[107],[99,97],[99,98],[99,99],[99,100],[99,101],[99,102]]++([[110,97],[110,98],[110,99],[110,100],[110,101],[110,102],[110,103]].take i)
structure EvOk (i:Nat) (s:List Co) (id:Int):Prop where
  co:∀c∈s,coOk c=true
  nm:∀c∈s,c.2.1.data.toList∈qGa i
  ap:qFi s
  up:qKy s
  le:∀c∈s,1≤c.1∧c.1≤id
  hd:∃c r,s=c::r∧c.1=1∧c.2.2.1.2=false
  ln:s.length≤7+i
  ib:id≤7+2*i
theorem qNn {n:Int} (h:0≤n∧n<8):n=0∨n=1∨n=2∨n=3∨n=4∨n=5∨n=6∨n=7:=by omega
theorem qRg {id n:Int} {nm:ByteArray} (h:0≤n∧n<8) (hn:isNm nm.data.toList=true):coOk (qE3 id nm n)=true:=by
 unfold coOk qE3;simp only[Bool.and_eq_true,decide_eq_true_eq];refine⟨hn,?_⟩
 rcases qNn h with rfl|rfl|rfl|rfl|rfl|rfl|rfl|rfl <;> decide +kernel
theorem qYz {i:Nat} (h:i<6):isNm (qEe i).data.toList=true∧(qEe i).data.toList∈qGa 0:=by
 have:i=0∨i=1∨i=2∨i=3∨i=4∨i=5:=by omega
 rcases this with rfl|rfl|rfl|rfl|rfl|rfl <;> exact⟨by decide +kernel,by decide +kernel⟩
theorem qTk {i:Nat} (h:i<7):isNm (qGj i).data.toList=true∧(qGj i).data.toList∉qGa i∧(qGj i).data.toList∈qGa (i+1):=by
 have:i=0∨i=1∨i=2∨i=3∨i=4∨i=5∨i=6:=by omega
 rcases this with rfl|rfl|rfl|rfl|rfl|rfl|rfl <;> exact⟨by decide +kernel,by decide +kernel,by decide +kernel⟩
theorem qMf {i:Nat} {x:Bs} (h:x∈qGa i):x∈qGa (i+1):=by
 unfold qGa at *
 rcases List.mem_append.1 h with h|h
 · exact List.mem_append.2 (.inl h)
 · refine List.mem_append.2 (.inr ?_);obtain⟨k,hk⟩:=List.getElem?_of_mem h;rw[List.getElem?_take] at hk
   split at hk
   · refine List.mem_of_getElem? (i:=k) ?_
     rw[List.getElem?_take,if_pos (by omega)];exact hk
   · cases hk
theorem qCn (wide:Int) (k:Nat) (c:Co):qBj c (qBu wide k c)=true∧(qBu wide k c).1=c.1∧(qBu wide k c).2.1=c.2.1∧(qBu wide k c).2.2.1.2=c.2.2.1.2:=by
 unfold qBu
 split
 · rename_i h
   refine⟨?_,rfl,rfl,rfl⟩;unfold qBj
   simp[h.2]
 · exact⟨qO1 c,rfl,rfl,rfl⟩
theorem qKm (gone wide:Int):∀(s:List Co) (k j:Nat) (d:Co),(qBw gone wide k s)[j]?=some d→∃i c,j≤i∧s[i]?=some c∧d=qBu wide (k+i) c
  |[],k,j,d,h=>by simp[qBw] at h
  | c::r,k,j,d,h=>by
   rw[qBw] at h
   split at h
   · obtain⟨i,x,h1,h2,h3⟩:=qKm gone wide r (k+1) j d h;exact⟨i+1,x,by omega,by simpa using h2,by rw[h3];congr 1;omega⟩
   · cases j with
    |zero=>
     obtain rfl:qBu wide k c=d:=by simpa using h
     exact⟨0,c,by omega,rfl,rfl⟩
    |succ j=>
     obtain⟨i,x,h1,h2,h3⟩:=qKm gone wide r (k+1) j d (by simpa using h);exact⟨i+1,x,by omega,by simpa using h2,by rw[h3];congr 1;omega⟩
theorem qJt (gone wide:Int):∀(s:List Co) (k:Nat),(qBw gone wide k s).length≤s.length
  |[],k=>by simp[qBw]
  |c::r,k=>by
   have:=qJt gone wide r (k+1);rw[qBw]
   split
   · simp;omega
   · simp;omega
theorem qMv (gone wide:Int):∀(s:List Co) (k j j':Nat) (d d':Co),j<j'→(qBw gone wide k s)[j]?=some d→(qBw gone wide k s)[j']?=some d'→∃i i' c c',i<i'∧s[i]?=some c∧s[i']?=some c'∧d=qBu wide (k+i) c∧d'=qBu wide (k+i') c'
  |[],k,j,j',d,d',hj,h,h'=>by simp[qBw] at h
  | c ::r,k,j,j',d,d',hj,h,h'=>by
   rw[qBw] at h h'
   split at h
   · rename_i hg
     rw[if_pos hg] at h';obtain⟨i,i',x,x',h1,h2,h3,h4,h5⟩:=qMv gone wide r (k+1) j j' d d' hj h h';exact⟨i+1,i'+1,x,x',by omega,by simpa using h2,by simpa using h3,by rw[h4];congr 1;omega,by rw[h5];congr 1;omega⟩
   · rename_i hg
     rw[if_neg hg] at h'
     cases j' with
     |zero=>omega
     | succ j'=>
      have h'':(qBw gone wide (k+1) r)[j']?=some d':=by simpa using h'
      cases j with
      |zero=>
       obtain rfl:qBu wide k c=d:=by simpa using h
       obtain⟨i',x',h1,h2,h3⟩:=qKm gone wide r (k+1) j' d' h'';exact⟨0,i'+1,c,x',by omega,rfl,by simpa using h2,rfl,by rw[h3];congr 1;omega⟩
      |succ j=>
       obtain⟨i,i',x,x',h1,h2,h3,h4,h5⟩:=qMv gone wide r (k+1) j j' d d' (by omega) (by simpa using h) h'';exact⟨i+1,i'+1,x,x',by omega,by simpa using h2,by simpa using h3,by rw[h4];congr 1;omega,by rw[h5];congr 1;omega⟩
theorem qYb {u nu:Bool} {n:Int} {s:Bs} (h:qAt 2 u nu n s=0):qAt 3 u nu n s=0:=qKu h
theorem qZ2 {wide:Int} {k:Nat} {c:Co} (h:coOk c=true):coOk (qBu wide k c)=true:=by
 unfold qBu
 split
 · rename_i e
   unfold coOk at *; simp only[Bool.and_eq_true,decide_eq_true_eq] at *; refine⟨h.1,?_⟩;have h2:=h.2;unfold qCc at *; rw[e.2] at h2;exact qYb h2
 · exact h
theorem qIs {i:Nat} {s:List Co} {id:Int} (h:EvOk i s id) (hi:i<7) (v:Int×Int×Int):EvOk (i+1) (qCh i v s id).1 (qCh i v s id).2∧id≤(qCh i v s id).2∧
    ∀ab,ab≤id→(∀c∈s,c.1≤ab)→qAl (s,[0]) ((qCh i v s id).1,[0]) ab=true:=by
 have hg:0≤v.1%65536%2∧v.1%65536%2≤1:=by omega
 generalize hK:qBw (v.1%65536) (v.2.1%65536) 0 s=K
 have kat:∀(j:Nat) d,K[j]?=some d→∃(n:Nat) (c:Co),s[n]?=some c∧d=qBu (v.2.1%65536) n c:=fun j d hd=>by
  rw[←hK] at hd;obtain⟨n,c,_,h2,h3⟩:=qKm _ _ s 0 j d hd;exact⟨n,c,h2,by rw[h3,Nat.zero_add]⟩
 have kmem:∀d∈K,∃(n:Nat) (c:Co),s[n]?=some c∧d=qBu (v.2.1%65536) n c:=fun d hd=>by
  obtain⟨j,hj⟩:=List.getElem?_of_mem hd;exact kat j d hj
 have ktwo:∀(j j':Nat) d d',j<j'→K[j]?=some d→K[j']?=some d'→∃(n n':Nat) (c c':Co),n<n'∧s[n]?=some c∧s[n']?=some c'∧d=qBu (v.2.1%65536) n c∧d'=qBu (v.2.1%65536) n' c':=fun j j' d d' hj h1 h2=>by
  rw[←hK] at h1 h2;obtain⟨n,n',c,c',a1,a2,a3,a4,a5⟩:=qMv _ _ s 0 j j' d d' hj h1 h2;exact⟨n,n',c,c',a1,a2,a3,by rw[a4,Nat.zero_add],by rw[a5,Nat.zero_add]⟩
 have klen:K.length≤s.length:=by rw[←hK];exact qJt _ _ s 0
 obtain⟨c0,r0,hs0,hc1,hc2⟩:=h.hd
 have khd:∃c r,K=c::r∧c.1=1∧c.2.2.1.2=false:=by
  refine⟨qBu (v.2.1%65536) 0 c0,qBw (v.1%65536) (v.2.1%65536) 1 r0,?_,?_,?_⟩
  · rw[←hK,hs0,qBw,if_neg (by omega)]
  · rw[(qCn _ _ _).2.1];exact hc1
  · rw[(qCn _ _ _).2.2.2];exact hc2
 have kok:EvOk (i+1) K id:=by
  refine⟨fun d hd=>?_,fun d hd=>?_,fun a b x y hab hx hy=>?_,fun b a x y hab hx hy=>?_,fun d hd=>?_,khd,by have:=h.ln;omega,by have:=h.ib;omega⟩
  · obtain⟨n,c,h1,rfl⟩:=kmem d hd;exact qZ2 (h.co c (List.mem_of_getElem? h1))
  · obtain⟨n,c,h1,rfl⟩:=kmem d hd;rw[(qCn _ _ _).2.2.1];exact qMf (h.nm c (List.mem_of_getElem? h1))
  · obtain⟨n,n',c,c',a1,a2,a3,rfl,rfl⟩:=ktwo a b x y hab hx hy;rw[(qCn _ _ _).2.2.1,(qCn _ _ _).2.2.1];exact h.ap n n' c c' a1 a2 a3
  · obtain⟨n,n',c,c',a1,a2,a3,rfl,rfl⟩:=ktwo a b x y hab hx hy;rw[(qCn _ _ _).2.1,(qCn _ _ _).2.1];exact h.up n' n c c' a1 a2 a3
  · obtain⟨n,c,h1,rfl⟩:=kmem d hd;rw[(qCn _ _ _).2.1];exact h.le c (List.mem_of_getElem? h1)
 have kfol:∀ab,qAl (s,[0]) (K,[0]) ab=true:=fun ab=>by
  unfold qAl;simp only[Bool.and_eq_true,decide_eq_true_eq,List.all_eq_true];refine⟨fun d hd=>?_,?_⟩
  · obtain⟨n,c,h1,rfl⟩:=kmem d hd;unfold qDs;rw[(qCn _ _ _).2.1,qIj h.up h1];simp only[List.getD_eq_getElem?_getD,h1,Option.getD_some];exact(qCn _ _ _).1
  · obtain⟨c,r,e,e1,_⟩:=khd;unfold qA4
    simp[hs0,e,hc1,e1]
 unfold qCh;rw[hK]
 split
 · exact⟨kok,Int.le_refl _,fun ab _ _=>kfol ab⟩
 · generalize hD:qE3 (id+1+v.1%65536%2) (qGj i) (v.2.2.tdiv 2%8)=D
   have d1:D.1=id+1+v.1%65536%2:=by rw[←hD];rfl
   have d2:D.2.1=qGj i:=by rw[←hD];rfl
   have d3:coOk D=true:=by rw[←hD];exact qRg (by omega) (qTk hi).1
   have snoc:∀(j:Nat) d,(K++[D])[j]?=some d→(K[j]?=some d∧j<K.length)∨(j=K.length∧d=D):=fun j d hd=>by
    by_cases hj:j<K.length
    · rw[List.getElem?_append_left hj] at hd;exact .inl ⟨hd,hj⟩
    · have hl:=(List.getElem?_eq_some_iff.1 hd).1;rw[List.length_append,List.length_singleton] at hl
      have e:j=K.length:=by omega
      subst e
      simp at hd
      exact .inr ⟨rfl,hd.symm⟩
   refine⟨⟨fun d hd=>?_,fun d hd=>?_,fun a b x y hab hx hy=>?_,fun b a x y hab hx hy=>?_,fun d hd=>?_,?_,?_,by have:=h.ib;show id+1+_≤_;omega⟩,by show id≤id+1+_;omega,fun ab hab hle=>?_⟩
   · rcases List.mem_append.1 hd with h1|h1
     · exact kok.co d h1
     · obtain rfl:d=D:=by simpa using h1
       exact d3
   · rcases List.mem_append.1 hd with h1|h1
     · exact kok.nm d h1
     · obtain rfl:d=D:=by simpa using h1
       rw[d2];exact(qTk hi).2.2
   · rcases snoc a x hx with⟨h1,h1'⟩|⟨h1,rfl⟩
     · rcases snoc b y hy with⟨h2,_⟩|⟨h2,rfl⟩
       · exact kok.ap a b x y hab h1 h2
       · intro e
         obtain⟨n,c,h3,rfl⟩:=kat a x h1;have h4:=h.nm c (List.mem_of_getElem? h3);rw[(qCn _ _ _).2.2.1,d2] at e;rw[e] at h4;exact(qTk hi).2.1 h4
     · rcases snoc b y hy with⟨h2,h2'⟩|⟨h2,rfl⟩ <;> omega
   · rcases snoc a x hx with⟨h1,h1'⟩|⟨h1,rfl⟩
     · rcases snoc b y hy with⟨h2,_⟩|⟨h2,rfl⟩
       · exact kok.up b a x y hab h1 h2
       · have:=(kok.le x (List.mem_of_getElem? h1)).2;omega
     · rcases snoc b y hy with⟨h2,h2'⟩|⟨h2,rfl⟩ <;> omega
   · rcases List.mem_append.1 hd with h1|h1
     · have:=kok.le d h1;exact⟨this.1,by show d.1≤id+1+_;omega⟩
     · obtain rfl:d=D:=by simpa using h1
       obtain⟨c,r,e,e1,_⟩:=khd;have:=kok.le c (by rw[e];simp);exact⟨by omega,by show d.1≤_;rw[d1];exact Int.le_refl _⟩
   · obtain⟨c,r,e,e1,e2⟩:=khd;exact⟨c,r++[D],by rw[e];rfl,e1,e2⟩
   · have:=h.ln
     rw[List.length_append,List.length_singleton];omega
   · have hk:=kfol ab;unfold qAl at hk ⊢;simp only[Bool.and_eq_true,decide_eq_true_eq,List.all_eq_true] at hk ⊢;refine⟨fun d hd=>?_,?_⟩
     · rcases List.mem_append.1 hd with h1|h1
       · exact hk.1 d h1
       · obtain rfl:d=D:=by simpa using h1
         unfold qDs
         cases he:evAt s d.1 with
         |none=>simp only[decide_eq_true_eq];omega
         |some k=>
          obtain⟨c,h2,h3⟩:=qGi he;have:=(h.le c (List.mem_of_getElem? h2)).2;omega
     · obtain⟨c,r,e,e1,_⟩:=khd;unfold qA4
       simp[hs0,e,hc1,e1]
theorem EvOk.sc {i:Nat} {s:List Co} {id:Int} (h:EvOk i s id) (hi:i≤7):ScOk s [0]:=by
 obtain⟨c0,r0,hs0,hc1,hc2⟩:=h.hd;have hl:=h.ln;have hib:=h.ib;refine⟨fun j c hc=>?_,by rw[hs0];simp,by omega,h.ap,fun j c hc=>?_,fun j a b ha hb=>h.up (j+1) j a b (by omega) ha hb,by simp,fun j x hx=>?_,fun j a b ha hb=>?_,fun j x c hx hc=>?_⟩
 · have:=h.co c (List.mem_of_getElem? hc);unfold coOk at this
   simpa using this
 · have:=h.le c (List.mem_of_getElem? hc);omega
 · obtain⟨hj,rfl⟩:j=0∧(0:Int)=x:=by
     cases j with
     |zero=>simpa using hx
     |succ j=>simp at hx
   rw[hs0];simp
 · simp at hb
 · obtain⟨hj,rfl⟩:j=0∧(0:Int)=x:=by
     cases j with
     |zero=>simpa using hx
     |succ j=>simp at hx
   rw[hs0] at hc
   obtain rfl:c0=c:=by simpa using hc
   exact hc2
theorem qIu:∀(l:List Int) (i j:Nat) (c:Co),(qBq i l)[j]?=some c→∃n,c=qE3 (((i+j:Nat):Int)+2) (qEe (i+j)) (n%8)∧j<l.length
  |[],i,j,c,h=>by simp[qBq] at h
  |n::r,i,0,c,h=>by
   rw[qBq] at h
   obtain rfl:qE3 ((i:Int)+2) (qEe i) (n%8)=c:=by simpa using h
   exact⟨n,rfl,by simp⟩
  |n::r,i,j+1,c,h=>by
   rw[qBq] at h;obtain⟨m,h1,h2⟩:=qIu r (i+1) j c (by simpa using h);exact⟨m,by rw[h1,show i+1+j=i+(j+1) by omega],by simp;omega⟩
end Go.Ms
set_option linter.unusedSimpArgs false
namespace Go.Ms
theorem qEu:∀(l:List Int) (i:Nat),(qBq i l).length=l.length
  |[],i=>rfl
  |n::r,i=>by rw[qBq,List.length_cons,qEu r,List.length_cons]
theorem qUr {i j:Nat} (hi:i<6) (hj:j<6) (h:(qEe i).data.toList=(qEe j).data.toList):i=j:=by
 have a:i=0∨i=1∨i=2∨i=3∨i=4∨i=5:=by omega
 have b:j=0∨j=1∨j=2∨j=3∨j=4∨j=5:=by omega
 rcases a with rfl|rfl|rfl|rfl|rfl|rfl <;> rcases b with rfl|rfl|rfl|rfl|rfl|rfl <;> first|rfl|exact absurd h (by decide +kernel)
theorem qVw {i:Nat} (hi:i<6):(qEe i).data.toList≠[107]:=by
 have a:i=0∨i=1∨i=2∨i=3∨i=4∨i=5:=by omega
 rcases a with rfl|rfl|rfl|rfl|rfl|rfl <;> decide +kernel
theorem qGq {l:List Int} (hl:l.length≤6):EvOk 0 (qEo::qBq 0 l) (1+(l.length:Int)):=by
 have at0:∀(j:Nat) c,(qEo::qBq 0 l)[j]?=some c→(j=0∧c=qEo)∨∃k n,j=k+1∧k<l.length∧c=qE3 ((k:Int)+2) (qEe k) (n%8):=fun j c h=>by
  cases j with
  |zero=>exact .inl ⟨rfl,by simpa using h.symm⟩
  |succ k=>
   obtain⟨n,h1,h2⟩:=qIu l 0 k c (by simpa using h);rw[Nat.zero_add] at h1;exact .inr ⟨k,n,rfl,h2,h1⟩
 have mem0:∀c∈(qEo::qBq 0 l),c=qEo∨∃(k:Nat) (n:Int),k<l.length∧c=qE3 ((k:Int)+2) (qEe k) (n%8):=fun c hc=>by
  obtain⟨j,hj⟩:=List.getElem?_of_mem hc
  rcases at0 j c hj with⟨_,e⟩|⟨k,n,_,h1,h2⟩
  · exact .inl e
  · exact .inr ⟨k,n,h1,h2⟩
 refine⟨fun c hc=>?_,fun c hc=>?_,fun a b x y hab hx hy=>?_,fun b a x y hab hx hy=>?_,fun c hc=>?_,⟨qEo,qBq 0 l,rfl,rfl,rfl⟩,?_,by omega⟩
 · rcases mem0 c hc with rfl|⟨k,n,h1,rfl⟩
   · decide +kernel
   · exact qRg (by omega) (qYz (by omega)).1
 · rcases mem0 c hc with rfl|⟨k,n,h1,rfl⟩
   · decide +kernel
   · exact(qYz (by omega)).2
 · rcases at0 a x hx with⟨a1,rfl⟩|⟨k,n,a1,a2,rfl⟩
   · rcases at0 b y hy with⟨b1,rfl⟩|⟨m,o,b1,b2,rfl⟩
     · omega
     · intro e
       exact qVw (i:=m) (by omega) (congrArg (fun x:ByteArray=>x.data.toList) (e.symm:qEe m=⟨#[107]⟩))
   · rcases at0 b y hy with⟨b1,rfl⟩|⟨m,o,b1,b2,rfl⟩
     · omega
     · intro e
       have:=qUr (i:=k) (j:=m) (by omega) (by omega) (congrArg (fun x:ByteArray=>x.data.toList) (e:qEe k=qEe m));omega
 · rcases at0 a x hx with⟨a1,rfl⟩|⟨k,n,a1,a2,rfl⟩
   · rcases at0 b y hy with⟨b1,rfl⟩|⟨m,o,b1,b2,rfl⟩
     · omega
     · show(1:Int)<(m:Int)+2
       omega
   · rcases at0 b y hy with⟨b1,rfl⟩|⟨m,o,b1,b2,rfl⟩
     · omega
     · show(k:Int)+2<(m:Int)+2
       omega
 · rcases mem0 c hc with rfl|⟨k,n,h1,rfl⟩
   · exact⟨Int.le_refl _,by show(1:Int)≤_;omega⟩
   · exact⟨by show 1≤(k:Int)+2;omega,by show(k:Int)+2≤_;omega⟩
 · rw[List.length_cons,qEu];omega
theorem qIi:∀(V:List (Int×Int×Int)) (i:Nat) (s:List Co) (id:Int),(qC3 i V s id).length=V.length
  |[],i,s,id=>rfl
  |v::r,i,s,id=>by rw[qC3,List.length_cons,qIi r,List.length_cons]
theorem qNq:∀(V:List (Int×Int×Int)) (i:Nat) (s:List Co) (id:Int),EvOk i s id→i+V.length≤7→
    (∀t∈qC3 i V s id,scOk t.1 t.2=true)∧∀ab,0≤ab→ab≤id→(∀c∈s,c.1≤ab)→qEp (s,[0]) ab (qC3 i V s id)=true
  |[],i,s,id,h,hi=>⟨fun t ht=>by simp[qC3] at ht,fun ab _ _ _=>by rw[qC3,qEp]⟩
  |v::r,i,s,id,h,hi=>by
   rw[List.length_cons] at hi;obtain⟨h1,h2,h3⟩:=qIs h (by omega) v;obtain⟨h4,h5⟩:=qNq r (i+1) _ _ h1 (by omega);refine⟨fun t ht=>?_,fun ab h0 hab hle=>?_⟩
   · rw[qC3] at ht
     rcases List.mem_cons.1 ht with rfl|ht
     · exact(qB6 _ _).2 (h1.sc (by omega))
     · exact h4 t ht
   · rw[qC3,qEp,Bool.and_eq_true];refine⟨h3 ab hab hle,h5 _ (Int.le_trans h0 (Int.le_max_left ..)) ?_ fun c hc=>?_⟩
     · exact Int.max_le.2 ⟨by omega,qUo (fun c hc=>(h1.le c hc).2) (by omega)⟩
     · exact Int.le_trans (qUe h1.up c hc) (Int.le_max_right ..)
theorem qMh (C:List Int) (V:List (Int×Int×Int)):(qEj C V).length=1+(V.take 7).length:=by unfold qEj;rw[List.length_cons,qIi];omega
theorem qJe (C:List Int) (V:List (Int×Int×Int)):qA6 (qEj C V)=0:=by
 have hC:(C.take 6).length≤6:=by rw[List.length_take];omega
 have hV:(V.take 7).length≤7:=by rw[List.length_take];omega
 have h0:=qGq hC;obtain⟨h1,h2⟩:=qNq (V.take 7) 0 _ _ h0 (by omega);have hlen:=qMh C V;unfold qA6;rw[if_neg (by omega),if_pos]
 · unfold qEj
   simp only
   have hl:=qUo (q:=1+((C.take 6).length:Int)) (fun c hc=>(h0.le c hc).2) (by omega);rw[if_pos]
   exact h2 _ (by omega) (by omega) fun c hc=>by have:=qUe h0.up c hc;omega
 · rw[List.all_eq_true]
   intro t ht
   unfold qEj at ht
   rcases List.mem_cons.1 ht with rfl|ht
   · exact(qB6 _ _).2 (h0.sc (by omega))
   · exact h1 t ht
end Go.Ms
set_option linter.unusedSimpArgs false
namespace Go.Ms
def qBy (t:Ty) (n:Int):Cl:=
  if t.2=true∧n.tmod 3=0 then (true,0,⟨#[]⟩)
  else if t.1=1 then (false,n%2,⟨#[]⟩)
  else if t.1=2 then (false,n%4294967296-2147483648,⟨#[]⟩)
  else if t.1=3 then (false,n,⟨#[]⟩)
  else (false,0,⟨#[97,98,99,100,101,102,103,104].extract 0 (n%9).toNat⟩)
def qF5 (n:List Int) (i:Nat):Int:=if n=[] then (i:Int) else n.getD (i%n.length) 0
def qCi (n:List Int):Nat→List Co→List Cl
  |_,[]=>[]
  |i,c::r=>qBy c.2.2.1 (qF5 n i)::qCi n (i+1) r
def qLg (cs:List Co) (n:List Int):List Cl:=qCi n 0 cs
theorem qQd {n:Int} (h:0≤n∧n<9):n=0∨n=1∨n=2∨n=3∨n=4∨n=5∨n=6∨n=7∨n=8:=by omega
theorem qUv {t:Ty} (ht:kMay t.1=true) {n:Int} (hn: -9223372036854775808≤n∧n≤9223372036854775807):qCc t (qBy t n)=0:=by
 obtain⟨k,u⟩:=t
 have hk:1≤k∧k≤5:=by unfold kMay at ht;simpa using ht
 unfold qCc qAt;rw[if_pos ht];rw[if_pos];unfold qBy
 by_cases h0:u=true∧n.tmod 3=0
 · rw[if_pos h0];unfold kOk
   simp[h0.1]
 · rw[if_neg h0]
   simp only
   by_cases h1:k=1
   · subst h1
     have:0≤n%2∧n%2≤1:=by omega
     simp[kOk,kIs,this]
   · rw[if_neg h1]
     by_cases h2:k=2
     · subst h2
       have:0≤n%4294967296∧n%4294967296<4294967296:=by omega
       simp[kOk,kIs]
       omega
     · rw[if_neg h2]
       by_cases h3:k=3
       · subst h3
         simp[kOk,kIs]
         omega
       · rw[if_neg h3]
         have hk':k=4∨k=5:=by omega
         rcases qQd (n:=n%9) (by omega) with e|e|e|e|e|e|e|e|e <;> rw[e] <;> rcases hk' with rfl|rfl <;> cases u <;> decide +kernel
theorem qFo (n:List Int):∀(cs:List Co) (i:Nat),(qCi n i cs).length=cs.length
  |[],i=>rfl
  |c::r,i=>by rw[qCi,List.length_cons,List.length_cons,qFo n r]
theorem qL7 {n:List Int} (hn:∀x∈n, -9223372036854775808≤x∧x≤9223372036854775807):∀(cs:List Co) (i:Nat),(∀c∈cs,kMay c.2.2.1.1=true)→i+cs.length≤9223372036854775807→qCk (qC0 cs) (qCi n i cs)=0
  |[],i,_,_=>by unfold qC0 qCi qCk;rfl
  | c ::r,i,h,hi=>by
   rw[List.length_cons] at hi
   have hth: -9223372036854775808≤qF5 n i∧qF5 n i≤9223372036854775807:=by
    unfold qF5
    split
    · omega
    · rename_i hne
      have hl:0<n.length:=by cases n with
       |nil=>exact absurd rfl hne
       |cons a b=>simp
      have hm:=Nat.mod_lt i hl;rw[List.getD_eq_getElem?_getD,List.getElem?_eq_getElem hm];exact hn _ (List.getElem_mem hm)
   show qCk (c.2.2.1::qC0 r) (qBy c.2.2.1 (qF5 n i)::qCi n (i+1) r)=0
   unfold qCk;rw[if_pos (qUv (h c (by simp)) hth)];exact qL7 hn r (i+1) (fun d hd=>h d (by simp[hd])) (by omega)
theorem qYx {c:Co} (h:coOk c=true):kMay c.2.2.1.1=true:=by
 unfold coOk at h;simp only[Bool.and_eq_true,decide_eq_true_eq] at h;exact(qGy h.2).1
theorem qYg {cs:List Co} (hc:∀c∈cs,coOk c=true) (hl:cs.length≤64) {n:List Int} (hn:∀x∈n, -9223372036854775808≤x∧x≤9223372036854775807):qBx (qC0 cs) (qLg cs n)=0:=by
 unfold qBx;rw[if_pos (by rw[qC9];exact(qFo n cs 0).symm)];exact qL7 hn cs 0 (fun c h=>qYx (hc c h)) (by omega)
theorem qK1 {cs:List Co} {ks:List Int} (h:scOk cs ks=true):(∀c∈cs,coOk c=true)∧cs.length≤32∧(∀c∈cs,qCc c.2.2.1 c.2.2.2=0):=by
 have h1:=(qB6 _ _).1 h
 have hc:∀c∈cs,coOk c=true:=fun c hc=>by
  obtain⟨j,hj⟩:=List.getElem?_of_mem hc;have:=h1.co j c hj;unfold coOk
  simpa using this
 refine⟨hc,h1.most,fun c hm=>?_⟩;have:=hc c hm;unfold coOk at this;simp only[Bool.and_eq_true,decide_eq_true_eq] at this;exact this.2
end Go.Ms
set_option linter.unusedSimpArgs false
namespace Go.Ms
theorem qFq {L:List Sc} (h:qA6 L=0):∀t∈L,scOk t.1 t.2=true:=by
 cases L with
 |nil=>intro t ht;simp at ht
 |cons s l=>exact(qPw h).2.1
theorem qLz {a b:Sc} (h:qBh a b=0):scOk a.1 a.2=true∧scOk b.1 b.2=true∧qAl a b (qA7 a.1)=true:=by
 unfold qBh at h
 split at h
 · rename_i h1
   split at h
   · rename_i h2;exact⟨h1.1,h1.2,h2⟩
   · omega
 · omega
theorem qT9 {L:List Sc} {p q:Nat} (h1:1≤p) (h2:p≤q) (h3:q≤L.length):(L.getD (p-1) zSc::(L.drop p).take (q-p)).getLast (by simp)=L.getD (q-1) zSc:=by
 rw[List.getLast_eq_getElem]
 have hlen:(L.getD (p-1) zSc::(L.drop p).take (q-p)).length=q-p+1:=by simp;omega
 have key:(L.getD (p-1) zSc::(L.drop p).take (q-p))[q-p]?=some (L.getD (q-1) zSc):=by
  by_cases e:q=p
  · subst e
    simp
  · rw[show q-p=(q-p-1)+1 by omega,List.getElem?_cons_succ,List.getElem?_take,if_pos (by omega),List.getElem?_drop,show p+(q-p-1)=q-1 by omega,List.getD_eq_getElem?_getD,List.getElem?_eq_getElem (by omega)];rfl
 obtain⟨h5,h6⟩:=List.getElem?_eq_some_iff.1 key;rw[←h6]
 congr 1
 omega
end Go.Ms
