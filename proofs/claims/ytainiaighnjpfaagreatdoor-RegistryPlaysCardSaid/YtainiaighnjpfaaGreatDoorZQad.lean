/- Registries: what lies of one. Evolve: a row carried along a chain: the package's answer. Schemas: the examples, read (closed). Schemas: a copy. Schemas: the examples, walked. Schemas that follow each other, plainly (closed): the texts of the examples, read; what the examples answer. Rows: places held against a number; the cells at places. -/
import Derived.Test.YtainiaighnjpfaaGreatDoorZQac
set_option maxHeartbeats 4000000
set_option maxRecDepth 100000
set_option linter.unusedVariables false
set_option linter.unusedSimpArgs false
namespace Go.Ms
open Go.RowKit Go.Lib Go.Maps
theorem qHe {H:Type} {w:World} {P:Program} {k:TypeId} {R:Value→Option (DataW H×List MemPlace)} {b n:Nat} {D:DataW H} (h:w.ownsMap P k R b n D):w.ownsMap P k R b (Maps.size D) D:=by
 obtain⟨es,clock,hb,F,hs,rfl⟩:=h;exact⟨es,clock,hb,F,by simp[Maps.size,length_sorted],rfl⟩
theorem Lay.but {W W':World} {B:Nat} {A:Option Addr} {xs:List Value} {g:Nat} {q:Option Addr} {T:TypeId} (h:Lay W B A xs) (hg:W.grownBy W' (some g)) (hq:W.heap[g]?=some (.cells #[.pointer q] T (0,0))) (hx:∀x∈xs,∀p,x≠.pointer p):Lay W' B A xs:=by
 intro j u hu;obtain⟨b,o,e,hlt,hc⟩:=h j u hu;refine⟨b,o,e,hlt,?_⟩
 have hne:b≠g:=by
  rintro rfl;simp[World.cell?,hq] at hc;have hm:=List.mem_of_getElem? hu;rcases hoj:o+j with _|k
  · rw[hoj] at hc;simp at hc;exact hx u hm _ hc.symm
  · rw[hoj] at hc;simp at hc
 have hb:b<W.heap.size:=by
  unfold World.cell? at hc;simp only at hc
  cases hv:W.heap[b]? with
  |none=>rw[hv] at hc;cases hc
  |some o'=>exact(Array.getElem?_eq_some_iff.1 hv).1
 have hk:W'.heap[b]?=W.heap[b]?:=hg.block b hb (fun e=>hne (by cases e;rfl));unfold World.cell? at hc ⊢;simp only at hc ⊢;rw[hk];exact hc
theorem qQm (l:List Co):∀x∈colV l,∀p,x≠.pointer p:=by
 intro x hx p e;obtain⟨d,_,hd⟩:=List.mem_flatMap.1 hx;subst e;simp[coV] at hd
theorem qRh (l:List Int):∀x∈intV l,∀p,x≠.pointer p:=by
 intro x hx p e;obtain⟨d,_,hd⟩:=List.mem_map.1 hx;subst e;cases hd
theorem qRb (l:List SRef):∀x∈scsV l,∀p,x≠.pointer p:=by
 intro x hx p e;obtain⟨d,_,hd⟩:=List.mem_flatMap.1 hx;subst e;simp[SRef.vs] at hd
theorem qBv.but {W W':World} {r:SRef} {s:Sc} {g:Nat} {q:Option Addr} {T:TypeId} (h:qBv W W.heap.size r s) (hg:W.grownBy W' (some g)) (hq:W.heap[g]?=some (.cells #[.pointer q] T (0,0))):qBv W' W'.heap.size r s:=
  ⟨h.n,h.m,h.nn,h.mm,(h.la.but hg hq (qQm _)).more hg.size,(h.lb.but hg hq (qRh _)).more hg.size⟩
theorem qA0.but {W W':World} {A:Option Addr} {rs:List SRef} {ss:List Sc} {g:Nat} {q:Option Addr} {T:TypeId} (h:qA0 W W.heap.size A rs ss) (hg:W.grownBy W' (some g)) (hq:W.heap[g]?=some (.cells #[.pointer q] T (0,0))):qA0 W' W'.heap.size A rs ss:=
  ⟨h.len,(h.lay.but hg hq (qRb _)).more hg.size,fun i r s h1 h2=>(h.each i r s h1 h2).but hg hq⟩
def AtK (Kp:Nat→Prop) (A:Option Addr) (n:Nat):Prop:=0<n→∀p,A=some p→Kp p.block
def RefK (Kp:Nat→Prop) (r:SRef):Prop:=AtK Kp r.a r.n∧AtK Kp r.b r.m
def qDt (Kp:Nat→Prop) (A:Option Addr) (rs:List SRef):Prop:=AtK Kp A rs.length∧∀r∈rs,RefK Kp r
theorem AtK.lay {w:World} {B:Nat} {A:Option Addr} {xs:List Value} {n:Nat} (h:Lay w B A xs) (hn:0<n→0<xs.length):AtK (fun b=>b<B) A n:=by
 intro h0 p hp;obtain⟨g,o,e,hlt,_⟩:=h 0 _ (List.getElem?_eq_getElem (hn h0));rw[e] at hp;cases hp;exact hlt
theorem AtK.weak {Kp Kq:Nat→Prop} {A:Option Addr} {n:Nat} (h:AtK Kp A n) (hk:∀b,Kp b→Kq b):AtK Kq A n:=fun h0 p e=>hk _ (h h0 p e)
theorem RefK.weak {Kp Kq:Nat→Prop} {r:SRef} (h:RefK Kp r) (hk:∀b,Kp b→Kq b):RefK Kq r:=⟨h.1.weak hk,h.2.weak hk⟩
theorem qDt.weak {Kp Kq:Nat→Prop} {A:Option Addr} {rs:List SRef} (h:qDt Kp A rs) (hk:∀b,Kp b→Kq b):qDt Kq A rs:=⟨h.1.weak hk,fun r hr=>(h.2 r hr).weak hk⟩
theorem qBv.refK {W:World} {B:Nat} {r:SRef} {s:Sc} (h:qBv W B r s):RefK (fun b=>b<B) r:=
  ⟨AtK.lay h.la (fun h0=>by rw[h.n] at h0;rw[qD7];omega),AtK.lay h.lb (fun h0=>by rw[h.m] at h0;unfold intV;rw[List.length_map];omega)⟩
theorem qA0.refsK {W:World} {B:Nat} {A:Option Addr} {rs:List SRef} {ss:List Sc} (h:qA0 W B A rs ss):qDt (fun b=>b<B) A rs:=
  ⟨AtK.lay h.lay (fun h0=>by rw[qFo];omega),fun r hr=>by
   obtain⟨i,hi⟩:=List.getElem?_of_mem hr;have hl:=(List.getElem?_eq_some_iff.1 hi).1
   exact(h.each i r _ hi (List.getElem?_eq_getElem (by rw[←h.len];exact hl))).refK⟩
theorem AtK.own {Kp:Nat→Prop} {w:World} {B size n:Nat} {e:TypeId} {A:Option Addr} {m c:Nat} {xs:List Value} (h:w.ownsRow B e size (.slice A m c) n xs) (hK:∀b,B≤b→Kp b) (q:Nat):AtK Kp A q:=by
 intro _ p hp;rcases h.2 with⟨e1,_⟩|⟨g,cap,cur,e1,h1,_⟩
 · cases e1;cases hp
 · cases e1;cases hp;exact hK _ h1
theorem qDt.snoc {Kp:Nat→Prop} {A B:Option Addr} {rs:List SRef} {r:SRef} (h:qDt Kp A rs) (hB:AtK Kp B (rs++[r]).length) (hr:RefK Kp r):qDt Kp B (rs++[r]):=
  ⟨hB,fun q hq=>(List.mem_append.1 hq).elim (h.2 q) (fun e=>by rw[List.mem_singleton.1 e];exact hr)⟩
structure RgIn (Kp:Nat→Prop) (W:World) (D:DataW Value) (G:Rg):Prop where
  size:Maps.size D=G.length
  has:∀x:Bs,Maps.has D (.string x)=(qAp G x).isSome
  no:∀x:Bs,qAp G x=none→D.atKey (.string x) (.held (.slice none 0 0))=.held (.slice none 0 0)
  at_:∀(x:Bs) (l:List Sc),qAp G x=some l→∃A c rs,D.atKey (.string x) (.held (.slice none 0 0))=.held (.slice A l.length c)∧qA0 W W.heap.size A rs l∧qDt Kp A rs
theorem RgIn.nil (Kp:Nat→Prop) (W:World):RgIn Kp W (.map []) []:=⟨rfl,fun x=>rfl,fun x _=>rfl,fun x l h=>by cases h⟩
theorem RgIn.to {Kp:Nat→Prop} {W W':World} {D:DataW Value} {G:Rg} (h:RgIn Kp W D G) (hb:Below W.heap.size W W'):RgIn Kp W' D G:=
  ⟨h.size,h.has,h.no,fun x l e=>by obtain⟨A,c,rs,h1,h2,h3⟩:=h.at_ x l e;exact⟨A,c,rs,h1,h2.to hb,h3⟩⟩
theorem RgIn.but {Kp:Nat→Prop} {W W':World} {D:DataW Value} {G:Rg} {g:Nat} {q:Option Addr} {T:TypeId} (h:RgIn Kp W D G) (hg:W.grownBy W' (some g)) (hq:W.heap[g]?=some (.cells #[.pointer q] T (0,0))):RgIn Kp W' D G:=
  ⟨h.size,h.has,h.no,fun x l e=>by obtain⟨A,c,rs,h1,h2,h3⟩:=h.at_ x l e;exact⟨A,c,rs,h1,h2.but hg hq,h3⟩⟩
theorem RgIn.put {Kp:Nat→Prop} {W:World} {D:DataW Value} {G:Rg} (h:RgIn Kp W D G) (ht:Tidy D) (up:G.Pairwise (fun p q=>p.1<q.1)) (x:Bs) {l:List Sc} {A:Option Addr} {c:Nat} {rs:List SRef} (hl:qA0 W W.heap.size A rs l) (hk':qDt Kp A rs) :
    RgIn Kp W (D.put (.string x) (.held (.slice A l.length c))) (qBl G x l):=by
 have hk:WideAt.IsKeyLit (.string x):=trivial;refine⟨?_,fun y=>?_,fun y hy=>?_,fun y m hy=>?_⟩
 · rw[size_put ht,qHf x l up,h.has x,h.size];cases qAp G x <;> rfl
 · rw[qEo];by_cases e:y=x
   · rw[if_pos e,e,has_put_same ht.isMap hk];rfl
   · rw[if_neg e,has_put_other (fun e2=>e (by injection e2)),h.has y]
 · rw[qEo] at hy;by_cases e:y=x
   · rw[if_pos e] at hy;cases hy
   · rw[if_neg e] at hy;rw[atKey_put_other (fun e2=>e (by injection e2)),h.no y hy]
 · rw[qEo] at hy;by_cases e:y=x
   · rw[if_pos e] at hy;cases hy;exact⟨A,c,rs,by rw[e,atKey_put_same ht.isMap hk],hl,hk'⟩
   · rw[if_neg e] at hy;obtain⟨A',c',rs',h1,h2,h3⟩:=h.at_ y m hy;exact⟨A',c',rs',by rw[atKey_put_other (fun e2=>e (by injection e2)),h1],h2,h3⟩
structure RgAt (Kp:Nat→Prop) (P:Program) (tS tN tR:TypeId) (g sp mb:Nat) (D:DataW Value) (G:Rg) (W:World):Prop where
  box:W.heap[g]?=some (.cells #[.pointer (some ⟨sp,0,none⟩)] tR (0,0))
  snap:W.heap[sp]?=some (.cells #[.map (some mb)] tN (0,0))
  map:W.ownsMap P tS qCx mb G.length D
  inn:RgIn Kp W D G
  ok:RgOk G
section
variable {Kp:Nat→Prop} {P:Program} {tS tN tR:TypeId} {g sp mb:Nat} {D:DataW Value} {G:Rg} {W W':World}
theorem RgAt.to (h:RgAt Kp P tS tN tR g sp mb D G W) (hb:Below W.heap.size W W'):RgAt Kp P tS tN tR g sp mb D G W':=
  ⟨bk_ h.box hb,bk_ h.snap hb,h.map.kept (row:=none) ⟨hb.os,hb.tape,hb.output,hb.size,fun k hk _=>hb.block k hk⟩ (by simp),h.inn.to hb,h.ok⟩
theorem RgAt.but {g':Nat} {q:Option Addr} {T:TypeId} (h:RgAt Kp P tS tN tR g sp mb D G W) (hg:W.grownBy W' (some g')) (hq:W.heap[g']?=some (.cells #[.pointer q] T (0,0))) (hne:g≠g'):RgAt Kp P tS tN tR g sp mb D G W':=by
 have hs:sp≠g':=fun e=>by
  have:=h.snap;rw[e,hq] at this;cases this
 have hm:mb≠g':=fun e=>by
  obtain⟨es,clock,hb,_⟩:=h.map;rw[e,hq] at hb;cases hb
 have go:∀{k:Nat} {o:Obj},k≠g'→W.heap[k]?=some o→W'.heap[k]?=some o:=fun hk ho=>(hg.block _ (Array.getElem?_eq_some_iff.1 ho).1 (fun e=>hk (by cases e;rfl))).trans ho
 exact⟨go hne h.box,go hs h.snap,h.map.kept hg (by simpa using hm),h.inn.but hg hq,h.ok⟩
end
def qCr (Kp:Nat→Prop) (P:Program) (tS tN tR:TypeId) (g:Nat) (G:Rg) (W:World):Prop:= ∃sp mb D,RgAt Kp P tS tN tR g sp mb D G W
theorem qCr.to {Kp:Nat→Prop} {P:Program} {tS tN tR:TypeId} {g:Nat} {G:Rg} {W W':World} (h:qCr Kp P tS tN tR g G W) (hb:Below W.heap.size W W'):qCr Kp P tS tN tR g G W':=by
 obtain⟨sp,mb,D,h⟩:=h;exact⟨sp,mb,D,h.to hb⟩
theorem qCr.but {Kp Kq:Nat→Prop} {P:Program} {tS tN tR:TypeId} {g g':Nat} {G G':Rg} {W W':World} (h:qCr Kp P tS tN tR g G W) (h':qCr Kq P tS tN tR g' G' W) (hg:W.grownBy W' (some g')) (hne:g≠g'):qCr Kp P tS tN tR g G W':=by
 obtain⟨sp,mb,D,h⟩:=h;obtain⟨_,_,_,h'⟩:=h';exact⟨sp,mb,D,h.but hg h'.box hne⟩
theorem Lay.kwr {W W':World} {B c:Nat} {A:Option Addr} {xs:List Value} (h:Lay W B A xs) (hg:W.grownBy W' (some c)) (hA:0<xs.length→∀p,A=some p→p.block≠c):Lay W' B A xs:=by
 intro j u hu;obtain⟨b,o,e,hlt,hc⟩:=h j u hu;refine⟨b,o,e,hlt,?_⟩;have hne:b≠c:=hA (Nat.lt_of_le_of_lt (Nat.zero_le _) (List.getElem?_eq_some_iff.1 hu).1) _ e
 have hb:b<W.heap.size:=by
  unfold World.cell? at hc;simp only at hc
  cases hv:W.heap[b]? with
  |none=>rw[hv] at hc;cases hc
  |some o'=>exact(Array.getElem?_eq_some_iff.1 hv).1
 have hk:W'.heap[b]?=W.heap[b]?:=hg.block b hb (fun e=>hne (by cases e;rfl));unfold World.cell? at hc ⊢;simp only at hc ⊢;rw[hk];exact hc
theorem qBv.kwr {Kp:Nat→Prop} {W W':World} {c:Nat} {r:SRef} {s:Sc} (h:qBv W W.heap.size r s) (hg:W.grownBy W' (some c)) (hc:¬Kp c) (hr:RefK Kp r):qBv W' W'.heap.size r s:=
  ⟨h.n,h.m,h.nn,h.mm,(h.la.kwr hg (fun h0 p e k=>hc (k▸hr.1 (by rw[qD7] at h0;rw[h.n];omega) p e))).more hg.size,(h.lb.kwr hg (fun h0 p e k=>hc (k▸hr.2 (by unfold intV at h0;rw[List.length_map] at h0;rw[h.m];exact h0) p e))).more hg.size⟩
theorem qA0.kwr {Kp:Nat→Prop} {W W':World} {c:Nat} {A:Option Addr} {rs:List SRef} {ss:List Sc} (h:qA0 W W.heap.size A rs ss) (hg:W.grownBy W' (some c)) (hc:¬Kp c) (hr:qDt Kp A rs):qA0 W' W'.heap.size A rs ss:=
  ⟨h.len,(h.lay.kwr hg (fun h0 p e k=>hc (k▸hr.1 (by rw[qFo] at h0;omega) p e))).more hg.size,fun i r s h1 h2=>(h.each i r s h1 h2).kwr hg hc (hr.2 r (List.mem_of_getElem? h1))⟩
theorem qCr.kwr {Kp:Nat→Prop} {P:Program} {tS tN tR:TypeId} {g c:Nat} {G:Rg} {W W':World} (h:qCr Kp P tS tN tR g G W) (hg:W.grownBy W' (some c)) (hc:¬Kp c) {a:Array Value} {T:TypeId} {q:Nat×Nat} (hq:W.heap[c]?=some (.cells a T q)) (ha:a.size≠1):qCr Kp P tS tN tR g G W':=by
 obtain⟨sp,mb,D,h⟩:=h
 have hs:sp≠c:=fun e=>by
  have h2:=h.snap;rw[e,hq] at h2;cases h2;exact ha rfl
 have hn:g≠c:=fun e=>by
  have h2:=h.box;rw[e,hq] at h2;cases h2;exact ha rfl
 have hm:mb≠c:=fun e=>by
  obtain⟨es,clock,hb,_⟩:=h.map;rw[e,hq] at hb;cases hb
 have go:∀{k:Nat} {o:Obj},k≠c→W.heap[k]?=some o→W'.heap[k]?=some o:=fun hk ho=>(hg.block _ (Array.getElem?_eq_some_iff.1 ho).1 (fun e=>hk (by cases e;rfl))).trans ho
 exact⟨sp,mb,D,go hn h.box,go hs h.snap,h.map.kept hg (by simpa using hm),⟨h.inn.size,h.inn.has,h.inn.no,fun x l e=>by obtain⟨A,c',rs,h1,h2,h3⟩:=h.inn.at_ x l e;exact⟨A,c',rs,h1,h2.kwr hg hc h3,h3⟩⟩,h.ok⟩
theorem qCr.weak {Kp Kq:Nat→Prop} {P:Program} {tS tN tR:TypeId} {g:Nat} {G:Rg} {W:World} (h:qCr Kp P tS tN tR g G W) (hk:∀b,Kp b→Kq b):qCr Kq P tS tN tR g G W:=by
 obtain⟨sp,mb,D,h⟩:=h;exact⟨sp,mb,D,h.box,h.snap,h.map,⟨h.inn.size,h.inn.has,h.inn.no,fun x l e=>by obtain⟨A,c',rs,h1,h2,h3⟩:=h.inn.at_ x l e;exact⟨A,c',rs,h1,h2,h3.weak hk⟩⟩,h.ok⟩
theorem qCr.below {Kp:Nat→Prop} {P:Program} {tS tN tR:TypeId} {g:Nat} {G:Rg} {W:World} (h:qCr Kp P tS tN tR g G W):qCr (fun b=>b<W.heap.size) P tS tN tR g G W:=by
 obtain⟨sp,mb,D,h⟩:=h;exact⟨sp,mb,D,h.box,h.snap,h.map,⟨h.inn.size,h.inn.has,h.inn.no,fun x l e=>by obtain⟨A,c',rs,h1,h2,h3⟩:=h.inn.at_ x l e;exact⟨A,c',rs,h1,h2,h2.refsK⟩⟩,h.ok⟩
def qC7 (l:List Sc) (f k:Nat) (r:List Cl):List Cl:=qE5 (l.getD (f-1) zSc) ((l.drop f).take k) r
theorem qEv {l:List Sc} {f k:Nat} (h1:1≤f) (h2:f+k<l.length) (r:List Cl):qC7 l f (k+1) r=qA2 (l.getD (f+k-1) zSc).1 (l.getD (f+k) zSc).1 (qC7 l f k r):=by
 have hd:(l.drop f)[k]?=some (l.getD (f+k) zSc):=by rw[List.getElem?_drop,List.getD_eq_getElem?_getD,List.getElem?_eq_getElem h2];rfl
 have e:(l.drop f).take (k+1)=(l.drop f).take k++[l.getD (f+k) zSc]:=by rw[List.take_add_one,hd];rfl
 have hl:=qTr (L:=l) (p:=f) (q:=f+k) h1 (by omega) (by omega);rw[show f+k-f=k by omega] at hl;unfold qC7;rw[e,qNq,hl];rfl
theorem qIl {l:List Sc} {f:Nat} (h1:1≤f) {r:List Cl} (hr:(l.getD (f-1) zSc).1.length=r.length):∀(k:Nat),f+k≤l.length→(qC7 l f k r).length=(l.getD (f+k-1) zSc).1.length
  |0,h=>hr.symm
  |k+1,h=>by rw[qEv h1 (by omega),qI3];rfl
theorem qPs {l:List Sc} {f t:Int} {r:List Cl} (h:¬qAs l=0):qBz l f t r=([],qAs l):=by unfold qBz;rw[if_neg h]
theorem qN0 {l:List Sc} {f t:Int} {r:List Cl} (h:qAs l=0) (h2:f<1∨t<f∨(l.length:Int)<t):qBz l f t r=([],131):=by unfold qBz;rw[if_pos h,if_pos h2]
theorem qMr {l:List Sc} {f t:Nat} {r:List Cl} (h:qAs l=0) (h1:1≤f) (h2:f≤t) (h3:t≤l.length) (hr:¬qCj (qF6 (l.getD (f-1) zSc).1) r=0):qBz l f t r=([],qCj (qF6 (l.getD (f-1) zSc).1) r):=by
 unfold qBz;rw[if_pos h,if_neg (by omega),Int.toNat_natCast,if_neg hr]
theorem qNu {l:List Sc} {f t:Nat} {r:List Cl} (h:qAs l=0) (h1:1≤f) (h2:f≤t) (h3:t≤l.length) (hr:qCj (qF6 (l.getD (f-1) zSc).1) r=0):qBz l f t r=(qC7 l f (t-f) r,0):=by
 unfold qBz qC7;rw[if_pos h,if_neg (by omega),Int.toNat_natCast,if_pos hr,show((t:Int)-f).toNat=t-f by omega]
theorem getD_at {l:List Sc} {i:Nat} (h:i<l.length):l[i]?=some (l.getD i zSc):=by rw[List.getD_eq_getElem?_getD,List.getElem?_eq_getElem h];rfl
def qUa (B:Nat) (T:TypeId) (l:List Cl):Value→World→Prop:=fun v w=>OwnC w B T v l
theorem qG8 (B:Nat) (T:TypeId) (l:List Cl):Go.Rel.Stable (qUa B T l):=fun v w w' h hb=>own_below h hb
end Go.Ms
namespace Go.Proofs.YtainiaighnjpfaaGreatDoor
open Go.RowKit Go.Ms Go.Lib Go.Shelf Go.Rel
theorem qT4 (w:World) (L:Option Addr) (n cap:Nat) (rs:List SRef) (ss:List Sc) (f t:Int) (C:Option Addr) (q qcap:Nat) (r:List Cl) (hn':n≤100000) (hn:n=rs.length) (hL:qA0 w w.heap.size L rs ss) (hz:∀s∈ss,ScSz s.1)
    (hf: -9223372036854775808≤f∧f≤9223372036854775807) (ht: -9223372036854775808≤t∧t≤9223372036854775807) (hr:qIm w C q r) (hE:Env w) :
    Calls Tryz.prog 15 #[.slice L n cap,.int .i64 f,.int .i64 t,.slice C q qcap] w (qJq w (qBz ss f t r).1 (qBz ss f t r).2):=by
 have hns:n=ss.length:=hn.trans hL.len;have hch:=qJy w L n cap rs ss hn' hn hL hz hE;by_cases h0:qAs ss=0
 case neg=>
  rw[qPs h0];generalize qAs ss=Z at hch h0 ⊢;have h0':(Z != 0)=true:=by simpa using h0
  have HC:=hh_ hch;clear hch hn hL hz hr hE hns;go_enter Tryz.func15,Tryz.ntmps15;go_wp2_with fail
  refine HC.out.mono ?_;rintro en w1 ⟨rfl,b1⟩;have B1:=hh_ b1;clear b1;go_wp2_with fail
  go_ret2;exact⟨_,rfl,World.ownsRow_nil _ _ _ _,B1.out⟩
 rw[h0] at hch;by_cases ho:f<1∨t<f∨(ss.length:Int)<t
 · rw[qN0 h0 ho];have HC:=hh_ hch;have HO:=hh_ ho;have HNS:=hh_ hns;clear hch hn hL hz hr hE hns ho h0;by_cases c1:f<1
   · go_enter Tryz.func15,Tryz.ntmps15;go_wp2_with fail
     refine HC.out.mono ?_;rintro en w1 ⟨rfl,b1⟩;have B1:=hh_ b1;clear b1;go_wp2_with fail
     go_ret2;exact⟨_,rfl,World.ownsRow_nil _ _ _ _,B1.out⟩
   · by_cases c2:t<f
     · go_enter Tryz.func15,Tryz.ntmps15;go_wp2_with fail
       refine HC.out.mono ?_;rintro en w1 ⟨rfl,b1⟩;have B1:=hh_ b1;clear b1;go_wp2_with fail
       go_ret2;exact⟨_,rfl,World.ownsRow_nil _ _ _ _,B1.out⟩
     · have c3:(n:Int)<t:=by have:=HO.out;have:=HNS.out;omega
       go_enter Tryz.func15,Tryz.ntmps15;go_wp2_with fail
       refine HC.out.mono ?_;rintro en w1 ⟨rfl,b1⟩;have B1:=hh_ b1;clear b1;go_wp2_with fail
       go_ret2;exact⟨_,rfl,World.ownsRow_nil _ _ _ _,B1.out⟩
 obtain⟨F,rfl⟩:∃F:Nat,f=F:=⟨f.toNat,by omega⟩;obtain⟨T,rfl⟩:∃T:Nat,t=T:=⟨t.toNat,by omega⟩;have h1:1≤F:=by omega
 have h2:F≤T:=by omega
 have h3:T≤ss.length:=by omega
 have i1:¬(F:Int)<1:=by omega
 have i2:¬(T:Int)<F:=by omega
 have i3:¬(n:Int)<T:=by omega
 have i4:(1:Int)≤F:=by omega
 have i5:(F:Int)-1<n:=by omega
 have i6:F-1<n:=by omega
 have hw:=iw_ ((F:Int)-1) (by omega);have hsp:=getD_at (l:=ss) (i:=F-1) (by omega);obtain⟨rp,hrp⟩:∃r,rs[F-1]?=some r:=⟨_,List.getElem?_eq_getElem (by rw[←hn];omega)⟩;obtain⟨g,o,eL,hg⟩:=hL.at_ hrp;subst eL;have h5:=fun (W:World) (hb:Below w.heap.size w W)=>qNo W rp.a C rp.n rp.c q qcap (qF6 (ss.getD (F-1) zSc).1) (colV (ss.getD (F-1) zSc).1) r hr.sz (by have:=(hL.each _ _ _ hrp hsp).nn;unfold maxLen;omega) (by have:=hr.qq;unfold maxLen;omega) (by rw[qGq];exact(hL.each _ _ _ hrp hsp).n) hr.ql ((hL.each _ _ _ hrp hsp).to hb).la.cols (hr.to hb).lay (hE.below hb)
 by_cases hc:qCj (qF6 (ss.getD (F-1) zSc).1) r=0
 case neg=>
  rw[qMr h0 h1 h2 h3 hc];generalize qCj (qF6 (ss.getD (F-1) zSc).1) r=Z at h5 hc ⊢;have hcz:(Z != 0)=true:=by simpa using hc
  have HC:=hh_ hch;have H5:=hh_ h5;have G:=hh_ hg;clear hch hn hL hz hr hE hns h0 ho hc h5 hsp hrp hg h1 h2 h3;go_enter Tryz.func15,Tryz.ntmps15;go_wp2_with fail
  refine HC.out.mono ?_;rintro en w1 ⟨rfl,b1⟩;have B1:=hh_ b1;have g1:=(G.out.below b1).c0;clear b1;go_wp2_with fail
  refine(H5.out _ B1.out).mono ?_;rintro en w2 ⟨rfl,b2⟩;have B2:=hh_ (B1.out.trans (b2.mono B1.out.size));clear b2 g1;go_wp2_with fail
  go_ret2;exact⟨_,rfl,World.ownsRow_nil _ _ _ _,B2.out⟩
 have hlen:=(qH5 hc).1;rw[qGq] at hlen;have hok:=qPn h0;have hcl:=fun (W:World) (hb:Below w.heap.size w W)=>qS6 W C q qcap r hr.qq hr.ql (hr.to hb).lay
 rw[qNu h0 h1 h2 h3 hc];rw[hc] at h5;have HC:=hh_ hch;have H5:=hh_ h5;have G:=hh_ hg;have HCL:=hh_ hcl;have HOK:=hh_ hok;have HLEN:=hh_ hlen;have HN:=hh_ hn;have HNS:=hh_ hns;have HL:=hh_ hL;have HR:=hh_ hr;have P1:=hh_ h1;have P2:=hh_ h2;have P3:=hh_ h3;clear hch hn hL hz hr hE hns h0 ho hc h5 hsp hg hcl hok hlen h1 h2 h3;go_enter Tryz.func15,Tryz.ntmps15;go_wp2_with fail
 refine HC.out.mono ?_;rintro en w1 ⟨rfl,b1⟩;have B1:=hh_ b1;have g1:=(G.out.below b1).c0;clear b1;go_wp2_with fail
 refine(H5.out _ B1.out).mono ?_;rintro en w2 ⟨rfl,b2⟩;have B2:=hh_ (B1.out.trans (b2.mono B1.out.size));clear b2 g1;go_wp2_with fail
 refine(HCL.out _ B2.out).mono ?_;rintro en w3 ⟨v0,rfl,ho3,b3⟩;have B3:=hh_ (B2.out.trans (b3.mono B2.out.size));have O3:=hh_ (qAv ho3 B2.out.size);clear b3 ho3;go_wp2_with fail
 go_loopw [12,13] (fun v i wr=> ∃j:Nat,i=.int .i64 j∧F≤j∧j≤T∧OwnC wr w.heap.size 43 v (qC7 ss F (j-F) r)∧Below w.heap.size w wr) (fun _ i _=>T-(RowKit.intOf i).toNat)
 case atStart=>exact⟨F,rfl,Nat.le_refl _,P2.out,by rw[Nat.sub_self];exact O3.out,B3.out⟩
 case round=>
  obtain⟨j,rfl,hj1,hj2,hown,hb⟩:=hrel;obtain⟨A3,c3,rfl,hc3,hcm3⟩:=qAf hown;by_cases hlt:j<T
  · have hlti:(j:Int)<T:=by omega
    have hsn:=qEv (l:=ss) (f:=F) (k:=j-F) P1.out (by have:=P3.out;omega) r;have hcr:=qIl (l:=ss) P1.out HLEN.out (j-F) (by have:=P3.out;omega);rw[show F+(j-F)=j by omega] at hsn hcr;have hP3:=P3.out;have hNS:=HNS.out;have hP1:=P1.out;have hsa:=getD_at (l:=ss) (i:=j-1) (by omega);have hsb:=getD_at (l:=ss) (i:=j) (by omega);obtain⟨ra,hra⟩:∃r,rs[j-1]?=some r:=⟨_,List.getElem?_eq_getElem (by rw[←HN.out];omega)⟩;obtain⟨rb,hrb⟩:∃r,rs[j]?=some r:=⟨_,List.getElem?_eq_getElem (by rw[←HN.out];omega)⟩;have pa:=(HL.out.each _ _ _ hra hsa).to hb;have pb:=(HL.out.each _ _ _ hrb hsb).to hb;obtain⟨ua,ia⟩:=qPo (HOK.out _ (List.mem_of_getElem? hsa));obtain⟨-,ib⟩:=qPo (HOK.out _ (List.mem_of_getElem? hsb));obtain⟨g',o',e1,ga⟩:=HL.out.at_ hra;cases e1;obtain⟨g',o',e2,gb⟩:=HL.out.at_ hrb;cases e2;have lR:=Lay.of_own hown le_;generalize hSA:ss.getD (j-1) zSc=sa at hsa hsn hcr pa ua ia;generalize hSB:ss.getD j zSc=sb at hsb hsn pb ib;generalize hRR:qC7 ss F (j-F) r=R at hown hsn hcr lR hc3;have hm:=fun (W:World) (hb2:Below wr.heap.size wr W)=>qSn ra.a ra.b ra.n ra.c ra.m ra.d sa.1 sa.2 rb.a rb.b rb.n rb.c rb.m rb.d sb.1 sb.2 A3 R.length c3 R W pa.n pa.nn (pa.to hb2).la ua ia pb.n pb.nn (pb.to hb2).la (pb.to hb2).lb ib rfl ((lR.below hb2).more hb2.size) (by rw[pa.n,hcr])
    have hwj:=iw_ ((j:Int)-1) (by omega);have GA:=hh_ ((ga.below hb).more hb.size);have GB:=hh_ ((gb.below hb).more hb.size);have HM:=hh_ hm;have HSN:=hh_ hsn;have HWJ:=hh_ hwj;have HB:=hh_ hb;have J1:=hh_ (show 1≤j by omega);have J2:=hh_ (show j<n by omega);clear ga gb hm hsn hwj hb hown lR pa pb ua ia ib hsa hsb hra hrb hcr hSA hSB hRR hP3 hNS hP1 i4 i5 i6 hw;go_wp2_with fail
    refine qB4 (l:=[_,_,_,_,_,_,_,_,_,_,_]) (o:=_) [isV (.slice (some ⟨g,o,none⟩) n cap),isV (.int .i64 (j:Nat)),isV (.int .i64 ((j:Int)-1)),isV (.pointer (some ⟨g,o+(j-1)*2,none⟩)),isV (.agg #[.slice ra.a ra.n ra.c,.slice ra.b ra.m ra.d]),isV (.slice (some ⟨g,o,none⟩) n cap),isV (.int .i64 (j:Nat)),isV (.pointer (some ⟨g,o+j*2,none⟩)),isV (.agg #[.slice rb.a rb.n rb.c,.slice rb.b rb.m rb.d]),isV (.slice A3 R.length c3),qUa w.heap.size 43 (qA2 sa.1 sb.1 R)] (by kernel_rfl) (by kernel_rfl) (by kernel_rfl) (by kernel_rfl) rfl ?_ ?_
    ·
      refine Rel.rb ?_;refine Rel.rb ?_;refine rf (fun ev wo E=>?_) ?_
      · have e52:ev (.tmp 52)=.int .i64 (j:Nat):=E.e 0;have ec:=E.const;have h0:=HWJ.out;go_simp;exact rv
      refine rf (fun ev wo E=>?_) ?_
      · have e51:ev (.tmp 51)=.slice (some ⟨g,o,none⟩) n cap:=E.e 0;have e53:ev (.tmp 53)=.int .i64 ((j:Int)-1):=E.e 1;have h0:=J1.out;have h1:=J2.out;have h2:(0:Int)≤(j:Int)-1:=by omega
        have h3:(j:Int)-1<n:=by omega
        have h4:(1:Int)≤j:=by omega
        go_simp;exact rv
      refine rf (fun ev wo E=>?_) ?_
      · have e54:ev (.tmp 54)=.pointer (some ⟨g,o+(j-1)*2,none⟩):=E.e 0;have hx0:=(E.bel.cell GA.out.lt).trans GA.out.c0;have hx1:=(E.bel.cell GA.out.lt).trans GA.out.c1;go_simp;exact rv
      refine Rel.rb ?_;refine Rel.rb ?_;refine rf (fun ev wo E=>?_) ?_
      · have e56:ev (.tmp 56)=.slice (some ⟨g,o,none⟩) n cap:=E.e 0;have e57:ev (.tmp 57)=.int .i64 (j:Nat):=E.e 1;have h1:=J2.out;have h3:(j:Int)<n:=by omega
        go_simp;exact rv
      refine rf (fun ev wo E=>?_) ?_
      · have e58:ev (.tmp 58)=.pointer (some ⟨g,o+j*2,none⟩):=E.e 0;have hx0:=(E.bel.cell GB.out.lt).trans GB.out.c0;have hx1:=(E.bel.cell GB.out.lt).trans GB.out.c1;go_simp;exact rv
      refine Rel.rb ?_;refine⟨qBo (qA5.free rfl) (qG8 _ _ _) (fun ev wo E=>?_),?_⟩
      · have e55:ev (.tmp 55)=.agg #[.slice ra.a ra.n ra.c,.slice ra.b ra.m ra.d]:=E.e 0;have e59:ev (.tmp 59)=.agg #[.slice rb.a rb.n rb.c,.slice rb.b rb.m rb.d]:=E.e 1;have e60:ev (.tmp 60)=.slice A3 R.length c3:=E.e 2;have ef:=E.func;go_simp;refine qAb ((HM.out wo E.bel).mono ?_);rintro e w' ⟨v,rfl,ho,hb⟩;exact⟨_,rfl,hb,qAv ho (Nat.le_trans HB.out.size E.bel.size)⟩
      trivial
    · intro wz bz
      (iterate 10 rintro _ rfl)
      intro v61 h61;have B4:=hh_ (HB.out.trans (bz.mono HB.out.size));have H61:=hh_ h61;clear bz h61;simp only[qAq];unfold Oper.wp;go_simp;go_wp2_with fail
      go_roundw
      case rel=>
       refine⟨j+1,by go_num,by omega,by omega,?_,B4.out⟩;rw[show j+1-F=j-F+1 by omega,HSN.out];exact H61.out
      case measure=>simp[RowKit.intOf];omega
  · have hlti:¬(j:Int)<T:=by omega
    obtain rfl:j=T:=by omega
    have HO:=hh_ hown;have HB:=hh_ hb;clear hown hb;go_wp2_with fail
    go_ret2;exact⟨_,rfl,HO.out,HB.out⟩
end Go.Proofs.YtainiaighnjpfaaGreatDoor
namespace Go.Ms
open Go.RowKit Go.Lib
end Go.Ms
namespace Go.Proofs.YtainiaighnjpfaaGreatDoor
open Go.RowKit Go.Ms Go.Lib
theorem qTo {w:World} {b:Nat} {x y:Value} {T:TypeId} (h:w.heap[b]?=some (.cells #[x,y] T (0,0))) (p q:Value):((w.setCell ⟨b,0,none⟩ p).setCell ⟨b,1,none⟩ q).heap[b]?=some (.cells #[p,q] T (0,0)):=by
 simp[World.setCell,Array.getElem?_modify,h]
theorem qQr (w:World) (A B:Option Addr) (n cap m capm:Nat) (cs:List Co) (ks:List Int) (h1:n≤100000) (h2:m≤100000) (hn:n=cs.length) (hm:m=ks.length)
    (hA:Lay w w.heap.size A (colV cs)) (hB:Lay w w.heap.size B (intV ks)) :
    Calls Tryz.prog 19 #[.agg #[.slice A n cap,.slice B m capm]] w fun e w'=> ∃A' c' B' d',e=.returned (.agg #[.slice A' n c',.slice B' m d'])∧qBw w' w.heap.size 45 (.slice A' n c') cs∧OwnI w' w.heap.size 3 (.slice B' m d') ks∧Below w.heap.size w w':=by
 obtain⟨X,hX⟩:∃X,X=(w.alloc (.cells #[.slice A n cap,.slice B m capm] 33)).alloc (.cells #[.slice none 0 0,.slice none 0 0] 33):=⟨_,rfl⟩;have P1:X.heap[w.heap.size]?=some (.cells #[.slice A n cap,.slice B m capm] 33 (0,0)):=by rw[hX];exact bx_ (qAd _ _) _
 have P2:X.heap[w.heap.size+1]?=some (.cells #[.slice none 0 0,.slice none 0 0] 33 (0,0)):=by rw[hX];have:=qAd (w.alloc (.cells #[.slice A n cap,.slice B m capm] 33)) (.cells #[.slice none 0 0,.slice none 0 0] 33);rw[World.size_alloc] at this;exact this
 have hXs:X.heap.size=w.heap.size+2:=by rw[hX];rw[World.size_alloc,World.size_alloc]
 have bX:Below w.heap.size w X:=by rw[hX];exact((Below.refl _ w).alloc le_ _).alloc (by rw[World.size_alloc];omega) _
 have hc:Calls Tryz.prog 51 #[.slice A n cap] X.drew fun e w'=> ∃A' c',e=.returned (.slice A' n c')∧qBw w' X.heap.size 45 (.slice A' n c') cs∧Below X.heap.size X w':=by
  refine(qRi X.drew A n cap cs h1 hn (hA.below bX.drew |>.more bX.size)).mono ?_;rintro e w' ⟨v,rfl,ho,hb⟩;have ho:qBw w' X.heap.size 45 v cs:=ho;obtain⟨A',c',rfl,_⟩:=qAf ho;have e1:=(qBw.lay ho).1;exact⟨A',c',by rw[hn],by rw[hn];exact ho,((Below.refl X.heap.size X).drew).trans hb⟩
 have hi:=fun (w':World) (hb:Below w.heap.size w w')=>qQq w' B m capm ks h2 hm ((hB.below hb).more hb.size)
 have HI:=hh_ hi;have HC:=hh_ hc;have BX:=hh_ bX;have H1:=hh_ P1;have H2:=hh_ P2;have HS:=hh_ hXs;have HM:=hh_ hm;clear hc hi hA hB hn hm h1 h2 bX P1 P2 hXs;go_enter Tryz.func19,Tryz.ntmps19;go_wp2_with fail
 rw[←hX];clear hX;have c0:=cb_ 0 (w:=X.drew) H1.out rfl;have c1:=cb_ 1 (w:=X.drew) H1.out rfl;have e1:=cb_ 0 (w:=X) H1.out rfl;have e2:=cb_ 1 (w:=X) H1.out rfl
 go_region_with (first
   |(go_at_call 51;refine HC.out.mono ?_;rintro en w1 ⟨A1,k1,rfl,o1,b1⟩;have d1:=cb_ 1 (bk_ H1.out b1) rfl;have O1:=hh_ o1;have B1:=hh_ b1;clear o1 b1)
   |(go_at_call 52;refine(HI.out _ (BX.out.trans (B1.out.mono BX.out.size))).mono ?_;rintro en w2 ⟨v2,rfl,o2,b2⟩;obtain⟨A2,k2,rfl,-,-⟩:=qAf o2;have q2:=bk_ (bk_ H2.out B1.out) b2;have f0:=cb_ 0 q2 rfl;have f1:=cb_ 1 q2 rfl;have g0:w2.frozen? ⟨w.heap.size+1,0,none⟩=false:=(by simp[World.frozen?,q2]);have g1:w2.frozen? ⟨w.heap.size+1,1,none⟩=false:=(by simp[World.frozen?,q2]);have O2:=hh_ o2;have B2:=hh_ b2;have Q2:=hh_ q2;clear o2 b2 q2))
 all_goals go_wp2_with fail
 all_goals
  have z:=qTo Q2.out (.slice A1 n k1) (.slice A2 ks.length k2);have z0:=cb_ 0 z rfl;have z1:=cb_ 1 z rfl;have o1:qBw ((w2.setCell ⟨w.heap.size+1,0,none⟩ (.slice A1 n k1)).setCell ⟨w.heap.size+1,1,none⟩ (.slice A2 ks.length k2)) X.heap.size 45 (.slice A1 n k1) cs:=qE4 (qE4 (own_below O1.out B2.out) (by have:=HS.out;omega) _) (by have:=HS.out;omega) _;have o2:OwnI ((w2.setCell ⟨w.heap.size+1,0,none⟩ (.slice A1 n k1)).setCell ⟨w.heap.size+1,1,none⟩ (.slice A2 ks.length k2)) w1.heap.size 3 (.slice A2 ks.length k2) ks:=qE4 (qE4 O2.out (by have:=HS.out;have:=B1.out.size;omega) _) (by have:=HS.out;have:=B1.out.size;omega) _;have bw:Below w.heap.size w ((w2.setCell ⟨w.heap.size+1,0,none⟩ (.slice A1 n k1)).setCell ⟨w.heap.size+1,1,none⟩ (.slice A2 ks.length k2)):=((BX.out.trans (B1.out.mono BX.out.size)).trans (B2.out.mono (by have:=BX.out.size;have:=B1.out.size;omega))).setCell (p:=⟨w.heap.size+1,0,none⟩) (by simp) _ |>.setCell (p:=⟨w.heap.size+1,1,none⟩) (by simp) _;have O1':=hh_ (qAv o1 BX.out.size);have O2':=hh_ (qAv o2 (by have:=BX.out.size;have:=B1.out.size;omega:w.heap.size≤w1.heap.size));have BW:=hh_ bw;clear o1 o2 bw z;generalize (w2.setCell ⟨w.heap.size+1,0,none⟩ (.slice A1 n k1)).setCell ⟨w.heap.size+1,1,none⟩ (.slice A2 ks.length k2)=W3 at z0 z1 O1' O2' BW ⊢
  refine bodyPost_ret (v:=.agg #[.slice A1 n k1,.slice A2 ks.length k2]) (by simp[results,Tryz.results19,go_sem,z0,z1]) rfl ?_;rw[HM.out];exact⟨_,_,_,_,rfl,O1'.out,O2'.out,BW.out⟩
theorem qO0 (w:World) (A B:Option Addr) (n cap m capm:Nat) (cs:List Co) (ks:List Int) (h1:n≤100000) (h2:m≤100000) (hn:n=cs.length) (hm:m=ks.length)
    (hA:Lay w w.heap.size A (colV cs)) (hB:Lay w w.heap.size B (intV ks)) :
    Calls Tryz.prog 25 #[.agg #[.slice A n cap,.slice B m capm]] w fun e w'=> ∃A' c' B' d',e=.returned (.agg #[.slice A' n c',.slice B' m d'])∧qBw w' w.heap.size 45 (.slice A' n c') cs∧OwnI w' w.heap.size 3 (.slice B' m d') ks∧Below w.heap.size w w':=by
 obtain⟨X,hX⟩:∃X,X=(w.alloc (.cells #[.slice A n cap,.slice B m capm] 33)).alloc (.cells #[.slice none 0 0,.slice none 0 0] 33):=⟨_,rfl⟩;have P1:X.heap[w.heap.size]?=some (.cells #[.slice A n cap,.slice B m capm] 33 (0,0)):=by rw[hX];exact bx_ (qAd _ _) _
 have P2:X.heap[w.heap.size+1]?=some (.cells #[.slice none 0 0,.slice none 0 0] 33 (0,0)):=by rw[hX];have:=qAd (w.alloc (.cells #[.slice A n cap,.slice B m capm] 33)) (.cells #[.slice none 0 0,.slice none 0 0] 33);rw[World.size_alloc] at this;exact this
 have hXs:X.heap.size=w.heap.size+2:=by rw[hX];rw[World.size_alloc,World.size_alloc]
 have bX:Below w.heap.size w X:=by rw[hX];exact((Below.refl _ w).alloc le_ _).alloc (by rw[World.size_alloc];omega) _
 have hc:Calls Tryz.prog 55 #[.slice A n cap] X.drew fun e w'=> ∃A' c',e=.returned (.slice A' n c')∧qBw w' X.heap.size 45 (.slice A' n c') cs∧Below X.heap.size X w':=by
  refine(qIi X.drew A n cap (colV cs) h1 (by rw[qD7];omega) (Lay.ext (hA.below bX.drew |>.more bX.size)) (qG5 _)).mono ?_;rintro e w' ⟨v,rfl,ho,hb⟩;have ho:qBw w' X.heap.size 45 v cs:=by unfold qBw;rw[←hn];exact ho
  obtain⟨A',c',rfl,_⟩:=qAf ho;have e1:=(qBw.lay ho).1;exact⟨A',c',by rw[hn],by rw[hn];exact ho,((Below.refl X.heap.size X).drew).trans hb⟩
 have hi:=fun (w':World) (hb:Below w.heap.size w w')=>qIa w' B m capm ks h2 hm.symm (Lay.ext ((hB.below hb).more hb.size))
 have HI:=hh_ hi;have HC:=hh_ hc;have BX:=hh_ bX;have H1:=hh_ P1;have H2:=hh_ P2;have HS:=hh_ hXs;have HM:=hh_ hm;clear hc hi hA hB hn hm h1 h2 bX P1 P2 hXs;go_enter Tryz.func25,Tryz.ntmps25;go_wp2_with fail
 rw[←hX];clear hX;have c0:=cb_ 0 (w:=X.drew) H1.out rfl;have c1:=cb_ 1 (w:=X.drew) H1.out rfl;have e1:=cb_ 0 (w:=X) H1.out rfl;have e2:=cb_ 1 (w:=X) H1.out rfl
 go_region_with (first
   |(go_at_call 55;refine HC.out.mono ?_;rintro en w1 ⟨A1,k1,rfl,o1,b1⟩;have d1:=cb_ 1 (bk_ H1.out b1) rfl;have O1:=hh_ o1;have B1:=hh_ b1;clear o1 b1)
   |(go_at_call 56;refine(HI.out _ (BX.out.trans (B1.out.mono BX.out.size))).mono ?_;rintro en w2 ⟨v2,rfl,o2,b2⟩;obtain⟨A2,k2,rfl,-,-⟩:=qAf o2;have q2:=bk_ (bk_ H2.out B1.out) b2;have f0:=cb_ 0 q2 rfl;have f1:=cb_ 1 q2 rfl;have g0:w2.frozen? ⟨w.heap.size+1,0,none⟩=false:=(by simp[World.frozen?,q2]);have g1:w2.frozen? ⟨w.heap.size+1,1,none⟩=false:=(by simp[World.frozen?,q2]);have O2:=hh_ o2;have B2:=hh_ b2;have Q2:=hh_ q2;clear o2 b2 q2))
 all_goals go_wp2_with fail
 all_goals
  have z:=qTo Q2.out (.slice A1 n k1) (.slice A2 ks.length k2);have z0:=cb_ 0 z rfl;have z1:=cb_ 1 z rfl;have o1:qBw ((w2.setCell ⟨w.heap.size+1,0,none⟩ (.slice A1 n k1)).setCell ⟨w.heap.size+1,1,none⟩ (.slice A2 ks.length k2)) X.heap.size 45 (.slice A1 n k1) cs:=qE4 (qE4 (own_below O1.out B2.out) (by have:=HS.out;omega) _) (by have:=HS.out;omega) _;have o2:OwnI ((w2.setCell ⟨w.heap.size+1,0,none⟩ (.slice A1 n k1)).setCell ⟨w.heap.size+1,1,none⟩ (.slice A2 ks.length k2)) w1.heap.size 3 (.slice A2 ks.length k2) ks:=qE4 (qE4 O2.out (by have:=HS.out;have:=B1.out.size;omega) _) (by have:=HS.out;have:=B1.out.size;omega) _;have bw:Below w.heap.size w ((w2.setCell ⟨w.heap.size+1,0,none⟩ (.slice A1 n k1)).setCell ⟨w.heap.size+1,1,none⟩ (.slice A2 ks.length k2)):=((BX.out.trans (B1.out.mono BX.out.size)).trans (B2.out.mono (by have:=BX.out.size;have:=B1.out.size;omega))).setCell (p:=⟨w.heap.size+1,0,none⟩) (by simp) _ |>.setCell (p:=⟨w.heap.size+1,1,none⟩) (by simp) _;have O1':=hh_ (qAv o1 BX.out.size);have O2':=hh_ (qAv o2 (by have:=BX.out.size;have:=B1.out.size;omega:w.heap.size≤w1.heap.size));have BW:=hh_ bw;clear o1 o2 bw z;generalize (w2.setCell ⟨w.heap.size+1,0,none⟩ (.slice A1 n k1)).setCell ⟨w.heap.size+1,1,none⟩ (.slice A2 ks.length k2)=W3 at z0 z1 O1' O2' BW ⊢
  refine bodyPost_ret (v:=.agg #[.slice A1 n k1,.slice A2 ks.length k2]) (by simp[results,Tryz.results25,go_sem,z0,z1]) rfl ?_;rw[HM.out];exact⟨_,_,_,_,rfl,O1'.out,O2'.out,BW.out⟩
theorem qTl {S:ByteArray} {w:World} {D:List Co×List Int×Nat×Int} (hs:S.size≤20000) (hE:Env w) (h:qCo S.data.toList=D) {n m:Nat} {l:Int} (hn:D.1.length=n) (hm:D.2.1.length=m) (hl:((D.2.2.1:Nat):Int)=l) :
    Calls Tryz.prog 49 #[.string S] w fun e w'=> ∃(A B:Option Addr) (c d:Nat),(n≤c∧c≤maxLen∧m≤d∧d≤maxLen)∧e=.returned (.tuple #[.agg #[.slice A n c,.slice B m d],.int .i64 l,.int .i64 D.2.2.2])∧Lay w' w'.heap.size A (colV D.1)∧Lay w' w'.heap.size B (intV D.2.1)∧Below w.heap.size w w':=by
 subst h hn hm hl;exact qOo S w hs hE
end Go.Proofs.YtainiaighnjpfaaGreatDoor
namespace Go.Ms
open Go.RowKit Go.Lib
end Go.Ms
namespace Go.Proofs.YtainiaighnjpfaaGreatDoor
open Go.RowKit Go.Ms Go.Lib
end Go.Proofs.YtainiaighnjpfaaGreatDoor
