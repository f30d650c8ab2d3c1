/- Registry's laws: a schema and a row among the arguments; a schema's cells. What lies at an address lies at a plain one. Registry's laws: a list of calls among the arguments, read as such. -/
import Derived.Test.YtainiaighnjpfaaGreatDoorZQat
set_option maxRecDepth 100000
set_option linter.unusedVariables false
set_option linter.unusedSimpArgs false
namespace Go.Ms
open Go.RowKit Go.Lib
structure qO2 (w:World) (A:Option Addr) (n c:Nat) (cs:List Co) (B:Option Addr) (m d:Nat) (ks:List Int):Prop where
  nc:n≤c
  cm:c≤maxLen
  ln:cs.length=n
  la:Ext w w.heap.size A (colV cs)
  md:m≤d
  dm:d≤maxLen
  lm:ks.length=m
  lb:Ext w w.heap.size B (intV ks)
  ok:∀x∈cs,qXg x
theorem qO2.to {w w':World} {A:Option Addr} {n c:Nat} {cs:List Co} {B:Option Addr} {m d:Nat} {ks:List Int} (h:qO2 w A n c cs B m d ks) (hb:Below w.heap.size w w'):qO2 w' A n c cs B m d ks:=
  ⟨h.nc,h.cm,h.ln,(h.la.keep hb).more hb.size,h.md,h.dm,h.lm,(h.lb.keep hb).more hb.size,h.ok⟩
structure qRf (w:World) (A:Option Addr) (n c:Nat) (l:List Cl):Prop where
  nc:n≤c
  cm:c≤maxLen
  ln:l.length=n
  la:Ext w w.heap.size A (rowV l)
  ok:∀x∈l,ClIn x
theorem qRf.to {w w':World} {A:Option Addr} {n c:Nat} {l:List Cl} (h:qRf w A n c l) (hb:Below w.heap.size w w'):qRf w' A n c l:=⟨h.nc,h.cm,h.ln,(h.la.keep hb).more hb.size,h.ok⟩
def zB1 (cs:List Co) (ks:List Int):Sc:=((cs.take 34).map qEp,ks.take 10)
def qYs (l:List Cl):List Cl:=(l.take 40).map qIp
theorem qT0 {s:ByteArray} {k:Nat}:(s.extract 0 (min s.size k)).size≤k:=by
 rw[ByteArray.size_extract];omega
theorem qY9 {cs:List Co} {ks:List Int} (h:∀x∈cs,qXg x):ScR (zB1 cs ks).1:=by
 intro c hc;obtain⟨d,hd,rfl⟩:=List.mem_map.1 hc;have h1:=(h d (List.mem_of_mem_take hd)).2.2.2.2;refine⟨Nat.le_trans (qT0 (k:=40)) (by omega),Nat.le_trans (qT0 (k:=1100)) (by omega),h1⟩
theorem qU9 {l:List Cl} (h:∀x∈l,ClIn x):CsOk (qYs l)∧∀c∈qYs l,c.2.2.size≤100000:=by
 have h1:CsOk (qYs l):=by
  intro c hc;obtain⟨d,hd,rfl⟩:=List.mem_map.1 hc;have h1:=(h d (List.mem_of_mem_take hd)).2;exact⟨Nat.le_trans (qT0 (k:=1100)) (by omega),h1⟩
 exact⟨h1,fun c hc=>by have:=(h1 c hc).1;omega⟩
def schV (x:SRef×Sc):List Value:=[.slice x.1.a x.1.n x.1.c,.slice x.1.b x.1.m x.1.d]
def zCd (w:World) (x:SRef×Sc):Prop:=qO2 w x.1.a x.1.n x.1.c x.2.1 x.1.b x.1.m x.1.d x.2.2
end Go.Ms
namespace Go.Proofs.YtainiaighnjpfaaGreatDoor
open Go.RowKit Go.Ms Go.Lib Go.ChangeShapes Go.WideShapes Go.Deep
section
variable {H:Type} {enc:TypeId×Value→H} {w:World} {base:Nat} {spare:Nat→Bool} {held:Bool}
theorem qMw:Tryz.prog.cellsOf 33=2:=by kernel_rfl
theorem qSd:Tryz.prog.cellsOf 30=1:=by kernel_rfl
theorem qUm:Tryz.prog.cellsOf 31=1:=by kernel_rfl
theorem qZ7 {n:Nat} {cs':List Value} {y:DataW H×List MemPlace} (h:DataW.trod enc Tryz.prog w base spare held n 33 cs'=some y):∃x:SRef×Sc,cs'=schV x∧zCd w x:=by
 obtain⟨xs,n',_,_,hl,hxl,hf⟩:=DataW.trod_struct Tryz.underlying33 h;rw[qMw] at hl;obtain⟨y0,y1,rfl⟩:=len2 (show xs.length=2 from hxl);obtain⟨c0,c1,rfl⟩:=len2 hl;have h0:DataW.trod enc Tryz.prog w base spare held n' 30 (([c0,c1].drop 0).take (Tryz.prog.cellsOf 30))=some y0:=hf 0 _ rfl;rw[qSd] at h0;have h1:DataW.trod enc Tryz.prog w base spare held n' 31 (([c0,c1].drop 1).take (Tryz.prog.cellsOf 31))=some y1:=hf 1 _ rfl;rw[qUm] at h1;obtain⟨A,n,c,l,e0,ll,hc,kc,ok,ex⟩:=qD6 coV qXg qOz (by omega) Tryz.underlying30 qNe (fun _ _ _ h=>zAs h) (show DataW.trod enc Tryz.prog w base spare held n' 30 [c0]=some y0 from h0);obtain⟨B,m,d,lb,e1,llb,hcb,kcb,okb,exb⟩:=qD6 oneI I64 qU3 (by omega) Tryz.underlying31 qHh (fun _ _ _ h=>zAt h) (show DataW.trod enc Tryz.prog w base spare held n' 31 [c1]=some y1 from h1);obtain rfl:c0=.slice A n c:=e0;obtain rfl:c1=.slice B m d:=e1;exact⟨(⟨A,n,c,B,m,d⟩,(l,lb)),rfl,hc,kc,ll,ex,hcb,kcb,llb,qW5 exb,ok⟩
end
end Go.Proofs.YtainiaighnjpfaaGreatDoor
namespace Go.Ms
open Go.RowKit Go.Lib
theorem qZb {w:World} {B:Nat} {A:Option Addr} {xs:List Value} (h:Ext w B A xs):Lay w B A xs:=fun j u hu=>by
 have hl:j<xs.length:=(List.getElem?_eq_some_iff.1 hu).1;obtain⟨a,rfl,hb,h0⟩:=h 0 _ (List.getElem?_eq_getElem (by omega));obtain⟨_,e,_,hj⟩:=h j u hu;cases e;obtain⟨g,o,s⟩:=a
 have hs:s=none:=by
  cases s with
  |none=>rfl
  |some x=>
   exfalso;have:(Addr.add ⟨g,o,some x⟩ 0)=⟨g,o,some x⟩:=rfl;rw[this] at h0;unfold World.cell? at h0;split at h0
   · simp at h0
   · cases h0
 subst hs;refine⟨g,o,rfl,hb,?_⟩;rw[Addr.add_lit] at hj;exact hj
structure DoV where
  kd:Int
  fr:Int
  tt:Int
  S:ByteArray
  r:SRef
  s:Sc
  e:Option Addr
  p:Nat
  c:Nat
  row:List Cl
def doV (d:DoV):List Value:=[.int .i64 d.kd,.int .i64 d.fr,.int .i64 d.tt,.string d.S,.slice d.r.a d.r.n d.r.c,.slice d.r.b d.r.m d.r.d,.slice d.e d.p d.c]
theorem qLn (d:DoV):(doV d).length=7:=rfl
structure DoIn (w:World) (d:DoV):Prop where
  kd:I64 d.kd
  fr:I64 d.fr
  tt:I64 d.tt
  S:d.S.size≤maxLen
  sc:qO2 w d.r.a d.r.n d.r.c d.s.1 d.r.b d.r.m d.r.d d.s.2
  rw':qRf w d.e d.p d.c d.row
theorem DoIn.to {w w':World} {d:DoV} (h:DoIn w d) (hb:Below w.heap.size w w'):DoIn w' d:=⟨h.kd,h.fr,h.tt,h.S,h.sc.to hb,h.rw'.to hb⟩
def dosV (l:List DoV):List Value:=l.flatMap doV
theorem qT5:∀(l:List DoV) (k:Nat) (d:DoV),l[k]?=some d→∀j,j<7→(dosV l)[k*7+j]?=(doV d)[j]?
  |[],k,d,h,j,hj=>by simp at h
  |a::t,0,d,h,j,hj=>by
   obtain rfl:a=d:=by simpa using h
   unfold dosV;rw[List.flatMap_cons,List.getElem?_append_left (by rw[qLn];omega),Nat.zero_mul,Nat.zero_add]
  |a::t,k+1,d,h,j,hj=>by
   have ih:=qT5 t k d (by simpa using h) j hj;unfold dosV at ih ⊢;rw[List.flatMap_cons,List.getElem?_append_right (by rw[qLn];omega),qLn,show(k+1)*7+j-7=k*7+j by omega];exact ih
structure qF9 (w:World) (A:Option Addr) (n:Nat) (L:List DoV):Prop where
  en:L.length=n
  nn:n≤maxLen
  la:Lay w w.heap.size A (dosV L)
  ok:∀d∈L,DoIn w d
theorem qF9.to {w w':World} {A:Option Addr} {n:Nat} {L:List DoV} (h:qF9 w A n L) (hb:Below w.heap.size w w'):qF9 w' A n L:=⟨h.en,h.nn,(h.la.below hb).more hb.size,fun d hd=>(h.ok d hd).to hb⟩
theorem qF9.of {w:World} {A:Option Addr} {n c:Nat} {l:List DoV} (hc:n≤c) (kc:c≤maxLen) (ll:l.length=n) (ex:Ext w w.heap.size A (l.flatMap doV)) (ok:∀x∈l,DoIn w x):qF9 w A n l:=
  ⟨ll,Nat.le_trans hc kc,qZb ex,ok⟩
structure DoAt (g o:Nat) (d:DoV) (W:World):Prop where
  c0:W.cell? ⟨g,o,none⟩=some (.int .i64 d.kd)
  c1:W.cell? ⟨g,o+1,none⟩=some (.int .i64 d.fr)
  c2:W.cell? ⟨g,o+2,none⟩=some (.int .i64 d.tt)
  c3:W.cell? ⟨g,o+3,none⟩=some (.string d.S)
  c4:W.cell? ⟨g,o+4,none⟩=some (.slice d.r.a d.r.n d.r.c)
  c5:W.cell? ⟨g,o+5,none⟩=some (.slice d.r.b d.r.m d.r.d)
  c6:W.cell? ⟨g,o+6,none⟩=some (.slice d.e d.p d.c)
theorem qF9.at_ {w:World} {A:Option Addr} {n:Nat} {L:List DoV} (h:qF9 w A n L) {k:Nat} (hk:k<n):∃g o d,A=some ⟨g,o,none⟩∧DoIn w d∧DoAt g (o+k*7) d w:=by
 have hk2:k<L.length:=by rw[h.en];exact hk
 have hx:L[k]?=some L[k]:=List.getElem?_eq_getElem hk2;have ha:=qT5 L k _ hx;obtain⟨g,o,e,-,h0⟩:=h.la (k*7) _ ((ha 0 (by omega)).trans rfl)
 have go:∀j u,j<7→(doV L[k])[j]?=some u→w.cell? ⟨g,o+k*7+j,none⟩=some u:=fun j u hj hu=>by
  obtain⟨g',o',e',-,hc⟩:=h.la (k*7+j) u ((ha j hj).trans hu);rw[e] at e';cases e'
  rw[Nat.add_assoc];exact hc
 exact⟨g,o,L[k],e,h.ok _ (List.getElem_mem hk2),go 0 _ (by omega) rfl,go 1 _ (by omega) rfl,go 2 _ (by omega) rfl,go 3 _ (by omega) rfl,go 4 _ (by omega) rfl,go 5 _ (by omega) rfl,go 6 _ (by omega) rfl⟩
end Go.Ms
namespace Go.Proofs.YtainiaighnjpfaaGreatDoor
open Go.RowKit Go.Ms Go.Lib Go.ChangeShapes Go.WideShapes Go.Deep
section
variable {H:Type} {enc:TypeId×Value→H} {w:World} {base:Nat} {spare:Nat→Bool} {held:Bool}
theorem qPb:Tryz.prog.cellsOf 56=7:=by kernel_rfl
theorem zCc {α:Type} {l:List α} (h:l.length=6):∃a b c d e f,l=[a,b,c,d,e,f]:=by
 match l,h with
 |[a,b,c,d,e,f],_=>exact⟨a,b,c,d,e,f,rfl⟩
theorem qTz:Tryz.prog.cellsOf 39=1:=by kernel_rfl
theorem zB5 {n:Nat} {cs':List Value} {y:DataW H×List MemPlace} (h:DataW.trod enc Tryz.prog w base spare held n 56 cs'=some y):∃x:DoV,cs'=doV x∧DoIn w x:=by
 obtain⟨xs,n',_,_,hl,hxl,hf⟩:=DataW.trod_struct Tryz.underlying56 h;rw[qPb] at hl;obtain⟨y0,y1,y2,y3,y4,y5,rfl⟩:=zCc (show xs.length=6 from hxl);obtain⟨c0,c1,c2,c3,c4,c5,c6,rfl⟩:=len7 hl;have h0:DataW.trod enc Tryz.prog w base spare held n' 3 (([c0,c1,c2,c3,c4,c5,c6].drop 0).take (Tryz.prog.cellsOf 3))=some y0:=hf 0 _ rfl;have h1:DataW.trod enc Tryz.prog w base spare held n' 3 (([c0,c1,c2,c3,c4,c5,c6].drop 1).take (Tryz.prog.cellsOf 3))=some y1:=hf 1 _ rfl;have h2:DataW.trod enc Tryz.prog w base spare held n' 3 (([c0,c1,c2,c3,c4,c5,c6].drop 2).take (Tryz.prog.cellsOf 3))=some y2:=hf 2 _ rfl;rw[qHh] at h0 h1 h2;have h3:DataW.trod enc Tryz.prog w base spare held n' 9 (([c0,c1,c2,c3,c4,c5,c6].drop 3).take (Tryz.prog.cellsOf 9))=some y3:=hf 3 _ rfl;rw[qJw] at h3;have h4:DataW.trod enc Tryz.prog w base spare held n' 33 (([c0,c1,c2,c3,c4,c5,c6].drop 4).take (Tryz.prog.cellsOf 33))=some y4:=hf 4 _ rfl;rw[qMw] at h4
 have h5:DataW.trod enc Tryz.prog w base spare held n' 39 (([c0,c1,c2,c3,c4,c5,c6].drop 6).take (Tryz.prog.cellsOf 39))=some y5:=hf 5 _ rfl;rw[qTz] at h5;obtain⟨m0,e0,_,w0⟩:=DataW.trod_int Tryz.underlying3 (show DataW.trod enc Tryz.prog w base spare held n' 3 [c0]=some y0 from h0);obtain⟨m1,e1,_,w1⟩:=DataW.trod_int Tryz.underlying3 (show DataW.trod enc Tryz.prog w base spare held n' 3 [c1]=some y1 from h1);obtain⟨m2,e2,_,w2⟩:=DataW.trod_int Tryz.underlying3 (show DataW.trod enc Tryz.prog w base spare held n' 3 [c2]=some y2 from h2);obtain⟨s,e3,_,ws⟩:=DataW.trod_string Tryz.underlying9 (show DataW.trod enc Tryz.prog w base spare held n' 9 [c3]=some y3 from h3);obtain⟨x,e4,hx⟩:=qZ7 (show DataW.trod enc Tryz.prog w base spare held n' 33 [c4,c5]=some y4 from h4);obtain⟨E,p,c,l,e5,ll,hc,kc,ok,ex⟩:=qD6 clV ClIn qYj (by omega) Tryz.underlying39 qHw (fun _ _ _ h=>qT1 h) (show DataW.trod enc Tryz.prog w base spare held n' 39 [c6]=some y5 from h5);obtain rfl:c0=.int .i64 m0:=by simpa using e0
 obtain rfl:c1=.int .i64 m1:=by simpa using e1
 obtain rfl:c2=.int .i64 m2:=by simpa using e2
 obtain rfl:c3=.string s:=by simpa using e3
 have e4':c4=.slice x.1.a x.1.n x.1.c∧c5=.slice x.1.b x.1.m x.1.d:=by simpa[schV] using e4
 obtain⟨rfl,rfl⟩:=e4';obtain rfl:c6=.slice E p c:=e5;exact⟨⟨m0,m1,m2,s,x.1,x.2,E,p,c,l⟩,rfl,I64.of w0,I64.of w1,I64.of w2,ws,hx,hc,kc,ll,ex,ok⟩
end
end Go.Proofs.YtainiaighnjpfaaGreatDoor
