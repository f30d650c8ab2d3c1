/- Evolve's laws: a list of schemas among the arguments, read as such. -/
import Derived.Test.YtikpmmipopmjaaaGreatDoorZQw
import Derived.Test.YtikpmmipopmjaaaGreatDoorZQaq
import Derived.Test.YtikpmmipopmjaaaGreatDoorZQar
set_option linter.unusedVariables false
set_option linter.unusedSimpArgs false
namespace Go.Ms
open Go.RowKit Go.Lib
def schV (x:SRef×Sc):List Value:=[.slice x.1.a x.1.n x.1.c,.slice x.1.b x.1.m x.1.d]
theorem qWq (x:SRef×Sc):(schV x).length=2:=rfl
def zAi (w:World) (x:SRef×Sc):Prop:=qJ0 w x.1.a x.1.n x.1.c x.2.1 x.1.b x.1.m x.1.d x.2.2
theorem qXe (l:List (SRef×Sc)):l.flatMap schV=scsV (l.map Prod.fst):=by
 unfold scsV;rw[List.flatMap_map];rfl
theorem qGd.of {w:World} {A:Option Addr} {n c:Nat} {l:List (SRef×Sc)} (hc:n≤c) (kc:c≤maxLen) (ll:l.length=n) (ex:Ext w w.heap.size A (l.flatMap schV)) (ok:∀x∈l,zAi w x):qGd w A n c l:=
  ⟨hc,kc,ll,by rw[←qXe];exact qP1 ex,ok⟩
end Go.Ms
namespace Go.Proofs.YtikpmmipopmjaaaGreatDoor
open Go.RowKit Go.Ms Go.Lib Go.ChangeShapes Go.WideShapes Go.Deep
section
variable {H:Type} {enc:TypeId×Value→H} {w:World} {base:Nat} {spare:Nat→Bool} {held:Bool}
theorem qOl:Tryz.prog.cellsOf 25=2:=by kernel_rfl
theorem qTo:Tryz.prog.cellsOf 22=1:=by kernel_rfl
theorem qUk:Tryz.prog.cellsOf 23=1:=by kernel_rfl
set_option maxRecDepth 100000 in
theorem zBt {n:Nat} {cs':List Value} {y:DataW H×List MemPlace} (h:DataW.trod enc Tryz.prog w base spare held n 25 cs'=some y):∃x:SRef×Sc,cs'=schV x∧zAi w x:=by
 obtain⟨xs,n',_,_,hl,hxl,hf⟩:=DataW.trod_struct Tryz.underlying25 h;rw[qOl] at hl;obtain⟨y0,y1,rfl⟩:=len2 (show xs.length=2 from hxl);obtain⟨c0,c1,rfl⟩:=len2 hl;have h0:DataW.trod enc Tryz.prog w base spare held n' 22 (([c0,c1].drop 0).take (Tryz.prog.cellsOf 22))=some y0:=hf 0 _ rfl;rw[qTo] at h0;have h1:DataW.trod enc Tryz.prog w base spare held n' 23 (([c0,c1].drop 1).take (Tryz.prog.cellsOf 23))=some y1:=hf 1 _ rfl;rw[qUk] at h1
 obtain⟨A,n,c,l,e0,ll,hc,kc,ok,ex⟩:=qD0 coV qSl qPf (by omega) Tryz.underlying22 qN7 (fun _ _ _ h=>zCr h) (show DataW.trod enc Tryz.prog w base spare held n' 22 [c0]=some y0 from h0);obtain⟨B,m,d,lb,e1,llb,hcb,kcb,okb,exb⟩:=qD0 oneI I64 qRp (by omega) Tryz.underlying23 qFh (fun _ _ _ h=>qZe h) (show DataW.trod enc Tryz.prog w base spare held n' 23 [c1]=some y1 from h1);obtain rfl:c0=.slice A n c:=e0;obtain rfl:c1=.slice B m d:=e1
 exact⟨(⟨A,n,c,B,m,d⟩,(l,lb)),rfl,hc,kc,ll,ex,hcb,kcb,llb,qRr exb,ok⟩
end
end Go.Proofs.YtikpmmipopmjaaaGreatDoor
