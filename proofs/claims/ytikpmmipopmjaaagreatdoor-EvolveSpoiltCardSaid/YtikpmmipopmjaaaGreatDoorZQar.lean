/- The laid variables, as the cells' contracts ask them; a world for the witness. Two numbers among the arguments. What lies at an address lies at a plain one. -/
import Derived.Test.YtikpmmipopmjaaaGreatDoorZQf
import Derived.Test.YtikpmmipopmjaaaGreatDoorZQb
import Derived.Lib.LaidU8
import Derived.Lib.LaidTab
import Derived.Stop.LaidErr
import Derived.Deep.DeepHandedRow
import Derived.OpenShut
import Derived.ShutString
import Derived.ProofKit
import Derived.Test.YtikpmmipopmjaaaGreatDoorZQw
import Derived.Test.YtikpmmipopmjaaaGreatDoorZQq
set_option linter.unusedVariables false
namespace Go.Proofs.YtikpmmipopmjaaaGreatDoor
open Go.RowKit Go.Ms Go.Lib
theorem own:ownKnob Tryz.prog.godebug=none:=by kernel_rfl
theorem laidOut:laidOutB Tryz.prog=true:=by kernel_rfl
theorem qZs:U8Extra Tryz.prog Tryz.lays260_ren:={
  n3:=by kernel_rfl
  n4:=by kernel_rfl
  y3:=by kernel_rfl
  y4:=by kernel_rfl
  c5:=by kernel_rfl
  c119:=by kernel_rfl
  c138:=by kernel_rfl }
theorem qNu:Rows.laid_unicode_utf8_first=firstData:=by kernel_rfl
theorem qNk:(Rows.laid_unicode_utf8_acceptRanges:DataW Unit)=acceptData:=by kernel_rfl
theorem qTh:(Rows.laid_internal_strconv_uint64pow10:DataW Unit)=Lib.tabData .u64 Lib.pow10Tab:=by kernel_rfl
theorem qT5: "*errors.errorString"= "*"++ "errors.errorString":=by decide
theorem qZg (u:TypeId) (h:Tryz.prog.typeName? 3 u=some "*errors.errorString"):u=224:=
  typeName_ptr_named (nm:= "errors.errorString") (by rw[←qT5];kernel_rfl) (by kernel_rfl) (by decide) u (by rw[←qT5];exact h)
def qW4:List (String×DataW Unit):=[("math/bits.deBruijn32tab",Rows.laid_math_bits_deBruijn32tab),("math/bits.deBruijn64tab",Rows.laid_math_bits_deBruijn64tab),("internal/strconv.uint64pow10",Rows.laid_internal_strconv_uint64pow10),("unicode/utf8.acceptRanges",Rows.laid_unicode_utf8_acceptRanges),("strconv.ErrRange",Rows.laid_strconv_ErrRange),("strconv.ErrSyntax",Rows.laid_strconv_ErrSyntax),("unicode/utf8.first",Rows.laid_unicode_utf8_first)]
theorem qZa {W:World} (h:laidMetH Tryz.prog qW4 W) (hsh:W.ShapedOpen Tryz.prog):Env W:=by
 have h':laidMet Tryz.prog [("math/bits.deBruijn32tab",Rows.laid_math_bits_deBruijn32tab),("math/bits.deBruijn64tab",Rows.laid_math_bits_deBruijn64tab),("internal/strconv.uint64pow10",Rows.laid_internal_strconv_uint64pow10),("unicode/utf8.acceptRanges",Rows.laid_unicode_utf8_acceptRanges),("strconv.ErrRange",Rows.laid_strconv_ErrRange),("strconv.ErrSyntax",Rows.laid_strconv_ErrSyntax),("unicode/utf8.first",Rows.laid_unicode_utf8_first)] W:=h;have h2:=h'.tail.tail;have h4:=h2.tail.tail;refine⟨?_,?_,?_,?_,?_⟩
 · have h3:=laidMet.reads h' (n:= "unicode/utf8.first") (d:=Rows.laid_unicode_utf8_first) (by simp);have h5:=laidMet.reads h' (n:= "unicode/utf8.acceptRanges") (d:=Rows.laid_unicode_utf8_acceptRanges) (by simp);rw[qNu] at h3;rw[qNk] at h5;exact utf8Tabs_of_reads Tryz.lays260 qZs h3 h5
 · rw[qTh] at h2;exact Lib.tabIs_of_head (g:=5) (t:=228) (e:=172) (n:=20) (by kernel_rfl) (by kernel_rfl) (by kernel_rfl) (by kernel_rfl) (by kernel_rfl) (by kernel_rfl) h2
 · obtain⟨a,s,hv,_⟩:=laid_sentinel (ti:=98) (tp:=224) (te:=226) (ts:=9) (g:=3) h4.tail (by kernel_rfl) (by kernel_rfl) Tryz.underlying98 qZg Tryz.underlying224 Tryz.underlying226 rfl rfl Tryz.underlying9 (by kernel_rfl) (by kernel_rfl);exact⟨_,_,hv⟩
 · obtain⟨a,s,hv,_⟩:=laid_sentinel (ti:=98) (tp:=224) (te:=226) (ts:=9) (g:=4) h4 (by kernel_rfl) (by kernel_rfl) Tryz.underlying98 qZg Tryz.underlying224 Tryz.underlying226 rfl rfl Tryz.underlying9 (by kernel_rfl) (by kernel_rfl);exact⟨_,_,hv⟩
 · obtain⟨m,hm⟩:=Go.Proofs.cell_of_shapedOpen_int (P:=Tryz.prog) (g:=0) (zero:=#[.int .i64 0]) (t:=3) hsh (of_decide_eq_true (by kernel_rfl)) (by kernel_rfl) rfl (by kernel_rfl) (by kernel_rfl) Tryz.underlying3;exact⟨m,hm⟩
def putCells (cs:Array Value):Obj→Obj
  | .cells _ t frozen=>.cells cs t frozen
  |o=>o
def qVi:DataW Unit→Array Value
  | .agg l=>(l.map fun
    | .lit (.int k z)=>Value.int k z
    |_=>undef).toArray
  |_=>#[]
noncomputable def qTs:Nat:=(World.holding Tryz.prog default ⟨#[],#[],[]⟩).heap.size
def zA1:ByteArray:=⟨#[105,110,118,97,108,105,100,32,115,121,110,116,97,120]⟩
def zAq:ByteArray:=⟨#[118,97,108,117,101,32,111,117,116,32,111,102,32,114,97,110,103,101]⟩
noncomputable def qE9 (os:Os):World:=
  let w0:=World.holding Tryz.prog os ⟨#[.cells #[.string zA1] 226,.cells #[.string zAq] 226],#[],[]⟩
  { w0 with heap:=((((((w0.heap.modify 1 (putCells (firstTab.map (Value.int .u8)).toArray)).modify 2 (putCells ((List.range 16).flatMap fun i=>[Value.int .u8 (accLo i),Value.int .u8 (accHi i)]).toArray)).modify 5 (putCells (qVi Rows.laid_internal_strconv_uint64pow10))).modify 6 (putCells (qVi Rows.laid_math_bits_deBruijn32tab))).modify 7 (putCells (qVi Rows.laid_math_bits_deBruijn64tab))).modify 3 (putCells #[.iface 224 (.pointer (some ⟨qTs,0,none⟩))])).modify 4 (putCells #[.iface 224 (.pointer (some ⟨qTs+1,0,none⟩))]) }
end Go.Proofs.YtikpmmipopmjaaaGreatDoor
set_option linter.unusedSimpArgs false
namespace Go.Proofs.YtikpmmipopmjaaaGreatDoor
open Go.RowKit Go.Ms Go.Lib Go.ChangeShapes Go.WideShapes Go.Deep
section
variable {H:Type} {enc:TypeId×Value→H} {w:World} {base:Nat} {spare:Nat→Bool} {held:Bool}
set_option maxRecDepth 100000 in
theorem qRn {r:Reach} {b0:Nat} {v:Value} {d:DataW H} {p:List MemPlace} (hv:Value.okWide Tryz.prog w r b0 39 v) (h:DataW.Trod enc Tryz.prog w base spare held 39 v d p) :
    ∃a b:Int,v=.agg #[.int .i64 a,.int .i64 b]∧I64 a∧I64 b:=by
 simp only[Value.okWide,Tryz.underlying39] at hv;obtain⟨cs,rfl,hsz,_⟩:=hv
 obtain⟨c0,c1,rfl⟩:∃c0 c1,cs=#[c0,c1]:=by
  have h2:=hsz.trans (show Tryz.prog.cellsOf 39=2 by kernel_rfl);obtain⟨l⟩:=cs
  match l,h2 with
  |[a,b],_=>exact⟨a,b,rfl⟩
 obtain⟨fuel,hf⟩:=h;obtain⟨xs,n',_,_,hl,hxl,hf⟩:=DataW.trod_array Tryz.underlying39 (show DataW.trod enc Tryz.prog w base spare held fuel 39 [c0,c1]=some (d,p) from hf)
 obtain⟨y0,y1,rfl⟩:∃c0 c1,xs=[c0,c1]:=by
  match xs,hxl with
  |[a,b],_=>exact⟨a,b,rfl⟩
 have k0:=hf 0 (by omega);have k1:=hf 1 (by omega);rw[qFh] at k0 k1;obtain⟨m0,e0,_,w0⟩:=DataW.trod_int Tryz.underlying3 (show DataW.trod enc Tryz.prog w base spare held n' 3 [c0]=some y0 from k0);obtain⟨m1,e1,_,w1⟩:=DataW.trod_int Tryz.underlying3 (show DataW.trod enc Tryz.prog w base spare held n' 3 [c1]=some y1 from k1)
 obtain rfl:c0=.int .i64 m0:=by simpa using e0
 obtain rfl:c1=.int .i64 m1:=by simpa using e1
 exact⟨m0,m1,rfl,I64.of w0,I64.of w1⟩
end
end Go.Proofs.YtikpmmipopmjaaaGreatDoor
set_option linter.unusedSimpArgs false
namespace Go.Ms
open Go.RowKit Go.Lib
theorem qP1 {w:World} {B:Nat} {A:Option Addr} {xs:List Value} (h:Ext w B A xs):Lay w B A xs:=fun j u hu=>by
 have hl:j<xs.length:=(List.getElem?_eq_some_iff.1 hu).1;obtain⟨a,rfl,hb,h0⟩:=h 0 _ (List.getElem?_eq_getElem (by omega));obtain⟨_,e,_,hj⟩:=h j u hu
 cases e
 obtain⟨g,o,s⟩:=a
 have hs:s=none:=by
  cases s with
  |none=>rfl
  |some x=>
   exfalso
   have:(Addr.add ⟨g,o,some x⟩ 0)=⟨g,o,some x⟩:=rfl;rw[this] at h0;unfold World.cell? at h0
   split at h0
   · simp at h0
   · cases h0
 subst hs;refine⟨g,o,rfl,hb,?_⟩;rw[Addr.add_lit] at hj;exact hj
end Go.Ms
