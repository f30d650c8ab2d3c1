/- Facts for the walks. -/
import Derived.Test.YtainiaighnjpfaaGreatDoorZQd
import Derived.MapKept
import Derived.StillTailTactics
set_option maxHeartbeats 4000000
set_option linter.unusedVariables false
namespace Go.Proofs.YtainiaighnjpfaaGreatDoor
open Go.RowKit Go.Ms Go.Lib
theorem zB9 (s:ByteArray):qC2 s.data.toList=if (decodeGo s).1=65533∧(decodeGo s).2<2 then (0,0,false) else ((decodeGo s).1,(decodeGo s).2,true):=by
 unfold qC2 decodeGo decodeL;have hs:(⟨s.data.toList.toArray⟩:ByteArray)=s:=by cases s;simp
 rw[hs];by_cases h:s.size=0
 · have:s.data.toList=[]:=List.eq_nil_of_length_eq_zero (by rw[←Lib.size_eq];exact h);rw[if_pos this,if_pos h,if_pos ⟨rfl,by decide⟩]
 · have:s.data.toList≠[]:=by intro e;apply h;rw[Lib.size_eq,e];rfl
   rw[if_neg this,if_neg h]
theorem qU4 (s:ByteArray) (w:World) (hT:Tabs w) :
    Calls Tryz.prog 249 #[.string s] w fun e w'=>e=.returned (.tuple #[.int .i32 (qC2 s.data.toList).1,.int .i64 (qC2 s.data.toList).2.1,.bool (qC2 s.data.toList).2.2])∧Below w.heap.size w w':=by
 have cd:=Tryz.utf8_DecodeRuneInString s w hT;rw[zB9];generalize (decodeGo s).1=r at *; generalize (decodeGo s).2=n at *; by_cases h:r=65533∧n<2
 · obtain⟨rfl,hn⟩:=h;have hn':(n:Int)<2:=by omega
   rw[if_pos ⟨rfl,hn⟩];go_enter Tryz.func249,Tryz.ntmps249;go_wp2_with (go_at_call 132;refine cd.mono ?_;rintro e w' ⟨rfl,hb⟩)
   go_ret3
   exact⟨rfl,hb⟩
 · rw[if_neg h];by_cases hr:r=65533
   · have hn':¬(n:Int)<2:=by omega
     subst hr;go_enter Tryz.func249,Tryz.ntmps249;go_wp2_with (go_at_call 132;refine cd.mono ?_;rintro e w' ⟨rfl,hb⟩)
     go_ret3
     exact⟨rfl,hb⟩
   · have hr':((r:Int)==65533)=false:=by simp;omega
     go_enter Tryz.func249,Tryz.ntmps249;go_wp2_with (go_at_call 132;refine cd.mono ?_;rintro e w' ⟨rfl,hb⟩)
     go_ret3
     exact⟨rfl,hb⟩
theorem qJs (s:ByteArray) (w:World) (hs:s.size≤9223372036854775807) (hT:Tabs w) :
    Calls Tryz.prog 157 #[.string s] w fun e w'=>e=.returned (.bool (validD s.data.toList))∧Below w.heap.size w w':=by
 go_enter Tryz.func157,Tryz.ntmps157;go_wp2_with (go_at_call 197;refine(Tryz.utf8_ValidString _ _ hs hT).mono ?_;rintro e w' ⟨rfl,hb⟩)
 go_ret;exact⟨rfl,hb⟩
theorem qBq (b:Nat) (s:ByteArray) (p:Nat) (e x:Int) (w:World) (h:Tri 263 b (.string s) (.int .i64 p) (.int .i64 e) w) :
    Calls Tryz.prog 230 #[.pointer (some ⟨b,0,none⟩),.int .i64 x] w (RdP 263 b s p (qCa e x) (.tuple #[]) w):=by
 have c2:=h.c2;have f2:=h.fr 2;by_cases he:e=0
 · subst he;go_enter Tryz.func230,Tryz.ntmps230;go_wp2
   go_end0;exact⟨rfl,h.set2 _,(Kept.refl b w).setCell (p:=⟨b,2,none⟩) rfl _⟩
 · have he':(e==0)=false:=by simpa using he
   have hx:qCa e x=e:=by unfold qCa;rw[if_neg he]
   rw[hx];clear hx;go_enter Tryz.func230,Tryz.ntmps230;go_wp2
   go_end0;exact⟨rfl,h,Kept.refl _ _⟩
theorem qL4 (b:Nat) (s:ByteArray) (p:Nat) (e:Int) (w:World) (hp:p≤s.size) (hs:s.size≤1000000) (h:Tri 263 b (.string s) (.int .i64 p) (.int .i64 e) w) :
    Calls Tryz.prog 247 #[.pointer (some ⟨b,0,none⟩)] w (RdP 263 b s (qAt s.data.toList p e).2.1 (qAt s.data.toList p e).2.2 (.int .u8 (qAt s.data.toList p e).1) w):=by
 have c0:=h.c0;have c1:=h.c1;have c2:=h.c2;have f1:=h.fr 1;have f2:=h.fr 2;have hl:s.data.toList.length=s.size:=by simp
 by_cases he:e=0
 · subst he;by_cases hp2:p=s.size
   · have hz:((p:Int)==(s.size:Int))=true:=by simp;omega
     have hx:qAt s.data.toList p 0=(0,p,3):=by unfold qAt;rw[if_pos rfl,if_pos (by omega)]
     rw[hx];clear hx hl hp2;go_enter Tryz.func247,Tryz.ntmps247;go_wp2_with fail
     go_quiet (fail)
     go_wp2_with fail
     refine(qBq b s p 0 3 _ (by exact h)).mono ?_;rintro en w' ⟨rfl,h1,k1⟩;go_wp2
     go_ret;exact⟨rfl,h1,⟨k1.os,k1.tape,k1.output,k1.size,k1.block⟩⟩
   · have hz:((p:Int)==(s.size:Int))=false:=by simp;omega
     have hlt:p<s.size:=by omega
     have hlt2:(p:Int)<(s.size:Int):=by omega
     have hx:qAt s.data.toList p 0=(((bt s.data.toList p:Nat):Int),p+1,(0:Int)):=by unfold qAt;rw[if_pos rfl,if_neg (by omega)]
     have g0:(s[p]'hlt).toNat=bt s.data.toList p:=by rw[qCy];rfl
     have hb0:=qD1 s.data.toList p;rw[hx];generalize bt s.data.toList p=x at *; clear hx hl hp2;go_enter Tryz.func247,Tryz.ntmps247;go_wp2_with fail
     go_quiet (fail)
     go_wp2_with fail
     go_quiet (fail)
     go_wp2_with fail
     go_ret;refine⟨rfl,?_,?_⟩
     · exact((h.drewN _).set1 (.int .i64 ((p+1:Nat):Int))).drewN _
     · exact(((Kept.refl b w).drewN _).setCell (p:=⟨b,1,none⟩) rfl _).drewN _
 · have he':(e==0)=false:=by simpa using he
   have he2:(e != 0)=true:=by simpa using he
   have hx:qAt s.data.toList p e=(0,p,e):=by unfold qAt;rw[if_neg he]
   rw[hx];clear hx;go_enter Tryz.func247,Tryz.ntmps247;go_wp2
   go_ret;exact⟨rfl,h,Kept.refl _ _⟩
theorem qWw:∀c:Fin 256,hexv ((c.val:Nat):Int)=if Lib.indexByte [48,49,50,51,52,53,54,55,56,57,97,98,99,100,101,102] (bits .or .u8 ((c.val:Nat):Int) 32).toNat.toUInt8<0∨((c.val:Nat):Int)<48∨(57<((c.val:Nat):Int)∧((c.val:Nat):Int)<65) then 16 else Lib.indexByte [48,49,50,51,52,53,54,55,56,57,97,98,99,100,101,102] (bits .or .u8 ((c.val:Nat):Int) 32).toNat.toUInt8:=by
 decide +kernel
theorem qW7:∀c:Fin 256,Lib.indexByte [48,49,50,51,52,53,54,55,56,57,97,98,99,100,101,102] (bits .or .u8 ((c.val:Nat):Int) 32).toNat.toUInt8<16:=by
 decide +kernel
theorem qL0 (b:Nat) (s:ByteArray) (p:Nat) (e c:Int) (w:World) (hp:p≤s.size) (hs:s.size≤1000000) (h:Tri 263 b (.string s) (.int .i64 p) (.int .i64 e) w) :
    Calls Tryz.prog 229 #[.pointer (some ⟨b,0,none⟩),.int .u8 c] w (RdP 263 b s (qBd s.data.toList c p e).1 (qBd s.data.toList c p e).2 (.tuple #[]) w):=by
 have ct:=qL4 b s p e w hp hs h;obtain⟨g,hg⟩:∃g,(qAt s.data.toList p e).1=g:=⟨_,rfl⟩;rw[hg] at ct;by_cases hc:g=c
 · have hx:qBd s.data.toList c p e=((qAt s.data.toList p e).2.1,(qAt s.data.toList p e).2.2):=by unfold qBd;rw[hg,if_pos hc]
   rw[hx];subst hc;clear hx hg;go_enter Tryz.func229,Tryz.ntmps229;go_wp2_with (go_at_call 247;refine ct.mono ?_;rintro en w' ⟨rfl,h1,k1⟩)
   go_end0;exact⟨rfl,h1,k1⟩
 · have hx:qBd s.data.toList c p e=((qAt s.data.toList p e).2.1,qCa (qAt s.data.toList p e).2.2 41):=by unfold qBd;rw[hg,if_neg hc]
   rw[hx];have hc2:(g != c)=true:=by simpa using hc
   have hc3:(g==c)=false:=by simpa using hc
   clear hx hg hc;go_enter Tryz.func229,Tryz.ntmps229;go_wp2_with (go_at_call 247;refine ct.mono ?_;rintro en w' ⟨rfl,h1,k1⟩)
   refine(qBq b s _ _ 41 _ h1).mono ?_;rintro en w2 ⟨rfl,h2,k2⟩;go_wp2_with fail
   go_end0;exact⟨rfl,h2,k1.trans k2⟩
theorem qHo (b:Nat) (s:ByteArray) (p:Nat) (e:Int) (w:World) (hp:p≤s.size) (hs:s.size≤1000000) (h:Tri 263 b (.string s) (.int .i64 p) (.int .i64 e) w) :
    Calls Tryz.prog 259 #[.pointer (some ⟨b,0,none⟩)] w (RdP 263 b s (qA3 s.data.toList p e).2.1 (qA3 s.data.toList p e).2.2 (.int .i64 (qA3 s.data.toList p e).1) w):=by
 have ct:=qL4 b s p e w hp hs h;obtain⟨g,hg⟩:∃g,(qAt s.data.toList p e).1=g:=⟨_,rfl⟩;have hb:=qMz s.data.toList p e;rw[hg] at ct hb;have hix:=qWw ⟨g.toNat,by omega⟩;have hgn:((g.toNat:Nat):Int)=g:=by omega
 have hlt:=qW7 ⟨g.toNat,by omega⟩;simp only[hgn] at hix hlt;have ci:=fun w=>Tryz.strings_IndexByte ⟨#[48,49,50,51,52,53,54,55,56,57,97,98,99,100,101,102]⟩ (bits .or .u8 g 32) w
 obtain⟨k,hk⟩:∃k,Lib.indexByte [48,49,50,51,52,53,54,55,56,57,97,98,99,100,101,102] (bits .or .u8 g 32).toNat.toUInt8=k:=⟨_,rfl⟩;simp only[hk] at ci hix hlt;have Hix:=hh_ hix;have Hg:=hh_ hg;have Ci:=hh_ ci;clear hix hk hgn hg ci;have no:hexv g=16→qA3 s.data.toList p e=(0,(qAt s.data.toList p e).2.1,qCa (qAt s.data.toList p e).2.2 41):=fun hh=>by unfold qA3;rw[Hg.out,if_pos hh]
 have yes:¬hexv g=16→qA3 s.data.toList p e=(hexv g,(qAt s.data.toList p e).2.1,(qAt s.data.toList p e).2.2):=fun hh=>by unfold qA3;rw[Hg.out,if_neg hh]
 have hv:=qS0 g;by_cases hc:k<0∨g<48∨(57<g∧g<65)
 · have hh:=Hix.out;rw[if_pos hc] at hh;rw[no hh];clear yes no hh hv hlt;by_cases c1:k<0
   · clear hc;go_enter Tryz.func259,Tryz.ntmps259;go_wp2_with (first|(go_at_call 247;refine ct.mono ?_;rintro en w' ⟨rfl,h1,k1⟩)|(go_at_call 120;refine(Ci.out _).mono ?_;rintro en w2 ⟨rfl,rfl⟩))
     refine(qBq b s _ _ 41 _ h1).mono ?_;rintro en w2 ⟨rfl,h2,k2⟩;go_wp2_with fail
     go_ret;exact⟨rfl,h2,k1.trans k2⟩
   by_cases c2:g<48
   · clear hc;go_enter Tryz.func259,Tryz.ntmps259;go_wp2_with (first|(go_at_call 247;refine ct.mono ?_;rintro en w' ⟨rfl,h1,k1⟩)|(go_at_call 120;refine(Ci.out _).mono ?_;rintro en w2 ⟨rfl,rfl⟩))
     refine(qBq b s _ _ 41 _ h1).mono ?_;rintro en w2 ⟨rfl,h2,k2⟩;go_wp2_with fail
     go_ret;exact⟨rfl,h2,k1.trans k2⟩
   · have c3:57<g:=by omega
     have c4:g<65:=by omega
     clear hc;go_enter Tryz.func259,Tryz.ntmps259;go_wp2_with (first|(go_at_call 247;refine ct.mono ?_;rintro en w' ⟨rfl,h1,k1⟩)|(go_at_call 120;refine(Ci.out _).mono ?_;rintro en w2 ⟨rfl,rfl⟩))
     refine(qBq b s _ _ 41 _ h1).mono ?_;rintro en w2 ⟨rfl,h2,k2⟩;go_wp2_with fail
     go_ret;exact⟨rfl,h2,k1.trans k2⟩
 · have hh:=Hix.out;rw[if_neg hc] at hh;have c1:¬k<0:=by omega
   have c2:¬g<48:=by omega
   have hk16:¬hexv g=16:=by omega
   rw[yes hk16,hh];clear yes no hh hv hk16 hlt;by_cases c3:57<g
   · have c4:¬g<65:=by omega
     clear hc;go_enter Tryz.func259,Tryz.ntmps259;go_wp2_with (first|(go_at_call 247;refine ct.mono ?_;rintro en w' ⟨rfl,h1,k1⟩)|(go_at_call 120;refine(Ci.out _).mono ?_;rintro en w2 ⟨rfl,rfl⟩))
     go_ret;exact⟨rfl,h1,k1⟩
   · clear hc;go_enter Tryz.func259,Tryz.ntmps259;go_wp2_with (first|(go_at_call 247;refine ct.mono ?_;rintro en w' ⟨rfl,h1,k1⟩)|(go_at_call 120;refine(Ci.out _).mono ?_;rintro en w2 ⟨rfl,rfl⟩))
     go_ret;exact⟨rfl,h1,k1⟩
open Go.MapKept
def es1:Array MapEntry:=#[{ key:=.int .i32 34,val:=.int .u8 34,born:=0 }]
def es2:Array MapEntry:=es1.push { key:=.int .i32 92,val:=.int .u8 92,born:=1 }
def es3:Array MapEntry:=es2.push { key:=.int .i32 8,val:=.int .u8 98,born:=2 }
def es4:Array MapEntry:=es3.push { key:=.int .i32 12,val:=.int .u8 102,born:=3 }
def es5:Array MapEntry:=es4.push { key:=.int .i32 10,val:=.int .u8 110,born:=4 }
def es6:Array MapEntry:=es5.push { key:=.int .i32 13,val:=.int .u8 114,born:=5 }
def es7:Array MapEntry:=es6.push { key:=.int .i32 9,val:=.int .u8 116,born:=6 }
theorem qOa (w:World) (o o':Obj):({ w.alloc o with heap:=(w.alloc o).heap.setIfInBounds w.heap.size o' }:World)=w.alloc o':=by
 show({ w.alloc o with heap:=(w.heap.push o).setIfInBounds w.heap.size o' }:World)=_
 have:(w.heap.push o).setIfInBounds w.heap.size o'=w.heap.push o':=by
  apply Array.ext_getElem?;intro i;simp only[Array.getElem?_setIfInBounds,Array.getElem?_push,Array.size_push];by_cases h:i=w.heap.size
  · subst h;simp
  · simp[h,Ne.symm h]
 rw[this];rfl
theorem qJd (k:IntKind) (n:Int):IsKey (.int k) (.int k n):=rfl
theorem qGe (w:World) (n:Nat) (hn:n=w.heap.size) (es:Array MapEntry) (clock:Nat) (k v:Int) (hf:Instr.findNow (.int .i32) (.int .i32 k) es.toList 0=some none) :
    (Instr.mapUpdate 257 (.map (some n)) (.int .i32 k) (.int .u8 v)).run Tryz.prog (w.alloc (.map es clock))=.ok () (w.alloc (.map (es.push { key:=.int .i32 k,val:=.int .u8 v,born:=clock }) (clock+1))):=by
 subst hn;have hg:(w.alloc (.map es clock)).heap[w.heap.size]?=some (.map es clock):=heap_alloc_new w _;have hk:=run_findKey (P:=Tryz.prog) (w:=w.alloc (.map es clock)) (kt:=21) (k:=.int .i32 k) (l:=es.toList) (a:=none) Tryz.underlying21 hf;have hc:=run_checkKey (P:=Tryz.prog) (w:=w.alloc (.map es clock)) (kt:=21) (k:=.int .i32 k) Tryz.underlying21 (qJd .i32 k) false 9999;simp only[Instr.mapUpdate,Sem.run_bind,run_underlying Tryz.underlying257,Result.andThen,MapKept.run_getObj_map hg,hc,hk,MapKept.run_setObj_map _ hg];rw[qOa]
theorem qM4 (w:World) :
    Calls Tryz.prog 227 #[] w fun e w'=>e=.returned (.map (some w.heap.size))∧w.alloc (.map es7 7)=w':=by
 have hmm:=@run_makeMap Tryz.prog;have i1:∀(w:World) (n:Nat),n=w.heap.size→(Instr.mapUpdate 257 (.map (some n)) (.int .i32 34) (.int .u8 34)).run Tryz.prog (w.alloc (.map #[] 0))=.ok () (w.alloc (.map es1 1)):=fun w n hn=>qGe w n hn #[] 0 34 34 rfl
 have i2:∀(w:World) (n:Nat),n=w.heap.size→(Instr.mapUpdate 257 (.map (some n)) (.int .i32 92) (.int .u8 92)).run Tryz.prog (w.alloc (.map es1 1))=.ok () (w.alloc (.map es2 2)):=fun w n hn=>qGe w n hn es1 1 92 92 rfl
 have i3:∀(w:World) (n:Nat),n=w.heap.size→(Instr.mapUpdate 257 (.map (some n)) (.int .i32 8) (.int .u8 98)).run Tryz.prog (w.alloc (.map es2 2))=.ok () (w.alloc (.map es3 3)):=fun w n hn=>qGe w n hn es2 2 8 98 rfl
 have i4:∀(w:World) (n:Nat),n=w.heap.size→(Instr.mapUpdate 257 (.map (some n)) (.int .i32 12) (.int .u8 102)).run Tryz.prog (w.alloc (.map es3 3))=.ok () (w.alloc (.map es4 4)):=fun w n hn=>qGe w n hn es3 3 12 102 rfl
 have i5:∀(w:World) (n:Nat),n=w.heap.size→(Instr.mapUpdate 257 (.map (some n)) (.int .i32 10) (.int .u8 110)).run Tryz.prog (w.alloc (.map es4 4))=.ok () (w.alloc (.map es5 5)):=fun w n hn=>qGe w n hn es4 4 10 110 rfl
 have i6:∀(w:World) (n:Nat),n=w.heap.size→(Instr.mapUpdate 257 (.map (some n)) (.int .i32 13) (.int .u8 114)).run Tryz.prog (w.alloc (.map es5 5))=.ok () (w.alloc (.map es6 6)):=fun w n hn=>qGe w n hn es5 5 13 114 rfl
 have i7:∀(w:World) (n:Nat),n=w.heap.size→(Instr.mapUpdate 257 (.map (some n)) (.int .i32 9) (.int .u8 116)).run Tryz.prog (w.alloc (.map es6 6))=.ok () (w.alloc (.map es7 7)):=fun w n hn=>qGe w n hn es6 6 9 116 rfl
 go_enter Tryz.func227,Tryz.ntmps227;go_wp2
 go_ret;exact⟨rfl,rfl⟩
theorem zA2 (r:Int):Instr.findNow (.int .i32) (.int .i32 r) es7.toList 0=some (match esc2 r with|some c=>(some ((if r=34 then 0 else if r=92 then 1 else if r=8 then 2 else if r=12 then 3 else if r=10 then 4 else if r=13 then 5 else 6:Nat),.int .u8 c))|none=>none):=by
 unfold esc2;by_cases h1:r=34
 · subst h1;rfl
 by_cases h2:r=92
 · subst h2;rfl
 by_cases h3:r=8
 · subst h3;rfl
 by_cases h4:r=12
 · subst h4;rfl
 by_cases h5:r=10
 · subst h5;rfl
 by_cases h6:r=13
 · subst h6;rfl
 by_cases h7:r=9
 · subst h7;rfl
 · have b1:(r==34)=false:=by simpa using h1
   have b2:(r==92)=false:=by simpa using h2
   have b3:(r==8)=false:=by simpa using h3
   have b4:(r==12)=false:=by simpa using h4
   have b5:(r==10)=false:=by simpa using h5
   have b6:(r==13)=false:=by simpa using h6
   have b7:(r==9)=false:=by simpa using h7
   simp[h1,h2,h3,h4,h5,h6,h7,b1,b2,b3,b4,b5,b6,b7,es7,es6,es5,es4,es3,es2,es1,Instr.findNow,Instr.sameNow]
theorem qUq (w:World) (m:Nat) (r c:Int) (hm:w.heap[m]?=some (.map es7 7)) (hr:esc2 r=some c) :
    (Instr.lookup 257 (.map (some m)) (.int .i32 r) true).run Tryz.prog w=.ok (.tuple #[.int .u8 c,.bool true]) w:=by
 have hf:=zA2 r;rw[hr] at hf;have hk:=run_findKey (P:=Tryz.prog) (w:=w) (kt:=21) (k:=.int .i32 r) (l:=es7.toList) Tryz.underlying21 hf;have hc:=run_checkKey (P:=Tryz.prog) (w:=w) (kt:=21) (k:=.int .i32 r) Tryz.underlying21 (qJd .i32 r) es7.isEmpty 9999;have hg:=MapKept.run_getObj_map (P:=Tryz.prog) hm;simp only[Instr.lookup,Sem.run_bind,run_underlying Tryz.underlying257,Result.andThen,hg,hc,hk,Sem.run_pure,if_true]
theorem qUw (w:World) (m:Nat) (r:Int) (hm:w.heap[m]?=some (.map es7 7)) (hr:esc2 r=none) :
    (Instr.lookup 257 (.map (some m)) (.int .i32 r) true).run Tryz.prog w=.ok (.tuple #[.int .u8 0,.bool false]) w:=by
 have hf:=zA2 r;rw[hr] at hf;have hk:=run_findKey (P:=Tryz.prog) (w:=w) (kt:=21) (k:=.int .i32 r) (l:=es7.toList) Tryz.underlying21 hf;have hc:=run_checkKey (P:=Tryz.prog) (w:=w) (kt:=21) (k:=.int .i32 r) Tryz.underlying21 (qJd .i32 r) es7.isEmpty 9999;have hg:=MapKept.run_getObj_map (P:=Tryz.prog) hm;simp only[Instr.lookup,Sem.run_bind,run_underlying Tryz.underlying257,Result.andThen,hg,hc,hk,Sem.run_pure,if_true,Tryz.zeroValue5]
theorem qY2:∀k:Fin 16,(⟨#[48,49,50,51,52,53,54,55,56,57,97,98,99,100,101,102]⟩:ByteArray).extract k.val (k.val+1)=⟨#[hexd k.val]⟩:=by decide
theorem qE9 (a b:ByteArray):strCells (a++b)=strCells a++strCells b:=by
 unfold strCells;rw[ByteArray.data_append,Array.toList_append,List.map_append]
theorem qDj (l:Array UInt8):strCells ⟨l⟩=Lib.byteCells l.toList:=rfl
theorem zB4:∀k:Fin 32,bits .and .i32 ((k.val:Nat):Int) 15=((k.val%16:Nat):Int):=by decide
theorem qX4 (x:Int) (h0:0≤x) (h1:x<16):(⟨#[48,49,50,51,52,53,54,55,56,57,97,98,99,100,101,102]⟩:ByteArray).extract x.toNat (x+1).toNat=⟨#[hexd x.toNat]⟩:=by
 have:=qY2 ⟨x.toNat,by omega⟩;rw[show(x+1).toNat=x.toNat+1 by omega];exact this
set_option maxRecDepth 100000 in
theorem qWy (s:ByteArray) (w:World) (hs:s.size≤1000000) (hv:validD s.data.toList=true) (hT:Tabs w) :
    Calls Tryz.prog 198 #[.string s] w fun e w'=>e=.returned (.tuple #[.string ⟨(qK0 s.data.toList).toArray⟩,.int .i64 0])∧Below w.heap.size w w':=by
 have hl:s.data.toList.length=s.size:=by simp
 have cv:=qJs s w (by omega) hT;rw[hv] at cv;have Hv:=hh_ hv;clear hv;go_enter Tryz.func198,Tryz.ntmps198;go_wp2_with fail
 refine cv.mono ?_;rintro en w1 ⟨rfl,hb1⟩;go_wp2_with fail
 have hB0:IsBuilderF 190 5 w1.heap.size w1.heap.size [] (w1.alloc (.cells #[.pointer none,.slice none 0 0] 190)):=IsBuilderF.of (Lib.fresh_isBuilder 190 5 w1);refine(qMs w1.heap.size w1.heap.size [] 34 _ hB0 (by simp) (by simp)).mono ?_;rintro en w2 ⟨rfl,hI2,hb2,ho2⟩;go_wp2_with fail
 refine(qM4 w2).mono ?_;rintro en w3 ⟨rfl,rfl⟩;go_wp2_with fail
 have hsz2:w1.heap.size+1≤w2.heap.size:=by have:=hb2.size;simpa using this
 have hbw:Below w.heap.size w w2:=hb1.trans ((br_.alloc (by have:=hb1.size;omega) _).trans (hb2.mono hb1.size));have hI3:=qTu hI2 (((Below.refl _ w2).alloc le_ (.map es7 7)).trans (((Below.refl w2.heap.size (w2.alloc (.map es7 7))).alloc (by simp) (.stringIter s 0))));have hwB:=hb1.size
 have hm0:((w2.alloc (.map es7 7)).iter s 0).heap[w2.heap.size]?=some (.map es7 7):=by
  show((w2.heap.push _).push _)[w2.heap.size]?=_
  rw[Array.getElem?_push,if_neg (by simp)];simp
 have hi0:((w2.alloc (.map es7 7)).iter s 0).heap[w2.heap.size+1]?=some (.stringIter s 0):=by
  show((w2.heap.push _).push _)[w2.heap.size+1]?=_
  rw[Array.getElem?_push,if_pos (by simp)]
 have hbi:Below w.heap.size w ((w2.alloc (.map es7 7)).iter s 0):=(hbw.alloc (by omega) _).alloc (by simp;omega) _;clear cv hb2 ho2 hB0 hI2 hbw hb1
 go_loopw [] (fun wr=> ∃(pos:Nat) (acc:Bs),IsBuilderF 190 5 w1.heap.size w1.heap.size (Lib.byteCells acc) wr∧wr.heap[w2.heap.size]?=some (.map es7 7)∧wr.heap[w2.heap.size+1]?=some (.stringIter s pos)∧Below w.heap.size w wr∧pos≤s.size∧acc.length≤6*pos+1∧Hid (acc++(s.data.toList.drop pos).flatMap qb=34::s.data.toList.flatMap qb)∧Hid (validD (s.data.toList.drop pos)=true))
   (fun wr=>s.size-wr.iterPos (w2.heap.size+1))
 case atStart=>exact⟨0,[34],hI3,hm0,hi0,hbi,by omega,by simp,rfl,Hv.out⟩
 case round=>
  obtain⟨pos,acc,hI,hm,hi,hbr,hpl,hal,hacc,hval⟩:=hrel;have hszr:w2.heap.size+1<wr.heap.size:=(Array.getElem?_eq_some_iff.1 hi).1;by_cases hp:pos<s.size
  · obtain⟨r,hr1,hr2,hr3,hr4⟩:=qN8 (s.data.toList.drop pos) (by intro e;have:=congrArg List.length e;simp at this;omega) hval.out;have hd:Utf8.decode s pos=(r.toNat,(encodeRune r).length):=by rw[qOm];exact qVk _ r (by intro e;have:=congrArg List.length e;simp at this;omega) hr2
    have hrb:=(qA4 r).1 hr1;have hel:=qAz r
    have hfit:pos+(encodeRune r).length≤s.size:=by
     have:=congrArg List.length hr3;simp at this;omega
    have hnx:∀ty,(Instr.next (.pointer (some ⟨w2.heap.size+1,0,none⟩)) true ty).run Tryz.prog wr=.ok (.tuple #[.bool true,.int .i64 pos,.int .i32 r]) (wr.iterAt (w2.heap.size+1) s (pos+(encodeRune r).length)):=fun ty=>by
     rw[Lib.run_next_any_at wr (w2.heap.size+1) s pos ty hi hp,hd];simp only[qHs hr1]
    have hI1:=hI.iterAt hi (pos+(encodeRune r).length);have hm1:(wr.iterAt (w2.heap.size+1) s (pos+(encodeRune r).length)).heap[w2.heap.size]?=some (.map es7 7):=by rw[iterAt_other _ _ _ _ _ (by omega)];exact hm
    have hi1:=Lib.iterAt_heap wr (w2.heap.size+1) s pos (pos+(encodeRune r).length) hi;have hbr1:=Lib.below_iterAt hbr (k:=w2.heap.size+1) (by omega) s (pos+(encodeRune r).length);have hsz1:w1.heap.size≤(wr.iterAt (w2.heap.size+1) s (pos+(encodeRune r).length)).heap.size:=by rw[Lib.iterAt_size];omega
    have hstep:∀piece:Bs,(encodeRune r).flatMap qb=piece→(acc++piece)++(s.data.toList.drop (pos+(encodeRune r).length)).flatMap qb=34::s.data.toList.flatMap qb:=by
     intro piece hpc;rw[←hacc.out,hr3,List.flatMap_append,hpc,List.append_assoc,List.drop_drop]
    have hval1:validD (s.data.toList.drop (pos+(encodeRune r).length))=true:=by rw[←List.drop_drop];exact hr4
    generalize wr.iterAt (w2.heap.size+1) s (pos+(encodeRune r).length)=W1 at *; have Hstep:=hh_ hstep;have Hval1:=hh_ hval1;have Hr1:=hh_ hr1;have Hd:=hh_ hd;clear hstep hval1 hr2 hr3 hr4 hd hr1 hacc hval
    cases hes:esc2 r with
    | some c=>
     have hlk:=qUq W1 w2.heap.size r c hm1 hes
     have hcb:0≤c∧c<128:=by
      unfold esc2 at hes;repeat' split at hes
      all_goals first|(cases hes;done)|(injection hes with h;omega)
     obtain⟨hc0,hc1⟩:=hcb
     have hen:Utf8.encode c=⟨#[c.toNat.toUInt8]⟩:=by
      unfold Utf8.encode Utf8.valid;simp[show c<55296 by omega,hc0,show c.toNat<128 by omega]
     have hz1:(Utf8.encode c).size=1:=by rw[hen];rfl
     have Hen:=hh_ hen;have Hes:=hh_ hes;clear hes hen;go_wp2_with fail
     refine(qIu w1.heap.size w1.heap.size _ _ _ hI1 (by rw[Lib.byteCells_length,ByteArray.size_append,hz1];have h92:(⟨#[92]⟩:ByteArray).size=1:=rfl;omega) hsz1).mono ?_;rintro en W2 ⟨rfl,hI2,hb2,ho2⟩;go_wp2_with fail
     go_roundw
     case rel=>
      refine⟨pos+(encodeRune r).length,acc++[92,c.toNat.toUInt8],?_,ho2 _ _ hm1 (by simp;omega) (by intro _ _ e;cases e),ho2.iter hi1 (by omega),hbr1.trans (hb2.mono hwB),by omega,by simp;omega,Hstep.out _ (zB7 Hr1.out Hes.out),Hval1.out⟩;rw[Lib.byteCells_append]
      have:strCells (⟨#[92]⟩++Utf8.encode c)=Lib.byteCells [92,c.toNat.toUInt8]:=by
       rw[Hen.out,qE9,qDj,qDj];rfl
      rw[←this];exact hI2
     case measure=>
      simp only[World.iterPos,ho2.iter hi1 (by omega),hi];omega
    |none=>
     have hlk:=qUw W1 w2.heap.size r hm1 hes;have Hes:=hh_ hes;clear hes;by_cases h32:r<32
     · have hr0:0≤r:=by omega
       have a1:0≤r/16:=by omega
       have a2:r/16≤1:=by omega
       have a3:0≤r%16:=by omega
       have a4:r%16<16:=by omega
       have v1:IntKind.i32.wrap (r/16+1)=r/16+1:=IntWalk.i32_in _ (by omega);have v2:0≤r/16+1:=by omega
       have v3:r/16+1≤16:=by omega
       have v4:r/16≤r/16+1:=by omega
       have v5:=qX4 (r/16) a1 (by omega)
       have y0:bits .and .i32 r 15=r%16:=by
        have h:=zB4 ⟨r.toNat,by omega⟩;simp only at h;rw[show((r.toNat:Nat):Int)=r by omega] at h;rw[h];omega
       have y1:IntKind.i32.wrap (r%16+1)=r%16+1:=IntWalk.i32_in _ (by omega);have y2:0≤r%16+1:=by omega
       have y3:r%16+1≤16:=by omega
       have y4:r%16≤r%16+1:=by omega
       have y5:=qX4 (r%16) a3 a4;go_wp2_with fail
       refine wp_region_still_tail 14 (by kernel_rfl) (by kernel_rfl) ?_;simp only[List.take_succ_cons,List.take_zero,List.drop_succ_cons,List.drop_zero];repeat still_step
       refine wpStill_nil ?_;go_wp2_with fail
       have hI1d:IsBuilderF 190 5 w1.heap.size w1.heap.size (Lib.byteCells acc) W1.drew:=hI1;have hsz1d:w1.heap.size≤W1.drew.heap.size:=hsz1;have hz6:Hid ( (({ data:=#[92,117,48,48] }++{ data:=#[hexd (r/16).toNat] }++{ data:=#[hexd (r%16).toNat] }:ByteArray)).size=6):=by show _=_;rw[ByteArray.size_append,ByteArray.size_append];rfl
       refine(qIu w1.heap.size w1.heap.size _ _ _ hI1d ?_ hsz1d).mono ?_
       · rw[Lib.byteCells_length];have h6:=hz6.out;omega
       rintro en W2 ⟨rfl,hI2,hb2,ho2⟩;go_wp2_with fail
       go_roundw
       case rel=>
        refine⟨pos+(encodeRune r).length,acc++[92,117,48,48,hexd (r.toNat/16),hexd (r.toNat%16)],?_,ho2 _ _ hm1 (by simp;omega) (by intro _ _ e;cases e),ho2.iter hi1 (by omega),hbr1.trans (br_.drew.trans (hb2.mono hwB)),by omega,by simp;omega,Hstep.out _ (zB3 hr0 Hes.out h32),Hval1.out⟩;rw[Lib.byteCells_append]
        have:strCells ({ data:=#[92,117,48,48] }++{ data:=#[hexd (r/16).toNat] }++{ data:=#[hexd (r%16).toNat] })=Lib.byteCells [92,117,48,48,hexd (r.toNat/16),hexd (r.toNat%16)]:=by
         rw[show(r/16).toNat=r.toNat/16 by omega,show(r%16).toNat=r.toNat%16 by omega,qE9,qE9,qDj,qDj,qDj];rfl
        rw[←this];exact hI2
       case measure=>
        simp only[World.iterPos,ho2.iter hi1 (by omega),hi];omega
     · go_wp2_with fail
       refine(qTe w1.heap.size w1.heap.size _ r (by omega) (by omega) _ hI1 (by rw[Lib.byteCells_length];omega) hsz1).mono ?_;rintro en W2 ⟨rfl,hI2,hb2,ho2⟩;go_wp2_with fail
       go_roundw
       case rel=>
        refine⟨pos+(encodeRune r).length,acc++encodeRune r,?_,ho2 _ _ hm1 (by simp;omega) (by intro _ _ e;cases e),ho2.iter hi1 (by omega),hbr1.trans (hb2.mono hwB),by omega,by simp;omega,Hstep.out _ (qZ1 Hr1.out Hes.out (by omega)),Hval1.out⟩;rw[Lib.byteCells_append,Lib.byteCells_encodeRune];exact hI2
       case measure=>
        simp only[World.iterPos,ho2.iter hi1 (by omega),hi];omega
  · have hnx:∀ty,(Instr.next (.pointer (some ⟨w2.heap.size+1,0,none⟩)) true ty).run Tryz.prog wr=_:=fun ty=>Lib.run_next_end_at wr (w2.heap.size+1) s pos ty hi hp
    have hfin:acc=34::s.data.toList.flatMap qb:=by
     rw[←hacc.out,List.drop_of_length_le (by omega)];simp
    have Hfin:=hh_ hfin;clear hfin hacc hval;go_wp2_with fail
    refine(qMs w1.heap.size w1.heap.size _ 34 _ hI (by rw[Lib.byteCells_length];omega) (by omega)).mono ?_;rintro en W2 ⟨rfl,hI2,hb2,ho2⟩;go_wp2_with fail
    have hI3:IsBuilderF 190 5 w1.heap.size w1.heap.size (Lib.byteCells (qK0 s.data.toList)) W2:=by
     have:Lib.byteCells (qK0 s.data.toList)=Lib.byteCells acc++[.int .u8 34]:=by rw[Hfin.out];simp[qK0,Lib.byteCells]
     rw[this];exact hI2
    refine(Tryz.Builder_String_any_k w1.heap.size w1.heap.size _ _ hI3 (by have:=hb2.size;omega)).mono ?_;rintro en W3 ⟨rfl,_,hb3,_⟩;go_wp2_with fail
    go_ret2;exact⟨rfl,hbr.trans ((hb2.trans hb3).mono hwB)⟩
end Go.Proofs.YtainiaighnjpfaaGreatDoor
