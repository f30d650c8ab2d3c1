/- Facts for the walks. -/
import Derived.Test.YtainiaighnjpfaaGreatDoorZQd
import Derived.Test.YtainiaighnjpfaaGreatDoorZQa
import Derived.MapKept
import Derived.StillTailTactics
set_option linter.unusedVariables false
namespace Go.Proofs.YtainiaighnjpfaaGreatDoor
open Go.RowKit Go.Ms Go.Lib Go.MapKept
def es1:Array MapEntry:=#[{ key:=.int .i32 34,val:=.int .u8 34,born:=0 }]
def es2:Array MapEntry:=es1.push { key:=.int .i32 92,val:=.int .u8 92,born:=1 }
def es3:Array MapEntry:=es2.push { key:=.int .i32 8,val:=.int .u8 98,born:=2 }
def es4:Array MapEntry:=es3.push { key:=.int .i32 12,val:=.int .u8 102,born:=3 }
def es5:Array MapEntry:=es4.push { key:=.int .i32 10,val:=.int .u8 110,born:=4 }
def es6:Array MapEntry:=es5.push { key:=.int .i32 13,val:=.int .u8 114,born:=5 }
def es7:Array MapEntry:=es6.push { key:=.int .i32 9,val:=.int .u8 116,born:=6 }
theorem qLp (w:World) (o o':Obj):({ w.alloc o with heap:=(w.alloc o).heap.setIfInBounds w.heap.size o' }:World)=w.alloc o':=by
 show({ w.alloc o with heap:=(w.heap.push o).setIfInBounds w.heap.size o' }:World)=_
 have:(w.heap.push o).setIfInBounds w.heap.size o'=w.heap.push o':=by
  apply Array.ext_getElem?
  intro i
  simp only[Array.getElem?_setIfInBounds,Array.getElem?_push,Array.size_push]
  by_cases h:i=w.heap.size
  · subst h;simp
  · simp[h,Ne.symm h]
 rw[this];rfl
theorem qHq (k:IntKind) (n:Int):IsKey (.int k) (.int k n):=rfl
theorem qE1 (w:World) (n:Nat) (hn:n=w.heap.size) (es:Array MapEntry) (clock:Nat) (k v:Int) (hf:Instr.findNow (.int .i32) (.int .i32 k) es.toList 0=some none) :
    (Instr.mapUpdate 257 (.map (some n)) (.int .i32 k) (.int .u8 v)).run Tryz.prog (w.alloc (.map es clock))=.ok () (w.alloc (.map (es.push { key:=.int .i32 k,val:=.int .u8 v,born:=clock }) (clock+1))):=by
 subst hn;have hg:(w.alloc (.map es clock)).heap[w.heap.size]?=some (.map es clock):=heap_alloc_new w _;have hk:=run_findKey (P:=Tryz.prog) (w:=w.alloc (.map es clock)) (kt:=21) (k:=.int .i32 k) (l:=es.toList) (a:=none) Tryz.underlying21 hf;have hc:=run_checkKey (P:=Tryz.prog) (w:=w.alloc (.map es clock)) (kt:=21) (k:=.int .i32 k) Tryz.underlying21 (qHq .i32 k) false 9999;simp only[Instr.mapUpdate,Sem.run_bind,run_underlying Tryz.underlying257,Result.andThen,MapKept.run_getObj_map hg,hc,hk,MapKept.run_setObj_map _ hg];rw[qLp]
theorem qJ4 (w:World) :
    Calls Tryz.prog 227 #[] w fun e w'=>e=.returned (.map (some w.heap.size))∧w.alloc (.map es7 7)=w':=by
 have hmm:=@run_makeMap Tryz.prog
 have i1:∀(w:World) (n:Nat),n=w.heap.size→(Instr.mapUpdate 257 (.map (some n)) (.int .i32 34) (.int .u8 34)).run Tryz.prog (w.alloc (.map #[] 0))=.ok () (w.alloc (.map es1 1)):=fun w n hn=>qE1 w n hn #[] 0 34 34 rfl
 have i2:∀(w:World) (n:Nat),n=w.heap.size→(Instr.mapUpdate 257 (.map (some n)) (.int .i32 92) (.int .u8 92)).run Tryz.prog (w.alloc (.map es1 1))=.ok () (w.alloc (.map es2 2)):=fun w n hn=>qE1 w n hn es1 1 92 92 rfl
 have i3:∀(w:World) (n:Nat),n=w.heap.size→(Instr.mapUpdate 257 (.map (some n)) (.int .i32 8) (.int .u8 98)).run Tryz.prog (w.alloc (.map es2 2))=.ok () (w.alloc (.map es3 3)):=fun w n hn=>qE1 w n hn es2 2 8 98 rfl
 have i4:∀(w:World) (n:Nat),n=w.heap.size→(Instr.mapUpdate 257 (.map (some n)) (.int .i32 12) (.int .u8 102)).run Tryz.prog (w.alloc (.map es3 3))=.ok () (w.alloc (.map es4 4)):=fun w n hn=>qE1 w n hn es3 3 12 102 rfl
 have i5:∀(w:World) (n:Nat),n=w.heap.size→(Instr.mapUpdate 257 (.map (some n)) (.int .i32 10) (.int .u8 110)).run Tryz.prog (w.alloc (.map es4 4))=.ok () (w.alloc (.map es5 5)):=fun w n hn=>qE1 w n hn es4 4 10 110 rfl
 have i6:∀(w:World) (n:Nat),n=w.heap.size→(Instr.mapUpdate 257 (.map (some n)) (.int .i32 13) (.int .u8 114)).run Tryz.prog (w.alloc (.map es5 5))=.ok () (w.alloc (.map es6 6)):=fun w n hn=>qE1 w n hn es5 5 13 114 rfl
 have i7:∀(w:World) (n:Nat),n=w.heap.size→(Instr.mapUpdate 257 (.map (some n)) (.int .i32 9) (.int .u8 116)).run Tryz.prog (w.alloc (.map es6 6))=.ok () (w.alloc (.map es7 7)):=fun w n hn=>qE1 w n hn es6 6 9 116 rfl
 go_enter Tryz.func227,Tryz.ntmps227
 go_wp2
 go_ret
 exact⟨rfl,rfl⟩
theorem qVh (r:Int):Instr.findNow (.int .i32) (.int .i32 r) es7.toList 0=some (match esc2 r with|some c=>(some ((if r=34 then 0 else if r=92 then 1 else if r=8 then 2 else if r=12 then 3 else if r=10 then 4 else if r=13 then 5 else 6:Nat),.int .u8 c))|none=>none):=by
 unfold esc2
 by_cases h1:r=34
 · subst h1;rfl
 by_cases h2:r=92
 · subst h2;rfl
 by_cases h3:r=8
 · subst h3;rfl
 by_cases h4:r=12
 · subst h4;rfl
 by_cases h5:r=10
 · subst h5;rfl
 by_cases h6:r=13
 · subst h6;rfl
 by_cases h7:r=9
 · subst h7;rfl
 · have b1:(r==34)=false:=by simpa using h1
   have b2:(r==92)=false:=by simpa using h2
   have b3:(r==8)=false:=by simpa using h3
   have b4:(r==12)=false:=by simpa using h4
   have b5:(r==10)=false:=by simpa using h5
   have b6:(r==13)=false:=by simpa using h6
   have b7:(r==9)=false:=by simpa using h7
   simp[h1,h2,h3,h4,h5,h6,h7,b1,b2,b3,b4,b5,b6,b7,es7,es6,es5,es4,es3,es2,es1,Instr.findNow,Instr.sameNow]
theorem qQe (w:World) (m:Nat) (r c:Int) (hm:w.heap[m]?=some (.map es7 7)) (hr:esc2 r=some c) :
    (Instr.lookup 257 (.map (some m)) (.int .i32 r) true).run Tryz.prog w=.ok (.tuple #[.int .u8 c,.bool true]) w:=by
 have hf:=qVh r;rw[hr] at hf;have hk:=run_findKey (P:=Tryz.prog) (w:=w) (kt:=21) (k:=.int .i32 r) (l:=es7.toList) Tryz.underlying21 hf;have hc:=run_checkKey (P:=Tryz.prog) (w:=w) (kt:=21) (k:=.int .i32 r) Tryz.underlying21 (qHq .i32 r) es7.isEmpty 9999;have hg:=MapKept.run_getObj_map (P:=Tryz.prog) hm;simp only[Instr.lookup,Sem.run_bind,run_underlying Tryz.underlying257,Result.andThen,hg,hc,hk,Sem.run_pure,if_true]
theorem qO7 (w:World) (m:Nat) (r:Int) (hm:w.heap[m]?=some (.map es7 7)) (hr:esc2 r=none) :
    (Instr.lookup 257 (.map (some m)) (.int .i32 r) true).run Tryz.prog w=.ok (.tuple #[.int .u8 0,.bool false]) w:=by
 have hf:=qVh r;rw[hr] at hf;have hk:=run_findKey (P:=Tryz.prog) (w:=w) (kt:=21) (k:=.int .i32 r) (l:=es7.toList) Tryz.underlying21 hf;have hc:=run_checkKey (P:=Tryz.prog) (w:=w) (kt:=21) (k:=.int .i32 r) Tryz.underlying21 (qHq .i32 r) es7.isEmpty 9999;have hg:=MapKept.run_getObj_map (P:=Tryz.prog) hm;simp only[Instr.lookup,Sem.run_bind,run_underlying Tryz.underlying257,Result.andThen,hg,hc,hk,Sem.run_pure,if_true,Tryz.zeroValue5]
end Go.Proofs.YtainiaighnjpfaaGreatDoor
namespace Go.Proofs.YtainiaighnjpfaaGreatDoor
open Go.RowKit Go.Ms Go.Lib Go.MapKept
theorem qTd:∀k:Fin 16,(⟨#[48,49,50,51,52,53,54,55,56,57,97,98,99,100,101,102]⟩:ByteArray).extract k.val (k.val+1)=⟨#[hexd k.val]⟩:=by decide
theorem qD2 (a b:ByteArray):strCells (a++b)=strCells a++strCells b:=by
 unfold strCells;rw[ByteArray.data_append,Array.toList_append,List.map_append]
theorem qCs (l:Array UInt8):strCells ⟨l⟩=Lib.byteCells l.toList:=rfl
theorem qVm:∀k:Fin 32,bits .and .i32 ((k.val:Nat):Int) 15=((k.val%16:Nat):Int):=by decide
theorem qSu (x:Int) (h0:0≤x) (h1:x<16):(⟨#[48,49,50,51,52,53,54,55,56,57,97,98,99,100,101,102]⟩:ByteArray).extract x.toNat (x+1).toNat=⟨#[hexd x.toNat]⟩:=by
 have:=qTd ⟨x.toNat,by omega⟩;rw[show(x+1).toNat=x.toNat+1 by omega];exact this
set_option maxRecDepth 100000 in
set_option maxHeartbeats 4000000 in
theorem qRz (s:ByteArray) (w:World) (hs:s.size≤1000000) (hv:validD s.data.toList=true) (hT:Tabs w) :
    Calls Tryz.prog 198 #[.string s] w fun e w'=>e=.returned (.tuple #[.string ⟨(qIu s.data.toList).toArray⟩,.int .i64 0])∧Below w.heap.size w w':=by
 have hl:s.data.toList.length=s.size:=by simp
 have cv:=qH9 s w (by omega) hT;rw[hv] at cv;have Hv:=Lib.hid hv;clear hv
 go_enter Tryz.func198,Tryz.ntmps198
 go_wp2_with fail
 refine cv.mono ?_;rintro en w1 ⟨rfl,hb1⟩
 go_wp2_with fail
 have hB0:IsBuilderF 190 5 w1.heap.size w1.heap.size [] (w1.alloc (.cells #[.pointer none,.slice none 0 0] 190)):=IsBuilderF.of (Lib.fresh_isBuilder 190 5 w1);refine(qLe w1.heap.size w1.heap.size [] 34 _ hB0 (by simp) (by simp)).mono ?_;rintro en w2 ⟨rfl,hI2,hb2,ho2⟩
 go_wp2_with fail
 refine(qJ4 w2).mono ?_;rintro en w3 ⟨rfl,rfl⟩
 go_wp2_with fail
 have hsz2:w1.heap.size+1≤w2.heap.size:=by have:=hb2.size;simpa using this
 have hbw:Below w.heap.size w w2:=hb1.trans (((Below.refl _ _).alloc (by have:=hb1.size;omega) _).trans (hb2.mono hb1.size));have hI3:=qO2 hI2 (((Below.refl _ w2).alloc (Nat.le_refl _) (.map es7 7)).trans (((Below.refl w2.heap.size (w2.alloc (.map es7 7))).alloc (by simp) (.stringIter s 0))));have hwB:=hb1.size
 have hm0:((w2.alloc (.map es7 7)).iter s 0).heap[w2.heap.size]?=some (.map es7 7):=by
  show((w2.heap.push _).push _)[w2.heap.size]?=_
  rw[Array.getElem?_push,if_neg (by simp)];simp
 have hi0:((w2.alloc (.map es7 7)).iter s 0).heap[w2.heap.size+1]?=some (.stringIter s 0):=by
  show((w2.heap.push _).push _)[w2.heap.size+1]?=_
  rw[Array.getElem?_push,if_pos (by simp)]
 have hbi:Below w.heap.size w ((w2.alloc (.map es7 7)).iter s 0):=(hbw.alloc (by omega) _).alloc (by simp;omega) _;clear cv hb2 ho2 hB0 hI2 hbw hb1
 go_loopw [] (fun wr=> ∃(pos:Nat) (acc:Bs),IsBuilderF 190 5 w1.heap.size w1.heap.size (Lib.byteCells acc) wr∧wr.heap[w2.heap.size]?=some (.map es7 7)∧wr.heap[w2.heap.size+1]?=some (.stringIter s pos)∧Below w.heap.size w wr∧pos≤s.size∧acc.length≤6*pos+1∧Hid (acc++(s.data.toList.drop pos).flatMap qb=34::s.data.toList.flatMap qb)∧Hid (validD (s.data.toList.drop pos)=true))
   (fun wr=>s.size-wr.iterPos (w2.heap.size+1))
 case atStart=>exact⟨0,[34],hI3,hm0,hi0,hbi,by omega,by simp,rfl,Hv.out⟩
 case round=>
  obtain⟨pos,acc,hI,hm,hi,hbr,hpl,hal,hacc,hval⟩:=hrel;have hszr:w2.heap.size+1<wr.heap.size:=(Array.getElem?_eq_some_iff.1 hi).1
  by_cases hp:pos<s.size
  · obtain⟨r,hr1,hr2,hr3,hr4⟩:=qLy (s.data.toList.drop pos) (by intro e;have:=congrArg List.length e;simp at this;omega) hval.out
    have hd:Utf8.decode s pos=(r.toNat,(encodeRune r).length):=by rw[qL4];exact qSd _ r (by intro e;have:=congrArg List.length e;simp at this;omega) hr2
    have hrb:=(qAw r).1 hr1;have hel:=qAv r
    have hfit:pos+(encodeRune r).length≤s.size:=by
     have:=congrArg List.length hr3;simp at this;omega
    have hnx:∀ty,(Instr.next (.pointer (some ⟨w2.heap.size+1,0,none⟩)) true ty).run Tryz.prog wr=.ok (.tuple #[.bool true,.int .i64 pos,.int .i32 r]) (wr.iterAt (w2.heap.size+1) s (pos+(encodeRune r).length)):=fun ty=>by
     rw[Lib.run_next_any_at wr (w2.heap.size+1) s pos ty hi hp,hd];simp only[qIy hr1]
    have hI1:=hI.iterAt hi (pos+(encodeRune r).length)
    have hm1:(wr.iterAt (w2.heap.size+1) s (pos+(encodeRune r).length)).heap[w2.heap.size]?=some (.map es7 7):=by rw[iterAt_other _ _ _ _ _ (by omega)];exact hm
    have hi1:=Lib.iterAt_heap wr (w2.heap.size+1) s pos (pos+(encodeRune r).length) hi;have hbr1:=Lib.below_iterAt hbr (k:=w2.heap.size+1) (by omega) s (pos+(encodeRune r).length)
    have hsz1:w1.heap.size≤(wr.iterAt (w2.heap.size+1) s (pos+(encodeRune r).length)).heap.size:=by rw[Lib.iterAt_size];omega
    have hstep:∀piece:Bs,(encodeRune r).flatMap qb=piece→(acc++piece)++(s.data.toList.drop (pos+(encodeRune r).length)).flatMap qb=34::s.data.toList.flatMap qb:=by
     intro piece hpc
     rw[←hacc.out,hr3,List.flatMap_append,hpc,List.append_assoc,List.drop_drop]
    have hval1:validD (s.data.toList.drop (pos+(encodeRune r).length))=true:=by rw[←List.drop_drop];exact hr4
    generalize wr.iterAt (w2.heap.size+1) s (pos+(encodeRune r).length)=W1 at *
    have Hstep:=Lib.hid hstep;have Hval1:=Lib.hid hval1;have Hr1:=Lib.hid hr1;have Hd:=Lib.hid hd;clear hstep hval1 hr2 hr3 hr4 hd hr1 hacc hval
    cases hes:esc2 r with
    | some c=>
     have hlk:=qQe W1 w2.heap.size r c hm1 hes
     have hcb:0≤c∧c<128:=by
      unfold esc2 at hes
      repeat' split at hes
      all_goals first|(cases hes;done)|(injection hes with h;omega)
     obtain⟨hc0,hc1⟩:=hcb
     have hen:Utf8.encode c=⟨#[c.toNat.toUInt8]⟩:=by
      unfold Utf8.encode Utf8.valid
      simp[show c<55296 by omega,hc0,show c.toNat<128 by omega]
     have hz1:(Utf8.encode c).size=1:=by rw[hen];rfl
     have Hen:=Lib.hid hen;have Hes:=Lib.hid hes;clear hes hen
     go_wp2_with fail
     refine(qG1 w1.heap.size w1.heap.size _ _ _ hI1 (by rw[Lib.byteCells_length,ByteArray.size_append,hz1];have h92:(⟨#[92]⟩:ByteArray).size=1:=rfl;omega) hsz1).mono ?_;rintro en W2 ⟨rfl,hI2,hb2,ho2⟩
     go_wp2_with fail
     go_roundw
     case rel=>
      refine⟨pos+(encodeRune r).length,acc++[92,c.toNat.toUInt8],?_,ho2 _ _ hm1 (by simp;omega) (by intro _ _ e;cases e),ho2.iter hi1 (by omega),hbr1.trans (hb2.mono hwB),by omega,by simp;omega,Hstep.out _ (qVs Hr1.out Hes.out),Hval1.out⟩;rw[Lib.byteCells_append]
      have:strCells (⟨#[92]⟩++Utf8.encode c)=Lib.byteCells [92,c.toNat.toUInt8]:=by
       rw[Hen.out,qD2,qCs,qCs];rfl
      rw[←this];exact hI2
     case measure=>
      simp only[World.iterPos,ho2.iter hi1 (by omega),hi];omega
    |none=>
     have hlk:=qO7 W1 w2.heap.size r hm1 hes;have Hes:=Lib.hid hes;clear hes
     by_cases h32:r<32
     · have hr0:0≤r:=by omega
       have a1:0≤r/16:=by omega
       have a2:r/16≤1:=by omega
       have a3:0≤r%16:=by omega
       have a4:r%16<16:=by omega
       have v1:IntKind.i32.wrap (r/16+1)=r/16+1:=IntWalk.i32_in _ (by omega)
       have v2:0≤r/16+1:=by omega
       have v3:r/16+1≤16:=by omega
       have v4:r/16≤r/16+1:=by omega
       have v5:=qSu (r/16) a1 (by omega)
       have y0:bits .and .i32 r 15=r%16:=by
        have h:=qVm ⟨r.toNat,by omega⟩;simp only at h;rw[show((r.toNat:Nat):Int)=r by omega] at h
        rw[h];omega
       have y1:IntKind.i32.wrap (r%16+1)=r%16+1:=IntWalk.i32_in _ (by omega)
       have y2:0≤r%16+1:=by omega
       have y3:r%16+1≤16:=by omega
       have y4:r%16≤r%16+1:=by omega
       have y5:=qSu (r%16) a3 a4
       go_wp2_with fail
       refine wp_region_still_tail 14 (by kernel_rfl) (by kernel_rfl) ?_;simp only[List.take_succ_cons,List.take_zero,List.drop_succ_cons,List.drop_zero]
       repeat still_step
       refine wpStill_nil ?_
       go_wp2_with fail
       have hI1d:IsBuilderF 190 5 w1.heap.size w1.heap.size (Lib.byteCells acc) W1.drew:=hI1;have hsz1d:w1.heap.size≤W1.drew.heap.size:=hsz1
       have hz6:Hid ( (({ data:=#[92,117,48,48] }++{ data:=#[hexd (r/16).toNat] }++{ data:=#[hexd (r%16).toNat] }:ByteArray)).size=6):=by show _=_;rw[ByteArray.size_append,ByteArray.size_append];rfl
       refine(qG1 w1.heap.size w1.heap.size _ _ _ hI1d ?_ hsz1d).mono ?_
       · rw[Lib.byteCells_length];have h6:=hz6.out;omega
       rintro en W2 ⟨rfl,hI2,hb2,ho2⟩
       go_wp2_with fail
       go_roundw
       case rel=>
        refine⟨pos+(encodeRune r).length,acc++[92,117,48,48,hexd (r.toNat/16),hexd (r.toNat%16)],?_,ho2 _ _ hm1 (by simp;omega) (by intro _ _ e;cases e),ho2.iter hi1 (by omega),hbr1.trans ((Below.refl _ _).drew.trans (hb2.mono hwB)),by omega,by simp;omega,Hstep.out _ (qVt hr0 Hes.out h32),Hval1.out⟩;rw[Lib.byteCells_append]
        have:strCells ({ data:=#[92,117,48,48] }++{ data:=#[hexd (r/16).toNat] }++{ data:=#[hexd (r%16).toNat] })=Lib.byteCells [92,117,48,48,hexd (r.toNat/16),hexd (r.toNat%16)]:=by
         rw[show(r/16).toNat=r.toNat/16 by omega,show(r%16).toNat=r.toNat%16 by omega,qD2,qD2,qCs,qCs,qCs];rfl
        rw[←this];exact hI2
       case measure=>
        simp only[World.iterPos,ho2.iter hi1 (by omega),hi];omega
     · go_wp2_with fail
       refine(qPh w1.heap.size w1.heap.size _ r (by omega) (by omega) _ hI1 (by rw[Lib.byteCells_length];omega) hsz1).mono ?_;rintro en W2 ⟨rfl,hI2,hb2,ho2⟩
       go_wp2_with fail
       go_roundw
       case rel=>
        refine⟨pos+(encodeRune r).length,acc++encodeRune r,?_,ho2 _ _ hm1 (by simp;omega) (by intro _ _ e;cases e),ho2.iter hi1 (by omega),hbr1.trans (hb2.mono hwB),by omega,by simp;omega,Hstep.out _ (qTn Hr1.out Hes.out (by omega)),Hval1.out⟩;rw[Lib.byteCells_append,Lib.byteCells_encodeRune];exact hI2
       case measure=>
        simp only[World.iterPos,ho2.iter hi1 (by omega),hi];omega
  · have hnx:∀ty,(Instr.next (.pointer (some ⟨w2.heap.size+1,0,none⟩)) true ty).run Tryz.prog wr=_:=fun ty=>Lib.run_next_end_at wr (w2.heap.size+1) s pos ty hi hp
    have hfin:acc=34::s.data.toList.flatMap qb:=by
     rw[←hacc.out,List.drop_of_length_le (by omega)];simp
    have Hfin:=Lib.hid hfin;clear hfin hacc hval
    go_wp2_with fail
    refine(qLe w1.heap.size w1.heap.size _ 34 _ hI (by rw[Lib.byteCells_length];omega) (by omega)).mono ?_;rintro en W2 ⟨rfl,hI2,hb2,ho2⟩
    go_wp2_with fail
    have hI3:IsBuilderF 190 5 w1.heap.size w1.heap.size (Lib.byteCells (qIu s.data.toList)) W2:=by
     have:Lib.byteCells (qIu s.data.toList)=Lib.byteCells acc++[.int .u8 34]:=by rw[Hfin.out];simp[qIu,Lib.byteCells]
     rw[this];exact hI2
    refine(Tryz.Builder_String_any_k w1.heap.size w1.heap.size _ _ hI3 (by have:=hb2.size;omega)).mono ?_;rintro en W3 ⟨rfl,_,hb3,_⟩
    go_wp2_with fail
    go_ret2
    exact⟨rfl,hbr.trans ((hb2.trans hb3).mono hwB)⟩
end Go.Proofs.YtainiaighnjpfaaGreatDoor
namespace Go.Proofs.YtainiaighnjpfaaGreatDoor
open Go.RowKit Go.Ms Go.Lib
theorem qUt (a b:Nat) (ha:a<9223372036854775808) (hb:b<9223372036854775808) :
    bits .or .i64 (a:Int) (b:Int)=((a ||| b:Nat):Int):=by
 have hx:a ||| b<2^63:=Nat.or_lt_two_pow (by omega) (by omega)
 have h1:(BitVec.ofInt 64 (a:Int)).toNat=a:=by
  rw[BitVec.ofInt_natCast,BitVec.toNat_ofNat];exact Nat.mod_eq_of_lt (by omega)
 have h2:(BitVec.ofInt 64 (b:Int)).toNat=b:=by
  rw[BitVec.ofInt_natCast,BitVec.toNat_ofNat];exact Nat.mod_eq_of_lt (by omega)
 show IntKind.i64.wrap ((BitVec.ofInt 64 (a:Int) ||| BitVec.ofInt 64 (b:Int)).toNat:Int)=_
 rw[BitVec.toNat_or,h1,h2,IntKind.wrap_i64];omega
theorem qRn (n d:Int) (h0:0≤n) (h1:n<65536) (h2:0≤d) (h3:d<16):bits .or .i64 (n*16) d=16*n+d:=by
 obtain⟨a,rfl⟩:=Int.eq_ofNat_of_zero_le h0;obtain⟨b,rfl⟩:=Int.eq_ofNat_of_zero_le h2
 have e:((a:Int)*(16:Int))=((a <<< 4:Nat):Int):=by rw[Nat.shiftLeft_eq];omega
 rw[e,qUt _ _ (by rw[Nat.shiftLeft_eq];omega) (by omega),←Nat.shiftLeft_add_eq_or_of_lt (by omega:b<2^4),Nat.shiftLeft_eq]
 simp;omega
set_option maxHeartbeats 2000000 in
theorem qPj (b:Nat) (s:ByteArray) (second:Bool) (n0 n1 n2 n3 e0 E0 e1 E1 e2 e3:Int) (p0 p1 p2 p3:Nat) (w:World)
    (b0:0≤n0∧n0<16) (b1:0≤n1∧n1<16) (b2:0≤n2∧n2<16) (b3:0≤n3∧n3<16)
    (c0:Calls Tryz.prog 259 #[.pointer (some ⟨b,0,none⟩)] w (RdP 263 b s p0 e0 (.int .i64 n0) w))
    (c1:∀w,Tri 263 b (.string s) (.int .i64 p0) (.int .i64 E0) w→Calls Tryz.prog 259 #[.pointer (some ⟨b,0,none⟩)] w (RdP 263 b s p1 e1 (.int .i64 n1) w))
    (c2:∀w,Tri 263 b (.string s) (.int .i64 p1) (.int .i64 E1) w→Calls Tryz.prog 259 #[.pointer (some ⟨b,0,none⟩)] w (RdP 263 b s p2 e2 (.int .i64 n2) w))
    (c3:∀w,Tri 263 b (.string s) (.int .i64 p2) (.int .i64 e2) w→Calls Tryz.prog 259 #[.pointer (some ⟨b,0,none⟩)] w (RdP 263 b s p3 e3 (.int .i64 n3) w))
    (hE0:E0=if second=true∧¬n0=13 then qBv e0 41 else e0)
    (hE1:E1=if second=decide (220≤16*n0+n1∧16*n0+n1≤223) then e1 else qBv e1 41) :
    Calls Tryz.prog 248 #[.pointer (some ⟨b,0,none⟩),.bool second] w (RdP 263 b s p3 e3 (.int .i32 (16*(16*(16*n0+n1)+n2)+n3)) w):=by
 have o1:=qRn n0 n1 b0.1 (by omega) b1.1 b1.2;have o2:=qRn (16*n0+n1) n2 (by omega) (by omega) b2.1 b2.2;have o3:=qRn (16*(16*n0+n1)+n2) n3 (by omega) (by omega) b3.1 b3.2
 obtain⟨b00,b01⟩:=b0;obtain⟨b10,b11⟩:=b1;obtain⟨b20,b21⟩:=b2;obtain⟨b30,b31⟩:=b3
 have C1:=Lib.hid c1;have C2:=Lib.hid c2;have C3:=Lib.hid c3
 clear c1 c2 c3
 cases second
 · rw[if_neg (by simp)] at hE0;subst hE0
   by_cases hr1:220≤16*n0+n1
   · by_cases hr2:16*n0+n1≤223
     · have q2:decide (16*n0+n1≤223)=true:=by simpa using hr2
       rw[if_neg (by simp[hr1,hr2])] at hE1;subst hE1
       go_enter Tryz.func248,Tryz.ntmps248
       go_wp2_with fail
       refine c0.mono ?_;rintro en w1 ⟨rfl,t1,k1⟩
       go_wp2_with fail
       refine(C1.out _ t1).mono ?_;rintro en w3 ⟨rfl,t3,k3⟩
       go_wp2_with fail
       refine(qBe b s _ _ 41 _ t3).mono ?_;rintro en w4 ⟨rfl,t3,k4⟩
       go_wp2_with fail
       refine(C2.out _ t3).mono ?_;rintro en w5 ⟨rfl,t5,k5⟩
       go_wp2_with fail
       refine(C3.out _ t5).mono ?_;rintro en w6 ⟨rfl,t6,k6⟩
       go_wp2_with fail
       go_ret
       exact⟨rfl,t6,((((k1.trans k3).trans k4).trans k5).trans k6)⟩
     · have q2:decide (16*n0+n1≤223)=false:=by simpa using hr2
       rw[if_pos (by simp[hr2])] at hE1;subst hE1
       go_enter Tryz.func248,Tryz.ntmps248
       go_wp2_with fail
       refine c0.mono ?_;rintro en w1 ⟨rfl,t1,k1⟩
       go_wp2_with fail
       refine(C1.out _ t1).mono ?_;rintro en w3 ⟨rfl,t3,k3⟩
       go_wp2_with fail
       refine(C2.out _ t3).mono ?_;rintro en w5 ⟨rfl,t5,k5⟩
       go_wp2_with fail
       refine(C3.out _ t5).mono ?_;rintro en w6 ⟨rfl,t6,k6⟩
       go_wp2_with fail
       go_ret
       exact⟨rfl,t6,(((k1.trans k3).trans k5).trans k6)⟩
   · rw[if_pos (by simp[hr1])] at hE1;subst hE1
     go_enter Tryz.func248,Tryz.ntmps248
     go_wp2_with fail
     refine c0.mono ?_;rintro en w1 ⟨rfl,t1,k1⟩
     go_wp2_with fail
     refine(C1.out _ t1).mono ?_;rintro en w3 ⟨rfl,t3,k3⟩
     go_wp2_with fail
     refine(C2.out _ t3).mono ?_;rintro en w5 ⟨rfl,t5,k5⟩
     go_wp2_with fail
     refine(C3.out _ t5).mono ?_;rintro en w6 ⟨rfl,t6,k6⟩
     go_wp2_with fail
     go_ret
     exact⟨rfl,t6,(((k1.trans k3).trans k5).trans k6)⟩
 · by_cases h13:n0=13
   · rw[if_neg (by simp[h13])] at hE0;subst hE0
     have h13b:(n0 != 13)=false:=by simpa using h13
     have h13c:(n0==13)=true:=by simpa using h13
     clear h13
     by_cases hr1:220≤16*n0+n1
     · by_cases hr2:16*n0+n1≤223
       · have q2:decide (16*n0+n1≤223)=true:=by simpa using hr2
         rw[if_pos (by simp[hr1,hr2])] at hE1;subst hE1
         go_enter Tryz.func248,Tryz.ntmps248
         go_wp2_with fail
         refine c0.mono ?_;rintro en w1 ⟨rfl,t1,k1⟩
         go_wp2_with fail
         refine(C1.out _ t1).mono ?_;rintro en w3 ⟨rfl,t3,k3⟩
         go_wp2_with fail
         refine(C2.out _ t3).mono ?_;rintro en w5 ⟨rfl,t5,k5⟩
         go_wp2_with fail
         refine(C3.out _ t5).mono ?_;rintro en w6 ⟨rfl,t6,k6⟩
         go_wp2_with fail
         go_ret
         exact⟨rfl,t6,(((k1.trans k3).trans k5).trans k6)⟩
       · have q2:decide (16*n0+n1≤223)=false:=by simpa using hr2
         rw[if_neg (by simp[hr2])] at hE1;subst hE1
         go_enter Tryz.func248,Tryz.ntmps248
         go_wp2_with fail
         refine c0.mono ?_;rintro en w1 ⟨rfl,t1,k1⟩
         go_wp2_with fail
         refine(C1.out _ t1).mono ?_;rintro en w3 ⟨rfl,t3,k3⟩
         go_wp2_with fail
         refine(qBe b s _ _ 41 _ t3).mono ?_;rintro en w4 ⟨rfl,t3,k4⟩
         go_wp2_with fail
         refine(C2.out _ t3).mono ?_;rintro en w5 ⟨rfl,t5,k5⟩
         go_wp2_with fail
         refine(C3.out _ t5).mono ?_;rintro en w6 ⟨rfl,t6,k6⟩
         go_wp2_with fail
         go_ret
         exact⟨rfl,t6,((((k1.trans k3).trans k4).trans k5).trans k6)⟩
     · rw[if_neg (by simp[hr1])] at hE1;subst hE1
       go_enter Tryz.func248,Tryz.ntmps248
       go_wp2_with fail
       refine c0.mono ?_;rintro en w1 ⟨rfl,t1,k1⟩
       go_wp2_with fail
       refine(C1.out _ t1).mono ?_;rintro en w3 ⟨rfl,t3,k3⟩
       go_wp2_with fail
       refine(qBe b s _ _ 41 _ t3).mono ?_;rintro en w4 ⟨rfl,t3,k4⟩
       go_wp2_with fail
       refine(C2.out _ t3).mono ?_;rintro en w5 ⟨rfl,t5,k5⟩
       go_wp2_with fail
       refine(C3.out _ t5).mono ?_;rintro en w6 ⟨rfl,t6,k6⟩
       go_wp2_with fail
       go_ret
       exact⟨rfl,t6,((((k1.trans k3).trans k4).trans k5).trans k6)⟩
   · rw[if_pos ⟨rfl,h13⟩] at hE0;subst hE0
     have h13b:(n0 != 13)=true:=by simpa using h13
     have h13c:(n0==13)=false:=by simpa using h13
     by_cases hr1:220≤16*n0+n1
     · by_cases hr2:16*n0+n1≤223
       · have q2:decide (16*n0+n1≤223)=true:=by simpa using hr2
         rw[if_pos (by simp[hr1,hr2])] at hE1;subst hE1
         go_enter Tryz.func248,Tryz.ntmps248
         go_wp2_with fail
         refine c0.mono ?_;rintro en w1 ⟨rfl,t1,k1⟩
         go_wp2_with fail
         refine(qBe b s _ _ 41 _ t1).mono ?_;rintro en w2 ⟨rfl,t1,k2⟩
         go_wp2_with fail
         refine(C1.out _ t1).mono ?_;rintro en w3 ⟨rfl,t3,k3⟩
         go_wp2_with fail
         refine(C2.out _ t3).mono ?_;rintro en w5 ⟨rfl,t5,k5⟩
         go_wp2_with fail
         refine(C3.out _ t5).mono ?_;rintro en w6 ⟨rfl,t6,k6⟩
         go_wp2_with fail
         go_ret
         exact⟨rfl,t6,((((k1.trans k2).trans k3).trans k5).trans k6)⟩
       · have q2:decide (16*n0+n1≤223)=false:=by simpa using hr2
         rw[if_neg (by simp[hr2])] at hE1;subst hE1
         go_enter Tryz.func248,Tryz.ntmps248
         go_wp2_with fail
         refine c0.mono ?_;rintro en w1 ⟨rfl,t1,k1⟩
         go_wp2_with fail
         refine(qBe b s _ _ 41 _ t1).mono ?_;rintro en w2 ⟨rfl,t1,k2⟩
         go_wp2_with fail
         refine(C1.out _ t1).mono ?_;rintro en w3 ⟨rfl,t3,k3⟩
         go_wp2_with fail
         refine(qBe b s _ _ 41 _ t3).mono ?_;rintro en w4 ⟨rfl,t3,k4⟩
         go_wp2_with fail
         refine(C2.out _ t3).mono ?_;rintro en w5 ⟨rfl,t5,k5⟩
         go_wp2_with fail
         refine(C3.out _ t5).mono ?_;rintro en w6 ⟨rfl,t6,k6⟩
         go_wp2_with fail
         go_ret
         exact⟨rfl,t6,(((((k1.trans k2).trans k3).trans k4).trans k5).trans k6)⟩
     · rw[if_neg (by simp[hr1])] at hE1;subst hE1
       go_enter Tryz.func248,Tryz.ntmps248
       go_wp2_with fail
       refine c0.mono ?_;rintro en w1 ⟨rfl,t1,k1⟩
       go_wp2_with fail
       refine(qBe b s _ _ 41 _ t1).mono ?_;rintro en w2 ⟨rfl,t1,k2⟩
       go_wp2_with fail
       refine(C1.out _ t1).mono ?_;rintro en w3 ⟨rfl,t3,k3⟩
       go_wp2_with fail
       refine(qBe b s _ _ 41 _ t3).mono ?_;rintro en w4 ⟨rfl,t3,k4⟩
       go_wp2_with fail
       refine(C2.out _ t3).mono ?_;rintro en w5 ⟨rfl,t5,k5⟩
       go_wp2_with fail
       refine(C3.out _ t5).mono ?_;rintro en w6 ⟨rfl,t6,k6⟩
       go_wp2_with fail
       go_ret
       exact⟨rfl,t6,(((((k1.trans k2).trans k3).trans k4).trans k5).trans k6)⟩
theorem qMh (b:Nat) (s:ByteArray) (second:Bool) (p:Nat) (e:Int) (w:World) (hp:p≤s.size) (hs:s.size≤1000000) (h:Tri 263 b (.string s) (.int .i64 p) (.int .i64 e) w) :
    Calls Tryz.prog 248 #[.pointer (some ⟨b,0,none⟩),.bool second] w (RdP 263 b s (qA9 s.data.toList second p e).2.1 (qA9 s.data.toList second p e).2.2 (.int .i32 (qA9 s.data.toList second p e).1) w):=by
 have hl:s.data.toList.length=s.size:=by simp
 have l0:=qU8 s.data.toList second p e (by omega);have l1:=qVk s.data.toList second p e (by omega);have l2:=qU9 s.data.toList second p e (by omega)
 exact qPj b s second _ _ _ _ _ _ _ _ _ _ _ _ _ _ w (qB9 s.data.toList p e) (qB9 s.data.toList (h0 s.data.toList second p e).2.1 (h0 s.data.toList second p e).2.2)
   (qB9 s.data.toList (h1 s.data.toList second p e).2.1 (h1 s.data.toList second p e).2.2) (qB9 s.data.toList (h2 s.data.toList second p e).2.1 (h2 s.data.toList second p e).2.2)
   (qF1 b s p e w hp hs h) (fun w h=>qF1 b s _ _ w (by omega) hs h) (fun w h=>qF1 b s _ _ w (by omega) hs h) (fun w h=>qF1 b s _ _ w (by omega) hs h) rfl rfl
end Go.Proofs.YtainiaighnjpfaaGreatDoor
