/- Texts cut at a byte: what the library's SplitN and the loops answer. Cells: what is taken off: words. Cells: what is taken off. Cells: what is taken off. Cells: what is taken off. Cells: what is taken off. Cells: what is taken off. Cells: what is taken off, whole. Cells: the laws' helpers; the chapter's examples. Cells: the chapter's examples. Cells: cut; three boxed cells. Cells: two and three boxed cells. Cells: a boxed type and a boxed cell; how long texts and bits are. Cells: a boxed type and two boxed cells. The reference's Valid. The reference of the cells: which types and cells may be; how two stand. The reference of the cells: Check. The reference's begins. What the reader takes for a literal is one: a row of parts between quotes. A literal that is cut off anywhere is ErrTrunc. The short escapes. -/
import Derived.Lib.Split
import Derived.Test.YtainiaighnjpfaaGreatDoorZQm
import Derived.Deep.DeepCutAuto
import Derived.Lib.ItoaLen
set_option maxHeartbeats 400000
set_option linter.unusedVariables false
set_option linter.unusedSimpArgs false
namespace Go.Ms
open Go.Lib
theorem qCm {c:UInt8}:∀{s x y:Bs},cutAt c s=some (x,y)→s=x++c::y∧c∉x
  |[],x,y,h=>by simp[cutAt] at h
  |b::r,x,y,h=>by
   unfold cutAt at h;split at h
   · rename_i hb
     simp only[Option.some.injEq,Prod.mk.injEq] at h;obtain⟨rfl,rfl⟩:=h;exact⟨by rw[hb];rfl,by simp⟩
   · rename_i hb
     split at h
     · rename_i z hz
       simp only[Option.some.injEq,Prod.mk.injEq] at h;obtain⟨rfl,rfl⟩:=h;obtain⟨h1,h2⟩:=qCm (x:=z.1) (y:=z.2) hz;refine⟨by rw[List.cons_append,←h1],?_⟩;simp only[List.mem_cons,not_or];exact⟨fun e=>hb e.symm,h2⟩
     · cases h
theorem qH2 {c:UInt8}:∀{s:Bs},cutAt c s=none↔c∉s
  |[]=>by simp[cutAt]
  |b::r=>by
   have ih:=qH2 (c:=c) (s:=r);unfold cutAt;split
   · rename_i hb;subst hb;simp
   · rename_i hb
     split
     · rename_i z hz
       have:¬cutAt c r=none:=by rw[hz];simp
       rw[ih] at this;simp only[reduceCtorEq,List.mem_cons,not_or,false_iff,not_and];exact fun _=>this
     · rename_i hz
       simp only[List.mem_cons,not_or,true_iff];exact⟨fun e=>hb e.symm,ih.1 hz⟩
theorem qJb:∀{x y:Bs},(10:UInt8)∉x→qBh (x++10::y)=(x::(qBh y).1,(qBh y).2)
  |[],y,h=>by simp[qBh]
  |b::r,y,h=>by
   simp only[List.mem_cons,not_or] at h;rw[List.cons_append,qBh,if_neg (fun e=>h.1 e.symm),qJb h.2]
theorem qIb:∀{x:Bs},(10:UInt8)∉x→qBh x=([],x)
  |[],h=>rfl
  |b::r,h=>by
   simp only[List.mem_cons,not_or] at h;rw[qBh,if_neg (fun e=>h.1 e.symm),qIb h.2]
theorem qIc:∀(s:Bs),s=(qBh s).1.flatMap (fun l=>l++[10])++(qBh s).2
  |[]=>rfl
  |c::r=>by
   have ih:=qIc r;unfold qBh;split
   · rename_i hc;subst hc
     simp only[List.flatMap_cons,List.nil_append,List.cons_append];rw[←ih]
   · split
     · rename_i hl
       rw[hl] at ih;simp only[List.flatMap_nil,List.nil_append] at ih ⊢;rw[←ih]
     · rename_i l ls hl
       rw[hl] at ih;simp only[List.flatMap_cons,List.cons_append] at ih ⊢;rw[←ih]
theorem qH4:∀(s:Bs),(∀l∈(qBh s).1,(10:UInt8)∉l)∧(10:UInt8)∉(qBh s).2
  |[]=>by simp[qBh]
  |c::r=>by
   obtain⟨h1,h2⟩:=qH4 r;unfold qBh;split
   · rename_i hc
     refine⟨fun l hl=>?_,h2⟩;simp only[List.mem_cons] at hl;rcases hl with rfl|hl
     · simp
     · exact h1 l hl
   · rename_i hc
     split
     · exact⟨by simp,by simp only[List.mem_cons,not_or];exact⟨fun e=>hc e.symm,h2⟩⟩
     · rename_i l ls hl
       rw[hl] at h1;refine⟨fun x hx=>?_,h2⟩;simp only[List.mem_cons] at hx;rcases hx with rfl|hx
       · simp only[List.mem_cons,not_or];exact⟨fun e=>hc e.symm,h1 l (by simp)⟩
       · exact h1 x (by simp[hx])
end Go.Ms
namespace Go.Proofs.YtainiaighnjpfaaGreatDoor
open Go.RowKit Go.Ms Go.Lib
abbrev zA4 (b:Nat) (u:Bool) (n:Int) (S:ByteArray) (w:World):Prop:=Tri 43 b (.bool u) (.int .i64 n) (.string S) w
theorem qWm {T b:Nat} {x y z p q r:Value} {w:World} (h:Tri T b x y z w):Tri T b p q r (((w.setCell ⟨b,0,none⟩ p).setCell ⟨b,1,none⟩ q).setCell ⟨b,2,none⟩ r):=by
 unfold Tri at *; simp[World.setCell,Array.getElem?_modify,h]
theorem qVl {T b:Nat} {x y z:Value} {w w':World} (h:Tri T b x y z w) (hb:Below w.heap.size w w'):Tri T b x y z w':=h.below hb h.lt
theorem qQl {B b:Nat} {a w:World} (h:Below B a w) (hb:B≤b) (p q r:Value):Below B a (((w.setCell ⟨b,0,none⟩ p).setCell ⟨b,1,none⟩ q).setCell ⟨b,2,none⟩ r):=
  ((h.setCell (p:=⟨b,0,none⟩) hb _).setCell (p:=⟨b,1,none⟩) hb _).setCell (p:=⟨b,2,none⟩) hb _
section
variable {w w1 w2:World} {k:Nat} {u1 u2 u3:Bool} {n1 n2 n3:Int} {S1 S2 S3:ByteArray}
end
end Go.Proofs.YtainiaighnjpfaaGreatDoor
namespace Go.Ms
open Go.Lib
end Go.Ms
namespace Go.Proofs.YtainiaighnjpfaaGreatDoor
open Go.RowKit Go.Ms Go.Lib
structure TBx (w:World) (b:Nat) (k:Int) (tn:Bool) (u:Bool) (n:Int) (S:ByteArray) (w1:World):Prop where
  td:w1.heap[b]?=some (.cells #[.int .i64 k,.bool tn] 41 (0,0))
  ta:zA4 (b+1) u n S w1
  bel:Below w.heap.size w w1
  hb:w.heap.size≤b
structure zBd (b:Nat) (k:Int) (tn:Bool) (u:Bool) (n:Int) (S:ByteArray) (w1:World):Prop where
  d0:w1.cell? ⟨b,0,none⟩=some (.int .i64 k)
  d1:w1.cell? ⟨b,1,none⟩=some (.bool tn)
  a0:w1.cell? ⟨b+1,0,none⟩=some (.bool u)
  a1:w1.cell? ⟨b+1,1,none⟩=some (.int .i64 n)
  a2:w1.cell? ⟨b+1,2,none⟩=some (.string S)
  f0:w1.frozen? ⟨b+1,0,none⟩=false
  f1:w1.frozen? ⟨b+1,1,none⟩=false
  f2:w1.frozen? ⟨b+1,2,none⟩=false
  l0:b<w1.heap.size
  l1:b+1<w1.heap.size
section
variable {w w1 w2:World} {b:Nat} {k n:Int} {tn u:Bool} {S:ByteArray}
theorem TBx.cells (h:TBx w b k tn u n S w1):zBd b k tn u n S w1:=
  ⟨by rw[Lib.cell_of_heap h.td];rfl,by rw[Lib.cell_of_heap h.td];rfl,h.ta.c0,h.ta.c1,h.ta.c2,h.ta.fr 0,h.ta.fr 1,h.ta.fr 2,(Array.getElem?_eq_some_iff.1 h.td).1,h.ta.lt⟩
theorem TBx.step (h:TBx w b k tn u n S w1) (hb:Below w1.heap.size w1 w2):TBx w b k tn u n S w2:=
  ⟨by rw[hb.block _ (Array.getElem?_eq_some_iff.1 h.td).1];exact h.td,qVl h.ta hb,h.bel.trans (hb.mono h.bel.size),h.hb⟩
theorem TBx.drew (h:TBx w b k tn u n S w1):TBx w b k tn u n S w1.drew:=h.step (qAa br_ 1)
theorem TBx.alloc (h:TBx w b k tn u n S w1) (o:Obj):TBx w b k tn u n S (w1.alloc o):=h.step (br_.alloc le_ _)
theorem TBx.set (h:TBx w b k tn u n S w1) (T:ByteArray):TBx w b k tn u n T (((w1.setCell ⟨b+1,0,none⟩ (.bool u)).setCell ⟨b+1,1,none⟩ (.int .i64 n)).setCell ⟨b+1,2,none⟩ (.string T)):=
  ⟨by
    have hx:=h.td
    simp[World.setCell,Array.getElem?_modify,hx],qWm h.ta,qQl h.bel (by have:=h.hb;omega) _ _ _,h.hb⟩
theorem TBx.start (w:World) (k:Int) (tn u:Bool) (n:Int) (S:ByteArray):TBx w w.heap.size k tn u n S ((w.alloc (.cells #[.int .i64 k,.bool tn] 41)).alloc (.cells #[.bool u,.int .i64 n,.string S] 43)):=by
 have t2:=heap_alloc_new (w.alloc (.cells #[.int .i64 k,.bool tn] 41)) (.cells #[.bool u,.int .i64 n,.string S] 43);exact⟨by rw[Lib.alloc_old _ _ _ (by simp)];exact heap_alloc_new w _,by simpa[Tri] using t2,(br_.alloc le_ _).alloc (by simp) _,Nat.le_refl _⟩
end
section
end
theorem qWp (r:Int) (h0: -2147483648≤r) (h1:r≤2147483647) (w:World) :
    Calls Tryz.prog 245 #[.int .i32 r] w fun e w'=>e=.returned (.tuple #[.string ⟨(put r).toArray⟩,.bool (qBx r)])∧Below w.heap.size w w':=by
 have kc1:=fun (w:World) (n:Nat) (hn:n=w.heap.size) (a:Int)=>qIt (P:=Tryz.prog) w n hn 188 5 Tryz.underlying188 Tryz.underlying5 [a] 9 Tryz.underlying9
 have kc2:=fun (w:World) (n:Nat) (hn:n=w.heap.size) (a b:Int)=>qIt (P:=Tryz.prog) w n hn 188 5 Tryz.underlying188 Tryz.underlying5 [a,b] 9 Tryz.underlying9
 have kc3:=fun (w:World) (n:Nat) (hn:n=w.heap.size) (a b c:Int)=>qIt (P:=Tryz.prog) w n hn 188 5 Tryz.underlying188 Tryz.underlying5 [a,b,c] 9 Tryz.underlying9
 have kc4:=fun (w:World) (n:Nat) (hn:n=w.heap.size) (a b c d:Int)=>qIt (P:=Tryz.prog) w n hn 188 5 Tryz.underlying188 Tryz.underlying5 [a,b,c,d] 9 Tryz.underlying9
 simp only[List.map_cons,List.map_nil,List.length_cons,List.length_nil,Nat.zero_add,Nat.reduceAdd] at kc1 kc2 kc3 kc4;by_cases c1:r<0∨(55296≤r∧r≤57343)∨1114111<r
 · have hn:qBx r=false:=by rw[Bool.eq_false_iff];intro h;rw[qA4] at h;omega
   rw[hn,qWr hn];clear hn;rcases c1 with c|⟨c,d⟩|c
   · go_enter Tryz.func245,Tryz.ntmps245;go_wp2
     go_ret2;exact⟨rfl,Below.refl _ _⟩
   · have c':¬r<0:=by omega
     go_enter Tryz.func245,Tryz.ntmps245;go_wp2
     go_ret2;exact⟨rfl,Below.refl _ _⟩
   · have c':¬r<0:=by omega
     go_enter Tryz.func245,Tryz.ntmps245;go_wp2
     go_ret2;exact⟨rfl,Below.refl _ _⟩
 have hn:qBx r=true:=by rw[qA4];omega
 rw[hn,qLo hn,←qO1];clear hn;have c0:0≤r:=by omega
 have c0':¬r<0:=by omega
 have c3:r≤1114111:=by omega
 by_cases d1:r<128
 · rw[encodeRuneZ_one c0 (by omega)];clear c1;go_enter Tryz.func245,Tryz.ntmps245;go_wp2
   all_goals go_ret2
   all_goals exact⟨rfl,br_.alloc le_ _⟩
 by_cases d2:r<2048
 · rw[encodeRuneZ_two (by omega) (by omega)];clear c1;go_enter Tryz.func245,Tryz.ntmps245;go_wp2
   all_goals go_ret2
   all_goals exact⟨rfl,(br_.alloc le_ _).alloc (by simp) _⟩
 by_cases d3:r<65536
 · rw[encodeRuneZ_three (by omega)];have d4:r<55296∨57343<r:=by omega
   rcases d4 with d4|d4
   all_goals
    clear c1;go_enter Tryz.func245,Tryz.ntmps245;go_wp2
    all_goals go_ret2
    all_goals exact⟨rfl,(br_.alloc le_ _).alloc (by simp) _⟩
 · rw[encodeRuneZ_four (by omega) (by omega)];clear c1;go_enter Tryz.func245,Tryz.ntmps245;go_wp2
   all_goals go_ret2
   all_goals exact⟨rfl,(br_.alloc le_ _).alloc (by simp) _⟩
theorem qVr (s:ByteArray) (w:World) (h:s.size=1) :
    Calls Tryz.prog 244 #[.string s] w fun e w'=>e=.returned (.int .i32 (qA8 s.data.toList))∧w=w':=by
 have hl:s.data.toList.length=1:=by simpa using h
 have hb0:=qD1 s.data.toList 0;have g0:(s[0]'(by omega)).toNat=bt s.data.toList 0:=by rw[qCy];rfl
 have hn:qA8 s.data.toList=(bt s.data.toList 0:Int):=by simp[qA8,hl]
 rw[hn];clear hn hl;generalize bt s.data.toList 0=b0 at *; go_enter Tryz.func244,Tryz.ntmps244;go_wp2
 go_rounds 5
 go_ret;exact⟨qLv (by omega),rfl⟩
theorem qVv (s:ByteArray) (w:World) (h:s.size=2) :
    Calls Tryz.prog 244 #[.string s] w fun e w'=>e=.returned (.int .i32 (qA8 s.data.toList))∧w=w':=by
 have hl:s.data.toList.length=2:=by simpa using h
 have hb0:=qD1 s.data.toList 0;have g0:(s[0]'(by omega)).toNat=bt s.data.toList 0:=by rw[qCy];rfl
 have hb1:=qD1 s.data.toList 1;have g1:(s[1]'(by omega)).toNat=bt s.data.toList 1:=by rw[qCy];rfl
 have hn:qA8 s.data.toList=64*(bt s.data.toList 0%32:Nat)+(bt s.data.toList 1%64:Nat):=by simp[qA8,hl]
 rw[hn];clear hn hl;generalize bt s.data.toList 0=b0 at *; generalize bt s.data.toList 1=b1 at *; go_enter Tryz.func244,Tryz.ntmps244;go_wp2
 go_rounds 5
 go_ret;exact⟨qLv (by omega),rfl⟩
theorem qVp (s:ByteArray) (w:World) (h:s.size=3) :
    Calls Tryz.prog 244 #[.string s] w fun e w'=>e=.returned (.int .i32 (qA8 s.data.toList))∧w=w':=by
 have hl:s.data.toList.length=3:=by simpa using h
 have hb0:=qD1 s.data.toList 0;have g0:(s[0]'(by omega)).toNat=bt s.data.toList 0:=by rw[qCy];rfl
 have hb1:=qD1 s.data.toList 1;have g1:(s[1]'(by omega)).toNat=bt s.data.toList 1:=by rw[qCy];rfl
 have hb2:=qD1 s.data.toList 2;have g2:(s[2]'(by omega)).toNat=bt s.data.toList 2:=by rw[qCy];rfl
 have hn:qA8 s.data.toList=64*(64*(bt s.data.toList 0%16:Nat)+(bt s.data.toList 1%64:Nat))+(bt s.data.toList 2%64:Nat):=by simp[qA8,hl]
 rw[hn];clear hn hl;generalize bt s.data.toList 0=b0 at *; generalize bt s.data.toList 1=b1 at *; generalize bt s.data.toList 2=b2 at *; go_enter Tryz.func244,Tryz.ntmps244;go_wp2
 go_rounds 5
 go_ret;exact⟨qLv (by omega),rfl⟩
theorem qWf (s:ByteArray) (w:World) (h:s.size=4) :
    Calls Tryz.prog 244 #[.string s] w fun e w'=>e=.returned (.int .i32 (qA8 s.data.toList))∧w=w':=by
 have hl:s.data.toList.length=4:=by simpa using h
 have hb0:=qD1 s.data.toList 0;have g0:(s[0]'(by omega)).toNat=bt s.data.toList 0:=by rw[qCy];rfl
 have hb1:=qD1 s.data.toList 1;have g1:(s[1]'(by omega)).toNat=bt s.data.toList 1:=by rw[qCy];rfl
 have hb2:=qD1 s.data.toList 2;have g2:(s[2]'(by omega)).toNat=bt s.data.toList 2:=by rw[qCy];rfl
 have hb3:=qD1 s.data.toList 3;have g3:(s[3]'(by omega)).toNat=bt s.data.toList 3:=by rw[qCy];rfl
 have hn:qA8 s.data.toList=64*(64*(64*(bt s.data.toList 0%8:Nat)+(bt s.data.toList 1%64:Nat))+(bt s.data.toList 2%64:Nat))+(bt s.data.toList 3%64:Nat):=by simp[qA8,hl]
 rw[hn];clear hn hl;generalize bt s.data.toList 0=b0 at *; generalize bt s.data.toList 1=b1 at *; generalize bt s.data.toList 2=b2 at *; generalize bt s.data.toList 3=b3 at *; go_enter Tryz.func244,Tryz.ntmps244;go_wp2
 go_rounds 5
 go_ret;exact⟨qLv (by omega),rfl⟩
theorem qQg (s:ByteArray) (w:World) (h1:1≤s.size) (h4:s.size≤4) :
    Calls Tryz.prog 244 #[.string s] w fun e w'=>e=.returned (.int .i32 (qA8 s.data.toList))∧w=w':=by
 rcases(by omega:s.size=1∨s.size=2∨s.size=3∨s.size=4) with h|h|h|h
 · exact qVr s w h
 · exact qVv s w h
 · exact qVp s w h
 · exact qWf s w h
theorem qQo (l:Bs):0≤qA8 l∧qA8 l≤2097151:=by
 have h0:=qD1 l 0;have h1:=qD1 l 1;have h2:=qD1 l 2;have h3:=qD1 l 3;unfold qA8;repeat' split
 all_goals omega
theorem qSc (s:ByteArray) (w:World) (hs:s.size≤1000000) :
    Calls Tryz.prog 225 #[.string s] w fun e w'=>e=.returned (.tuple #[.int .i32 (qC2 s.data.toList).1,.int .i64 (qC2 s.data.toList).2.1,.bool (qC2 s.data.toList).2.2])∧Below w.heap.size w w':=by
 have hlen:s.data.toList.length=s.size:=by simp
 go_enter Tryz.func225,Tryz.ntmps225;go_wp2
 go_loopw [5] (fun i wr=> ∃k:Nat,1≤k∧k≤5∧k≤s.size+1∧i=.int .i64 k∧Hid (∀n,1≤n→n<k→Ms.hit s.data.toList n=false)∧Below w.heap.size w wr)
              (fun i _=>5-(RowKit.intOf i).toNat)
 case atStart=>exact⟨1,by omega,by omega,by omega,rfl,fun n a b=>by omega,Below.refl _ _⟩
 case round=>
  obtain⟨k,h1,h5,hk,rfl,hno,hb⟩:=hrel;by_cases hlt:k≤4∧k≤s.size
  · obtain ⟨h4,hks⟩:=hlt;have hsz:(s.extract 0 k).size=k:=by simp;omega
    have hbd:=qQo (s.data.toList.take k);have hext:(s.extract 0 k).toList=s.data.toList.take k:=by rw[Lib.toList_data,ext_list];simp
    have Hext:=hh_ hext;clear hext;go_wp2_with (go_at_call 244;refine(qQg _ _ (by rw[hsz];omega) (by rw[hsz];omega)).mono ?_;rintro e w' ⟨rfl,rfl⟩)
    refine(qWp _ (by omega) (by omega) _).mono ?_;rintro e w' ⟨rfl,hb1⟩;go_wp2_with fail
    · have e1:qBx (qA8 (List.take k s.data.toList))=true:=by assumption
      have e2:(put (qA8 (List.take k s.data.toList))==(s.extract 0 k).toList)=true:=by assumption
      rw[Hext.out] at e2;have hh:=qWi s.data.toList k (by omega) (by unfold Ms.hit;rw[e1,e2];rfl);go_ret3
      rw[hh];exact⟨zB2 (qHs e1).symm rfl rfl,hb.trans (hb1.mono hb.size)⟩
    all_goals
     go_roundw
     case rel=>
      refine⟨k+1,by omega,by omega,by omega,by go_num,fun n a b=>?_,hb.trans (hb1.mono hb.size)⟩;by_cases hn:n=k
      · subst hn;unfold Ms.hit;first
        | (have e2:(put (qA8 (List.take n s.data.toList))==(s.extract 0 n).toList)=false:=by assumption
           rw[Hext.out] at e2;rw[e2];simp)
        | (have e1:¬qBx (qA8 (List.take n s.data.toList))=true:=by assumption
           rw[Bool.eq_false_iff.2 e1];rfl)
      · exact hno.out n a (by omega)
     case measure=>simp[RowKit.intOf];omega
  · have hnn:=zAf s.data.toList (fun n a b c=>hno.out n a (by omega));have Hnn:=hh_ hnn;clear hnn;have hl2:(5:Nat)≤k∨s.size<k:=by omega
    rcases hl2 with hl2|hl2
    · have hl3:¬((k:Int)≤4):=by omega
      go_wp2_with fail
      go_ret3
      rw[Hnn.out];exact⟨rfl,hb⟩
    · have hl3:¬(k:Int)≤(s.size:Int):=by omega
      go_wp2_with fail
      all_goals
       go_ret3
       rw[Hnn.out];exact⟨rfl,hb⟩
def strSize:Value→Nat
  | .string s=>s.size
  |_=>0
theorem qRz (s0:ByteArray) (w:World) (hs:s0.size≤1000000) :
    Calls Tryz.prog 192 #[.string s0] w fun e w'=>e=.returned (.bool (validD s0.data.toList))∧Below w.heap.size w w':=by
 obtain⟨V,hV⟩:∃V,validD s0.data.toList=V:=⟨_,rfl⟩;rw[hV];have HV:=hh_ hV;clear hV;go_enter Tryz.func192,Tryz.ntmps192;go_wp2
 go_loopw [0] (fun x wr=> ∃s:ByteArray,x=.string s∧s.size≤1000000∧Hid (validD s.data.toList=V)∧Below w.heap.size w wr) (fun x _=>strSize x)
 case atStart=>exact⟨s0,rfl,hs,HV,Below.refl _ _⟩
 case round=>
  obtain⟨s,rfl,hsz,hv,hb⟩:=hrel;have hl:s.data.toList.length=s.size:=by simp
  by_cases h0:s.size=0
  · have hnil:s.data.toList=[]:=List.eq_nil_of_length_eq_zero (by omega);have hvt:V=true:=by rw[←hv.out,hnil];rfl
    subst hvt;have hlt:¬(0:Int)<(s.size:Int):=by omega
    clear hnil h0;go_wp2_with fail
    go_ret;exact⟨rfl,hb⟩
  · have hne:s.data.toList≠[]:=by intro e;rw[e] at hl;simp at hl;omega
    have hlt:(0:Int)<(s.size:Int):=by omega
    have hv1:=hv.out;rw[qKo _ hne] at hv1;have cn:=fun w=>qSc s w hsz
    rcases qC6 s.data.toList with e|⟨r,h1,h2,h3⟩
    · rw[e] at cn hv1;simp at hv1;subst hv1;have CN:=hh_ cn;clear cn e hne hl h0 hv;go_wp2_with fail
      refine(CN.out _).mono ?_;rintro en w1 ⟨rfl,b1⟩;go_wp2_with fail
      go_ret;exact⟨rfl,hb.trans (b1.mono hb.size)⟩
    · rw[h2] at cn hv1;simp only[if_true] at hv1;have hle:=qAz r;have hll:=congrArg List.length h3;rw[List.length_append,List.length_drop] at hll;generalize (encodeRune r).length=n at *; have hn:n≤s.size:=by omega
      have hext:(s.extract n s.size).data.toList=s.data.toList.drop n:=by rw[ext_list,List.take_of_length_le (by omega)]
      rw[←hext] at hv1;have hz:(s.extract n s.size).size=s.size-n:=by simp
      have hv':=hh_ hv1;have hz':=hh_ hz;have CN:=hh_ cn;have hn1:=hle.1;have hni:(n:Int)≤(s.size:Int):=by omega
      clear cn h2 h3 hne hl hv hext hv1 hz h1 h0 hll hle;go_wp2_with fail
      refine(CN.out _).mono ?_;rintro en w1 ⟨rfl,b1⟩;go_wp2_with fail
      go_roundw
      case rel=>exact⟨_,rfl,by rw[hz'.out];omega,hv',hb.trans (b1.mono hb.size)⟩
      case measure=>simp only[strSize];rw[hz'.out];omega
theorem qXr (k:Int) (nu:Bool) (w:World) :
    Calls Tryz.prog 137 #[.agg #[.int .i64 k,.bool nu]] w fun e w'=>e=.returned (.bool (kMay k))∧Below w.heap.size w w':=by
 by_cases h1:1≤k
 · by_cases h2:k≤5
   · have hd:kMay k=true:=by simp[kMay];omega
     rw[hd];clear hd;go_enter Tryz.func137,Tryz.ntmps137;go_wp2
     go_ret;exact⟨rfl,br_.alloc le_ _⟩
   · have hd:kMay k=false:=by simp[kMay];omega
     rw[hd];clear hd;go_enter Tryz.func137,Tryz.ntmps137;go_wp2
     go_ret;exact⟨rfl,br_.alloc le_ _⟩
 · have hd:kMay k=false:=by simp[kMay];omega
   rw[hd];clear hd;go_enter Tryz.func137,Tryz.ntmps137;go_wp2
   go_ret;exact⟨rfl,br_.alloc le_ _⟩
theorem qU8 (k:Int) (tn:Bool) (n:Int) (S:ByteArray) (w:World) :
    Calls Tryz.prog 138 #[.agg #[.int .i64 k,.bool tn],.agg #[.bool true,.int .i64 n,.string S]] w fun e w'=>e=.returned (.bool (tn&&decide (n=0)&&decide (S.data.toList=[])))∧Below w.heap.size w w':=by
 cases tn with
 |false=>
  simp only[Bool.false_and];go_enter Tryz.func138,Tryz.ntmps138;go_wp2
  go_ret;exact⟨rfl,(br_.alloc le_ _).alloc (by simp) _⟩
 |true=>
  by_cases hn:n=0
  · subst hn;by_cases hS:S.data.toList=[]
    · obtain rfl:S=⟨#[]⟩:=qBu hS;simp only[decide_true,Bool.and_true];go_enter Tryz.func138,Tryz.ntmps138;go_wp2
      go_ret;exact⟨rfl,(br_.alloc le_ _).alloc (by simp) _⟩
    · have e1:(S.toList==[])=false:=by rw[Lib.toList_data];simpa using hS
      have e2:¬S.toList=[]:=by rw[Lib.toList_data];exact hS
      have e3:S.toList.isEmpty=false:=by rw[Lib.toList_data];simpa using hS
      rw[decide_eq_false hS,Bool.and_false];clear hS;go_enter Tryz.func138,Tryz.ntmps138;go_wp2
      go_ret;exact⟨rfl,(br_.alloc le_ _).alloc (by simp) _⟩
  · have e1:(n==0)=false:=by simpa using hn
    rw[decide_eq_false hn,Bool.and_false,Bool.false_and];clear hn;go_enter Tryz.func138,Tryz.ntmps138;go_wp2
    go_ret;exact⟨rfl,(br_.alloc le_ _).alloc (by simp) _⟩
theorem qOw (k:Int) (hk:k=1∨k=2∨k=3) (tn:Bool) (n:Int) (S:ByteArray) (w:World) (b0: -9223372036854775808≤n) (b1:n≤9223372036854775807) :
    Calls Tryz.prog 138 #[.agg #[.int .i64 k,.bool tn],.agg #[.bool false,.int .i64 n,.string S]] w fun e w'=>e=.returned (.bool (kIs k n S.data.toList))∧Below w.heap.size w w':=by
 by_cases hS:S.data.toList=[]
 · obtain rfl:S=⟨#[]⟩:=qBu hS;clear hS;rcases hk with rfl|rfl|rfl
   · have hd:kIs 1 n (⟨#[]⟩:ByteArray).data.toList=(decide (n=0)||decide (n=1)):=by
       rw[Bool.eq_iff_iff,is1,Bool.or_eq_true,decide_eq_true_iff,decide_eq_true_iff];exact⟨fun h=>by omega,fun h=>⟨rfl,by omega,by omega⟩⟩
     rw[hd];clear hd;by_cases h0:n=0
     · subst h0;go_enter Tryz.func138,Tryz.ntmps138;go_wp2
       go_ret;exact⟨rfl,(br_.alloc le_ _).alloc (by simp) _⟩
     · have q0:(n==0)=false:=by simpa using h0
       rw[decide_eq_false h0,Bool.false_or];by_cases h1:n=1
       · subst h1;clear h0;go_enter Tryz.func138,Tryz.ntmps138;go_wp2
         go_ret;exact⟨rfl,(br_.alloc le_ _).alloc (by simp) _⟩
       · have q1:(n==1)=false:=by simpa using h1
         rw[decide_eq_false h1];clear h0 h1;go_enter Tryz.func138,Tryz.ntmps138;go_wp2
         go_ret;exact⟨rfl,(br_.alloc le_ _).alloc (by simp) _⟩
   · by_cases h0: -2147483648≤n
     · by_cases h1:n≤2147483647
       · rw[show kIs 2 n (⟨#[]⟩:ByteArray).data.toList=true from is2.2 ⟨rfl,h0,h1⟩];go_enter Tryz.func138,Tryz.ntmps138;go_wp2
         go_ret;exact⟨rfl,(br_.alloc le_ _).alloc (by simp) _⟩
       · rw[show kIs 2 n (⟨#[]⟩:ByteArray).data.toList=false from by rw[←Bool.not_eq_true];exact fun h=>h1 (is2.1 h).2.2];go_enter Tryz.func138,Tryz.ntmps138;go_wp2
         go_ret;exact⟨rfl,(br_.alloc le_ _).alloc (by simp) _⟩
     · rw[show kIs 2 n (⟨#[]⟩:ByteArray).data.toList=false from by rw[←Bool.not_eq_true];exact fun h=>h0 (is2.1 h).2.1];go_enter Tryz.func138,Tryz.ntmps138;go_wp2
       go_ret;exact⟨rfl,(br_.alloc le_ _).alloc (by simp) _⟩
   · rw[show kIs 3 n (⟨#[]⟩:ByteArray).data.toList=true from is3.2 ⟨rfl,b0,b1⟩];go_enter Tryz.func138,Tryz.ntmps138;go_wp2
     go_ret;exact⟨rfl,(br_.alloc le_ _).alloc (by simp) _⟩
 · have e1:(S.toList==[])=false:=by rw[Lib.toList_data];simpa using hS
   have e2:¬S.toList=[]:=by rw[Lib.toList_data];exact hS
   have e3:S.toList.isEmpty=false:=by rw[Lib.toList_data];simpa using hS
   rcases hk with rfl|rfl|rfl
   · rw[show kIs 1 n S.data.toList=false from by rw[←Bool.not_eq_true];exact fun h=>hS (is1.1 h).1];clear hS;go_enter Tryz.func138,Tryz.ntmps138;go_wp2
     go_ret;exact⟨rfl,(br_.alloc le_ _).alloc (by simp) _⟩
   · rw[show kIs 2 n S.data.toList=false from by rw[←Bool.not_eq_true];exact fun h=>hS (is2.1 h).1];clear hS;go_enter Tryz.func138,Tryz.ntmps138;go_wp2
     go_ret;exact⟨rfl,(br_.alloc le_ _).alloc (by simp) _⟩
   · rw[show kIs 3 n S.data.toList=false from by rw[←Bool.not_eq_true];exact fun h=>hS (is3.1 h).1];clear hS;go_enter Tryz.func138,Tryz.ntmps138;go_wp2
     go_ret;exact⟨rfl,(br_.alloc le_ _).alloc (by simp) _⟩
theorem qR0 (k:Int) (hk:k=4∨k=5) (tn:Bool) (n:Int) (S:ByteArray) (w:World) (hs:S.size≤100000) :
    Calls Tryz.prog 138 #[.agg #[.int .i64 k,.bool tn],.agg #[.bool false,.int .i64 n,.string S]] w fun e w'=>e=.returned (.bool (kIs k n S.data.toList))∧Below w.heap.size w w':=by
 have cv:=fun w=>qRz S w (by omega)
 have hl:=lenS S;by_cases hn:n=0
 · subst hn;by_cases hz:S.size≤1024
   · have hzi:(S.size:Int)≤1024:=by omega
     rcases hk with rfl|rfl
     · have hd:kIs 4 0 S.data.toList=validD S.data.toList:=by
         rw[Bool.eq_iff_iff,is4];exact⟨fun h=>h.2.2,fun h=>⟨rfl,by omega,h⟩⟩
       rw[hd];generalize validD S.data.toList=V at *; have CV:=hh_ cv;clear cv hl hd;go_enter Tryz.func138,Tryz.ntmps138;go_wp2_with fail
       refine(CV.out _).mono ?_;rintro en w1 ⟨rfl,b1⟩;go_wp2_with fail
       go_ret;exact⟨rfl,((br_.alloc le_ _).alloc (by simp) _).trans (b1.mono (by simp;omega))⟩
     · rw[show kIs 5 0 S.data.toList=true from is5.2 ⟨rfl,by omega⟩];clear cv hl;go_enter Tryz.func138,Tryz.ntmps138;go_wp2
       go_ret;exact⟨rfl,(br_.alloc le_ _).alloc (by simp) _⟩
   · have hzi:¬(S.size:Int)≤1024:=by omega
     rw[show kIs k 0 S.data.toList=false from by rw[←Bool.not_eq_true];exact fun h=>hz (by have:=(is45 hk h).2;omega)];clear cv hl;rcases hk with rfl|rfl
     · go_enter Tryz.func138,Tryz.ntmps138;go_wp2
       go_ret;exact⟨rfl,(br_.alloc le_ _).alloc (by simp) _⟩
     · go_enter Tryz.func138,Tryz.ntmps138;go_wp2
       go_ret;exact⟨rfl,(br_.alloc le_ _).alloc (by simp) _⟩
 · have q0:(n==0)=false:=by simpa using hn
   rw[show kIs k n S.data.toList=false from by rw[←Bool.not_eq_true];exact fun h=>hn (is45 hk h).1];clear cv hl;rcases hk with rfl|rfl
   · go_enter Tryz.func138,Tryz.ntmps138;go_wp2
     go_ret;exact⟨rfl,(br_.alloc le_ _).alloc (by simp) _⟩
   · go_enter Tryz.func138,Tryz.ntmps138;go_wp2
     go_ret;exact⟨rfl,(br_.alloc le_ _).alloc (by simp) _⟩
theorem qY5 (k:Int) (hk:kMay k=true) (tn u:Bool) (n:Int) (S:ByteArray) (w:World) (hs:S.size≤100000) (b0: -9223372036854775808≤n) (b1:n≤9223372036854775807) :
    Calls Tryz.prog 138 #[.agg #[.int .i64 k,.bool tn],.agg #[.bool u,.int .i64 n,.string S]] w fun e w'=>e=.returned (.bool (kOk k tn u n S.data.toList))∧Below w.heap.size w w':=by
 cases u with
 |true=>
  have h:kOk k tn true n S.data.toList=(tn&&decide (n=0)&&decide (S.data.toList=[])):=rfl;rw[h];exact qU8 k tn n S w
 |false=>
  have h:kOk k tn false n S.data.toList=kIs k n S.data.toList:=by simp[kOk]
  rw[h];rcases qE3 hk with rfl|rfl|rfl|rfl|rfl
  · exact qOw 1 (.inl rfl) tn n S w b0 b1
  · exact qOw 2 (.inr (.inl rfl)) tn n S w b0 b1
  · exact qOw 3 (.inr (.inr rfl)) tn n S w b0 b1
  · exact qR0 4 (.inl rfl) tn n S w hs
  · exact qR0 5 (.inr rfl) tn n S w hs
theorem qEa (k:Int) (tn u:Bool) (n:Int) (S:ByteArray) (w:World) (hs:S.size≤100000) (b0: -9223372036854775808≤n) (b1:n≤9223372036854775807) :
    Calls Tryz.prog 94 #[.agg #[.int .i64 k,.bool tn],.agg #[.bool u,.int .i64 n,.string S]] w fun e w'=>e=.returned (.int .i64 (qA1 k tn u n S.data.toList))∧Below w.heap.size w w':=by
 have cm:=fun w'=>qXr k tn w'
 have x0:=TBx.start w k tn u n S;unfold qA1
 cases hk:kMay k with
 |false=>
  rw[if_neg (by simp)];rw[hk] at cm;have CM:=hh_ cm;have X0:=hh_ x0;clear cm x0 hk;go_enter Tryz.func94,Tryz.ntmps94;go_wp2_with fail
  refine(CM.out _).mono ?_;rintro en w1 ⟨rfl,bb1⟩;go_wp2_with fail
  go_ret;exact⟨rfl,(X0.out.step bb1).bel⟩
 | true=>
  rw[if_pos rfl];rw[hk] at cm;have co:=fun w'=>qY5 k hk tn u n S w' hs b0 b1
  generalize kOk k tn u n S.data.toList=V at *; have CM:=hh_ cm;have X0:=hh_ x0;have CO:=hh_ co;clear cm x0 co hk;cases V
  all_goals
   go_enter Tryz.func94,Tryz.ntmps94;go_wp2_with fail
   refine(CM.out _).mono ?_;rintro en w1 ⟨rfl,bb1⟩;have x1:=X0.out.step bb1;obtain⟨d0,d1,a0,a1,a2,f0,f1,f2,l0,l1⟩:=x1.cells;have X1:=hh_ x1;clear x1 bb1;go_wp2_with fail
   refine(CO.out _).mono ?_;rintro en w2 ⟨rfl,bb2⟩;go_wp2_with fail
   go_ret;exact⟨rfl,(X1.out.step bb2).bel⟩
end Go.Proofs.YtainiaighnjpfaaGreatDoor
namespace Go.Ms
open Go.Lib
theorem qEf {l:Bs} {p n:Nat} {acc r:Bs} (h:l.drop p=92::r) (he:(qAw l (p+1) 0).2.2=3):uqGo l (n+2) acc p 0=([],0,3):=by
 obtain⟨g1,g2,_⟩:=qAk h;rw[qBp,if_pos rfl,if_neg (by omega),if_neg (by rw[g2];decide),if_pos (by rw[g2];rfl),he,qYc _ _ _ _ (by decide)]
theorem qNn {l:Bs} {p n:Nat} {acc:Bs} (hp:p≤l.length) (h:l.drop p=[]):uqGo l (n+1) acc p 0=([],0,3):=by
 have:p=l.length:=by
  have:=congrArg List.length h;simp at this;omega
 rw[qBp,if_pos rfl,if_pos this]
theorem qVi {l:Bs} {p:Nat} {n:Int} (h:(qBd l 92 p 0).2=3):(rdPair l p 0 n).2.2=3:=by
 unfold rdPair;simp only[h,qPz _ _ _ (show(3:Int)≠0 by decide)];rw[(qIz l true _ (by decide)).1,if_neg (by decide)]
theorem qXc {l:Bs} {p p':Nat} {n:Int} (h:qBd l 92 p 0=(p',0)) (h2:(qBd l 117 p' 0).2=3):(rdPair l p 0 n).2.2=3:=by
 unfold rdPair;simp only[h,h2];rw[(qIz l true _ (by decide)).1,if_neg (by decide)]
theorem qXl {l:Bs} {p p' p'':Nat} {n:Int} (h:qBd l 92 p 0=(p',0)) (h2:qBd l 117 p' 0=(p'',0)) (h3:(qBj l true p'' 0).2.2=3):(rdPair l p 0 n).2.2=3:=by
 unfold rdPair;simp only[h,h2,h3];rw[if_neg (by decide)]
theorem qS7 {l:Bs} {p p3:Nat} {n:Int} (h:qBj l false p 0=(n,p3,0)) (hn:55296≤n∧n<56320):qEz l (p,0) (0,0)=rdPair l p3 0 n:=by
 unfold qEz;simp only[h];rw[if_pos hn]
theorem qWa {q t:Bs} (hq:Part q t) {l:Bs} {p j n:Nat} {acc:Bs} (hj:j<q.length) (hp:p≤l.length) (h:l.drop p=q.take j):uqGo l (n+2) acc p 0=([],0,3):=by
 have hlen:=congrArg List.length h;rw[List.length_drop,List.length_take] at hlen
 cases j with
 |zero=>exact qNn hp h
 |succ j=>
 cases hq with
 | rune r hr h1 h2 h3=>
  obtain⟨c,tl,e,ea,eh⟩:=qPi hr;have hb:=(qA4 r).1 hr
  have hr2:128≤r:=by
   rcases Int.lt_or_le r 128 with g|g
   · rw[qEl (by omega) (by omega)] at hj;simp at hj
   · exact g
  have hc:l.drop p=c::tl.take j:=by rw[h,e];rfl
  obtain⟨g1,g2,_⟩:=qAk hc;have hx:=eh hr2;have n1:=qV8 hr (j:=j+1) (by omega) hj;have n2:=qWh hr (j:=j+1) (by omega) hj
  have hpl:qBg l p 0=([],p,(3:Int)):=by
   unfold qBg;rw[if_neg (by omega),h,n1,n2];rfl
  rw[qBp,if_pos rfl,if_neg (by omega),if_neg (by omega),if_neg (by omega),hpl,qYc _ _ _ _ (show(3:Int)≠0 by decide)]
 |slash=>
  obtain rfl:j=0:=by simp at hj;omega
  have h':l.drop p=92::[]:=h;exact qEf h' (qLq (by simp at hlen;omega) (qAk h').2.2)
 |short c k hk=>
  obtain rfl:j=0:=by simp at hj;omega
  have h':l.drop p=92::[]:=h;exact qEf h' (qLq (by simp at hlen;omega) (qAk h').2.2)
 | four c1 c2 c3 c4 k1 k2 k3 k4 ho hn=>
  have h':l.drop p=92::([117,c1,c2,c3,c4]:Bs).take j:=h;obtain⟨g1,g2,g3⟩:=qAk h'
  cases j with
  |zero=>exact qEf h' (qLq (by omega) g3)
  |succ j=>
   have g4:l.drop (p+1)=117::([c1,c2,c3,c4]:Bs).take j:=g3;obtain⟨g5,g6,g7⟩:=qAk g4;refine qEf h' ?_;rw[zA5 g4];exact qLl (by decide) (qMm false (by omega) (by simp at hj;omega) g7 k1 k2 k3 ho)
 | pair c1 c2 c3 c4 d1 d2 d3 d4 k1 k2 k3 k4 j1 j2 j3 j4 ho hn hp2=>
  have h':l.drop p=92::([117,c1,c2,c3,c4,92,117,d1,d2,d3,d4]:Bs).take j:=h;obtain⟨g1,g2,g3⟩:=qAk h'
  cases j with
  |zero=>exact qEf h' (qLq (by omega) g3)
  |succ j=>
   have g4:l.drop (p+1)=117::([c1,c2,c3,c4,92,117,d1,d2,d3,d4]:Bs).take j:=g3;obtain⟨g5,g6,g7⟩:=qAk g4;refine qEf h' ?_;rw[zA5 g4];by_cases hj4:j<4
   · have e:([c1,c2,c3,c4,92,117,d1,d2,d3,d4]:Bs).take j=([c1,c2,c3,c4]:Bs).take j:=by
       rcases(by omega:j=0∨j=1∨j=2∨j=3) with rfl|rfl|rfl|rfl <;> rfl
     rw[e] at g7;exact qLl (by decide) (qMm false (by omega) hj4 g7 k1 k2 k3 ho)
   · obtain⟨i,rfl⟩:∃i,j=i+4:=⟨j-4,by omega⟩;have g8:l.drop (p+1+1)=c1::c2::c3::c4::([92,117,d1,d2,d3,d4]:Bs).take i:=g7;have hh:=qLw false g8 k1 k2 k3 k4 ho;have g9:=(qAk (qAk (qAk (qAk g8).2.2).2.2).2.2);obtain⟨g10,_,g11⟩:=g9;rw[qS7 hh hn]
     cases i with
     |zero=>exact qVi (by rw[qPg (by omega) g11 (by decide)])
     | succ i=>
      have g12:l.drop (p+1+1+4)=92::([117,d1,d2,d3,d4]:Bs).take i:=g11;have w1:qBd l 92 (p+1+1+4) 0=(p+1+1+4+1,(0:Int)):=qLm g12;obtain⟨g13,_,g14⟩:=qAk g12
      cases i with
      |zero=>exact qXc w1 (by rw[qPg (by omega) g14 (by decide)])
      |succ i=>
       have g15:l.drop (p+1+1+4+1)=117::([d1,d2,d3,d4]:Bs).take i:=g14;have w2:qBd l 117 (p+1+1+4+1) 0=(p+1+1+4+1+1,(0:Int)):=qLm g15;obtain⟨g16,_,g17⟩:=qAk g15;exact qXl w1 w2 (qMm true (by omega) (by simp at hj;omega) g17 j1 j2 j3 hp2)
theorem go_cut {k:Nat} {q t:Bs} (h:Lits k q t):∀{l:Bs} {p j N:Nat} {acc:Bs},j≤q.length→p≤l.length→l.drop p=q.take j→j+2≤N→uqGo l N acc p 0=([],0,3):=by
 induction h with
 |nil=>
  intro l p j N acc _ hp hd hN;obtain⟨N,rfl⟩:∃M,N=M+1:=⟨N-1,by omega⟩;exact qNn hp (by rw[hd];simp)
 |@cons k' q t q' t' h _ ih=>
  intro l p j N acc hj hp hd hN;obtain⟨N,rfl⟩:∃M,N=M+2:=⟨N-2,by omega⟩;by_cases hc:j<q.length
  · rw[List.take_append_of_le_length (by omega)] at hd;exact qWa h hc hp hd
  · have e:(q++q').take j=q++q'.take (j-q.length):=by
      rw[List.take_append,List.take_of_length_le (by omega)]
    rw[e] at hd;have hlen:=congrArg List.length hd;rw[List.length_drop,List.length_append] at hlen;have:=h.pos;rw[qZm h hd];exact ih (by rw[List.length_append] at hj;omega) (by omega) (qPm hd) (by omega)
end Go.Ms
