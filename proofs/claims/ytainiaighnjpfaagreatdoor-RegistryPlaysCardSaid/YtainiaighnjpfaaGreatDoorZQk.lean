/- Cells: what each kind's fields answer, said by the plain functions; what 'of' gives, kind by kind. Cells: which types may be; nothing's cell of a type; what is checked. Cells: what is checked. Cells: what is checked, at nothing; whole. -/
import Derived.Test.YtainiaighnjpfaaGreatDoorZQj
set_option maxHeartbeats 2000000
set_option maxRecDepth 100000
set_option linter.unusedVariables false
namespace Go.Proofs.YtainiaighnjpfaaGreatDoor
open Go.RowKit Go.Ms Go.Lib
theorem strS (S:ByteArray):(⟨S.data.toList.toArray⟩:ByteArray)=S:=(qBu rfl).symm
theorem lenS (S:ByteArray):S.data.toList.length=S.size:=by simp
structure Pl (lo hi:Int) (a b:Nat) (w:World):Prop where
  ca:w.cell? ⟨a,0,none⟩=some (.int .i64 lo)
  cb:w.cell? ⟨b,0,none⟩=some (.int .i64 hi)
structure Vl (a:Nat) (w:World):Prop where
  ca:w.cell? ⟨a,0,none⟩=some (fnV 146)
theorem Pl.below {lo hi:Int} {a b:Nat} {w w':World} (h:Pl lo hi a b w) (hb:Below w.heap.size w w'):Pl lo hi a b w':=
  ⟨by rw[hb.cell (qAg h.ca)];exact h.ca,by rw[hb.cell (qAg h.cb)];exact h.cb⟩
theorem Vl.below {a:Nat} {w w':World} (h:Vl a w) (hb:Below w.heap.size w w'):Vl a w':=⟨by rw[hb.cell (qAg h.ca)];exact h.ca⟩
theorem of_1 (nu:Bool) (w:World) :
    Calls Tryz.prog 106 #[.agg #[.int .i64 1,.bool nu]] w fun e w'=> ∃a b,e=.returned (.agg #[qB9 a b,fnV 147,fnV 149,fnV 150,fnV 151])∧Pl 0 1 a b w'∧Below w.heap.size w w':=by
 refine(qNh 1 (by omega) nu w).mono ?_;rintro e w' ⟨v,rfl,hk,hb⟩;rcases hk with⟨h,⟨a,b,rfl,h1,h2⟩⟩|⟨h,_⟩|⟨h,_⟩|⟨h,_⟩|⟨h,_⟩
 · exact⟨a,b,rfl,⟨h1,h2⟩,hb⟩
 · omega
 · omega
 · omega
 · omega
theorem of_2 (nu:Bool) (w:World) :
    Calls Tryz.prog 106 #[.agg #[.int .i64 2,.bool nu]] w fun e w'=> ∃a b,e=.returned (.agg #[qB9 a b,fnV 152,fnV 153,fnV 154,fnV 155])∧Pl (-2147483648) 2147483647 a b w'∧Below w.heap.size w w':=by
 refine(qNh 2 (by omega) nu w).mono ?_;rintro e w' ⟨v,rfl,hk,hb⟩;rcases hk with⟨h,_⟩|⟨h,⟨a,b,rfl,h1,h2⟩⟩|⟨h,_⟩|⟨h,_⟩|⟨h,_⟩
 · omega
 · exact⟨a,b,rfl,⟨h1,h2⟩,hb⟩
 · omega
 · omega
 · omega
theorem of_3 (nu:Bool) (w:World) :
    Calls Tryz.prog 106 #[.agg #[.int .i64 3,.bool nu]] w fun e w'=> ∃a b,e=.returned (.agg #[qB9 a b,fnV 152,fnV 153,fnV 154,fnV 155])∧Pl (-9223372036854775808) 9223372036854775807 a b w'∧Below w.heap.size w w':=by
 refine(qNh 3 (by omega) nu w).mono ?_;rintro e w' ⟨v,rfl,hk,hb⟩;rcases hk with⟨h,_⟩|⟨h,_⟩|⟨h,⟨a,b,rfl,h1,h2⟩⟩|⟨h,_⟩|⟨h,_⟩
 · omega
 · omega
 · exact⟨a,b,rfl,⟨h1,h2⟩,hb⟩
 · omega
 · omega
theorem of_4 (nu:Bool) (w:World) :
    Calls Tryz.prog 106 #[.agg #[.int .i64 4,.bool nu]] w fun e w'=> ∃a,e=.returned (.agg #[qJk a,fnV 158,fnV 159,fnV 160,fnV 161])∧Vl a w'∧Below w.heap.size w w':=by
 refine(qNh 4 (by omega) nu w).mono ?_;rintro e w' ⟨v,rfl,hk,hb⟩;rcases hk with⟨h,_⟩|⟨h,_⟩|⟨h,_⟩|⟨h,⟨a,rfl,h1⟩⟩|⟨h,_⟩
 · omega
 · omega
 · omega
 · exact⟨a,rfl,⟨h1⟩,hb⟩
 · omega
theorem of_5 (nu:Bool) (w:World) :
    Calls Tryz.prog 106 #[.agg #[.int .i64 5,.bool nu]] w fun e w'=>e=.returned (.agg #[fnV 146,fnV 162,fnV 163,fnV 160,fnV 161])∧Below w.heap.size w w':=by
 refine(qNh 5 (by omega) nu w).mono ?_;rintro e w' ⟨v,rfl,hk,hb⟩;rcases hk with⟨h,_⟩|⟨h,_⟩|⟨h,_⟩|⟨h,_⟩|⟨h,rfl⟩
 · omega
 · omega
 · omega
 · omega
 · exact⟨rfl,hb⟩
theorem is_1 (a b:Nat) (n:Int) (nu:Bool) (S:ByteArray) (w:World) (hp:Pl 0 1 a b w) :
    Calls Tryz.prog 145 #[.agg #[.bool nu,.int .i64 n,.string S],.pointer (some ⟨a,0,none⟩),.pointer (some ⟨b,0,none⟩)] w fun e w'=>e=.returned (.bool (kIs 1 n S.data.toList))∧Below w.heap.size w w':=by
 have h:=qH1 a b 0 1 n nu S.data.toList w hp.ca hp.cb;rw[strS] at h;exact h
theorem is_2 (a b:Nat) (n:Int) (nu:Bool) (S:ByteArray) (w:World) (hp:Pl (-2147483648) 2147483647 a b w) :
    Calls Tryz.prog 145 #[.agg #[.bool nu,.int .i64 n,.string S],.pointer (some ⟨a,0,none⟩),.pointer (some ⟨b,0,none⟩)] w fun e w'=>e=.returned (.bool (kIs 2 n S.data.toList))∧Below w.heap.size w w':=by
 have h:=qH1 a b (-2147483648) 2147483647 n nu S.data.toList w hp.ca hp.cb;rw[strS] at h;exact h
theorem is_3 (a b:Nat) (n:Int) (nu:Bool) (S:ByteArray) (w:World) (hp:Pl (-9223372036854775808) 9223372036854775807 a b w) :
    Calls Tryz.prog 145 #[.agg #[.bool nu,.int .i64 n,.string S],.pointer (some ⟨a,0,none⟩),.pointer (some ⟨b,0,none⟩)] w fun e w'=>e=.returned (.bool (kIs 3 n S.data.toList))∧Below w.heap.size w w':=by
 have h:=qH1 a b (-9223372036854775808) 9223372036854775807 n nu S.data.toList w hp.ca hp.cb;rw[strS] at h;exact h
theorem is_4 (a:Nat) (n:Int) (nu:Bool) (S:ByteArray) (w:World) (hp:Vl a w) (hs:S.size≤100000) (hE:Env w) :
    Calls Tryz.prog 156 #[.agg #[.bool nu,.int .i64 n,.string S],.pointer (some ⟨a,0,none⟩)] w fun e w'=>e=.returned (.bool (kIs 4 n S.data.toList))∧Below w.heap.size w w':=by
 have h:=qRo a n nu S w hp.ca hs hE.tabs;rw[←lenS] at h;exact h
theorem is_5 (n:Int) (nu:Bool) (S:ByteArray) (w:World) (hs:S.size≤100000) :
    Calls Tryz.prog 146 #[.agg #[.bool nu,.int .i64 n,.string S]] w fun e w'=>e=.returned (.bool (kIs 5 n S.data.toList))∧Below w.heap.size w w':=by
 have h:=qNk n nu S.data.toList w (by rw[lenS];exact hs);rw[strS] at h;exact h
theorem zBp (n:Int) (nu:Bool) (S:ByteArray) (w:World) :
    Calls Tryz.prog 147 #[.agg #[.bool nu,.int .i64 n,.string S]] w fun e w'=>e=.returned (.string ⟨(qF4 1 n S.data.toList).toArray⟩)∧Below w.heap.size w w':=by
 have h:=qSr n nu S.data.toList w;rw[strS] at h;exact h
theorem zAy (n:Int) (nu:Bool) (S:ByteArray) (w:World) (h0: -9223372036854775808≤n) (h1:n≤9223372036854775807) (hE:Env w) :
    Calls Tryz.prog 152 #[.agg #[.bool nu,.int .i64 n,.string S]] w fun e w'=>e=.returned (.string ⟨(qF4 2 n S.data.toList).toArray⟩)∧Below w.heap.size w w':=by
 exact qKr n nu S w h0 h1 hE
theorem qZ9 (n:Int) (nu:Bool) (S:ByteArray) (w:World) (h0: -9223372036854775808≤n) (h1:n≤9223372036854775807) (hE:Env w) :
    Calls Tryz.prog 152 #[.agg #[.bool nu,.int .i64 n,.string S]] w fun e w'=>e=.returned (.string ⟨(qF4 3 n S.data.toList).toArray⟩)∧Below w.heap.size w w':=by
 exact qKr n nu S w h0 h1 hE
theorem zA8 (n:Int) (nu:Bool) (S:ByteArray) (w:World) (hs:S.size≤100000) (hE:Env w) :
    Calls Tryz.prog 158 #[.agg #[.bool nu,.int .i64 n,.string S]] w fun e w'=>e=.returned (.string ⟨(qF4 4 n S.data.toList).toArray⟩)∧Below w.heap.size w w':=by
 exact qQe n nu S w hs hE.tabs
theorem zAa (n:Int) (nu:Bool) (S:ByteArray) (w:World) (hs:S.size≤100000) :
    Calls Tryz.prog 162 #[.agg #[.bool nu,.int .i64 n,.string S]] w fun e w'=>e=.returned (.string ⟨(qF4 5 n S.data.toList).toArray⟩)∧Below w.heap.size w w':=by
 exact qY8 n nu S w hs
theorem qYh (S:ByteArray) (w:World) :
    Calls Tryz.prog 149 #[.string S] w fun e w'=>e=.returned (.agg #[.bool false,.int .i64 (qCf 1 S.data.toList).1,.string ⟨(qCf 1 S.data.toList).2.toArray⟩])∧Below w.heap.size w w':=by
 exact qS2 S w
theorem qYb (S:ByteArray) (w:World) (hs:S.size≤100000) (hE:Env w) :
    Calls Tryz.prog 153 #[.string S] w fun e w'=>e=.returned (.agg #[.bool false,.int .i64 (qCf 2 S.data.toList).1,.string ⟨(qCf 2 S.data.toList).2.toArray⟩])∧Below w.heap.size w w':=by
 exact qNs S w hs hE
theorem qX9 (S:ByteArray) (w:World) (hs:S.size≤100000) (hE:Env w) :
    Calls Tryz.prog 153 #[.string S] w fun e w'=>e=.returned (.agg #[.bool false,.int .i64 (qCf 3 S.data.toList).1,.string ⟨(qCf 3 S.data.toList).2.toArray⟩])∧Below w.heap.size w w':=by
 exact qNs S w hs hE
theorem qXy (S:ByteArray) (w:World) (hs:S.size≤100000) (hE:Env w) :
    Calls Tryz.prog 159 #[.string S] w fun e w'=>e=.returned (.agg #[.bool false,.int .i64 (qCf 4 S.data.toList).1,.string ⟨(qCf 4 S.data.toList).2.toArray⟩])∧Below w.heap.size w w':=by
 exact qMy S w hs hE.tabs
theorem qX3 (S:ByteArray) (w:World) (hs:S.size≤100000) :
    Calls Tryz.prog 163 #[.string S] w fun e w'=>e=.returned (.agg #[.bool false,.int .i64 (qCf 5 S.data.toList).1,.string ⟨(qCf 5 S.data.toList).2.toArray⟩])∧Below w.heap.size w w':=by
 exact qUk S w hs
theorem qB5 (k:Int) (nu:Bool) (w:World) :
    Calls Tryz.prog 105 #[.agg #[.int .i64 k,.bool nu]] w fun e w'=>e=.returned (.bool (kMay k))∧Below w.heap.size w w':=by
 by_cases h1:0<k
 · by_cases h2:k<6
   · have hd:kMay k=true:=by simp[kMay];omega
     rw[hd];clear hd;go_enter Tryz.func105,Tryz.ntmps105;go_wp2
     go_ret;exact⟨rfl,br_.alloc le_ _⟩
   · have hd:kMay k=false:=by simp[kMay];omega
     rw[hd];clear hd;go_enter Tryz.func105,Tryz.ntmps105;go_wp2
     go_ret;exact⟨rfl,br_.alloc le_ _⟩
 · have hd:kMay k=false:=by simp[kMay];omega
   rw[hd];clear hd;go_enter Tryz.func105,Tryz.ntmps105;go_wp2
   go_ret;exact⟨rfl,br_.alloc le_ _⟩
structure Box2 (w w1:World) (C1 C2:Array Value) (T1 T2:TypeId):Prop where
  b1:w1.heap[w.heap.size]?=some (.cells C1 T1 (0,0))
  b2:w1.heap[w.heap.size+1]?=some (.cells C2 T2 (0,0))
  bel:Below w.heap.size w w1
  bel2:Below (w.heap.size+2) ((w.alloc (.cells C1 T1)).alloc (.cells C2 T2)) w1
  lt:w.heap.size+2≤w1.heap.size
theorem Box2.start (w:World) (C1 C2:Array Value) (T1 T2:TypeId):Box2 w ((w.alloc (.cells C1 T1)).alloc (.cells C2 T2)) C1 C2 T1 T2:=by
 refine⟨?_,?_,(br_.alloc le_ _).alloc (by simp) _,Below.refl _ _,by simp⟩
 · rw[Lib.alloc_old _ _ _ (by simp)];exact heap_alloc_new w _
 · have:=heap_alloc_new (w.alloc (.cells C1 T1)) (.cells C2 T2)
   simpa using this
theorem Box2.step {w w1 w2:World} {C1 C2:Array Value} {T1 T2:TypeId} (h:Box2 w w1 C1 C2 T1 T2) (hb:Below w1.heap.size w1 w2):Box2 w w2 C1 C2 T1 T2:=
  ⟨by rw[hb.block _ (by have:=h.lt;omega)];exact h.b1,by rw[hb.block _ (by have:=h.lt;omega)];exact h.b2,h.bel.trans (hb.mono h.bel.size),h.bel2.trans (hb.mono h.lt),Nat.le_trans h.lt hb.size⟩
def TC (w w1:World) (k:Int) (tn nu:Bool) (n:Int) (S:ByteArray):Prop:=
  w1.cell? ⟨w.heap.size,0,none⟩=some (.int .i64 k)∧w1.cell? ⟨w.heap.size,1,none⟩=some (.bool tn)∧w1.cell? ⟨w.heap.size+1,0,none⟩=some (.bool nu)∧w1.cell? ⟨w.heap.size+1,1,none⟩=some (.int .i64 n)∧w1.cell? ⟨w.heap.size+1,2,none⟩=some (.string S)
theorem Box2.tc {w w1:World} {k:Int} {tn nu:Bool} {n:Int} {S:ByteArray} {T1 T2:TypeId} (h:Box2 w w1 #[.int .i64 k,.bool tn] #[.bool nu,.int .i64 n,.string S] T1 T2):TC w w1 k tn nu n S:=
  ⟨by rw[Lib.cell_of_heap h.b1];rfl,by rw[Lib.cell_of_heap h.b1];rfl,by rw[Lib.cell_of_heap h.b2];rfl,by rw[Lib.cell_of_heap h.b2];rfl,by rw[Lib.cell_of_heap h.b2];rfl⟩
theorem qI5 (x0 x1 x2 x3 x4:Value) (w:World):(Instr.field 160 (.agg #[x0,x1,x2,x3,x4]) 0).run Tryz.prog w=.ok x0 w:=by kernel_rfl
theorem qJz (x0 x1 x2 x3 x4:Value) (w:World):(Instr.field 160 (.agg #[x0,x1,x2,x3,x4]) 1).run Tryz.prog w=.ok x1 w:=by kernel_rfl
theorem qD8 (x0 x1 x2 x3 x4:Value) (w:World):(Instr.field 160 (.agg #[x0,x1,x2,x3,x4]) 2).run Tryz.prog w=.ok x2 w:=by kernel_rfl
theorem qCp {W w1 w2:World} {p1 p2 p3 p4 p5:Addr} {v1 v2 v3 v4 v5:Value} (h:(w1.cell? p1=some v1∧w1.cell? p2=some v2∧w1.cell? p3=some v3∧w1.cell? p4=some v4∧w1.cell? p5=some v5)∧Below W.heap.size W w1) (hb:Below w1.heap.size w1 w2) :
    (w2.cell? p1=some v1∧w2.cell? p2=some v2∧w2.cell? p3=some v3∧w2.cell? p4=some v4∧w2.cell? p5=some v5)∧Below W.heap.size W w2:=by
 obtain⟨⟨a,b,c,d,e⟩,f⟩:=h;exact⟨⟨by rw[hb.cell (qAg a)];exact a,by rw[hb.cell (qAg b)];exact b,by rw[hb.cell (qAg c)];exact c,by rw[hb.cell (qAg d)];exact d,by rw[hb.cell (qAg e)];exact e⟩,f.trans (hb.mono f.size)⟩
theorem qKk {A:Prop} {B:Nat} {w w1 w2:World} (x:Below B w w1) (hB:B≤w1.heap.size) (h:A∧Below w1.heap.size w1 w2):Below B w w2:=x.trans (h.2.mono hB)
theorem qVw (tn:Bool) (n:Int) (S:ByteArray) (w:World) (hs:S.size≤100000) (hE:Env w) :
    Calls Tryz.prog 72 #[.agg #[.int .i64 1,.bool tn],.agg #[.bool false,.int .i64 n,.string S]] w fun e w'=>e=.returned (.int .i64 (if kIs 1 n S.data.toList=true then 0 else 90))∧Below w.heap.size w w':=by
 have ci:=fun a b w' (hp:Pl 0 1 a b w')=>is_1 a b n false S w' hp
 have cm:=fun w'=>qB5 1 tn w'
 rw[show kMay 1=true from rfl] at cm;generalize kIs 1 n S.data.toList=B at *; have b0:=Box2.start w #[.int .i64 1,.bool tn] #[.bool false,.int .i64 n,.string S] 41 43;have kf:=qI5;have HB0:=hh_ b0;have CI:=hh_ ci;have CM:=hh_ cm;have HE:=hh_ hE;clear b0 ci cm hE;cases B
 all_goals
  go_enter Tryz.func72,Tryz.ntmps72;go_wp2_with fail
  refine(CM.out _).mono ?_;rintro en w1 ⟨rfl,b1⟩;have x1:=HB0.out.step b1;obtain⟨c1,c2,c3,c4,c5⟩:=x1.tc;have e1:=HE.out.below x1.bel;have hD:(w1.drew.cell? ⟨w.heap.size,0,none⟩=some (.int .i64 1)∧w1.drew.cell? ⟨w.heap.size,1,none⟩=some (.bool tn)∧w1.drew.cell? ⟨w.heap.size+1,0,none⟩=some (.bool false)∧w1.drew.cell? ⟨w.heap.size+1,1,none⟩=some (.int .i64 n)∧w1.drew.cell? ⟨w.heap.size+1,2,none⟩=some (.string S))∧Below w1.heap.size w1 w1.drew:=⟨⟨c1,c2,c3,c4,c5⟩,qAa br_ 1⟩;have HX1:=hh_ x1;have HE1:=hh_ e1;have HD:=hh_ hD;clear x1 e1 b1 hD;go_wp2_with fail
  go_region_held3 (fun w'=>(w'.cell? ⟨w.heap.size,0,none⟩=some (.int .i64 1)∧w'.cell? ⟨w.heap.size,1,none⟩=some (.bool tn)∧w'.cell? ⟨w.heap.size+1,0,none⟩=some (.bool false)∧w'.cell? ⟨w.heap.size+1,1,none⟩=some (.int .i64 n)∧w'.cell? ⟨w.heap.size+1,2,none⟩=some (.string S))∧Below w1.heap.size w1 w')
    (first
      |exact HD.out
      |exact qCp HD.out bb
      |exact qCp (by assumption) bb
      |(go_keep;done))
    ((first|((with_reducible refine(of_1 _ _).mono ?_);rintro en w2 ⟨a,b,rfl,hp,bb⟩)|((with_reducible refine(CI.out _ _ _ (by assumption)).mono ?_);rintro en w3 ⟨rfl,bb⟩)))
  all_goals
   go_wp2_with fail
   go_ret;exact⟨rfl,qKk HX1.out.bel HX1.out.bel.size (by assumption)⟩
theorem qU7 (tn:Bool) (n:Int) (S:ByteArray) (w:World) (hs:S.size≤100000) (hE:Env w) :
    Calls Tryz.prog 72 #[.agg #[.int .i64 2,.bool tn],.agg #[.bool false,.int .i64 n,.string S]] w fun e w'=>e=.returned (.int .i64 (if kIs 2 n S.data.toList=true then 0 else 90))∧Below w.heap.size w w':=by
 have ci:=fun a b w' (hp:Pl (-2147483648) 2147483647 a b w')=>is_2 a b n false S w' hp
 have cm:=fun w'=>qB5 2 tn w'
 rw[show kMay 2=true from rfl] at cm;generalize kIs 2 n S.data.toList=B at *; have b0:=Box2.start w #[.int .i64 2,.bool tn] #[.bool false,.int .i64 n,.string S] 41 43;have kf:=qI5;have HB0:=hh_ b0;have CI:=hh_ ci;have CM:=hh_ cm;have HE:=hh_ hE;clear b0 ci cm hE;cases B
 all_goals
  go_enter Tryz.func72,Tryz.ntmps72;go_wp2_with fail
  refine(CM.out _).mono ?_;rintro en w1 ⟨rfl,b1⟩;have x1:=HB0.out.step b1;obtain⟨c1,c2,c3,c4,c5⟩:=x1.tc;have e1:=HE.out.below x1.bel;have hD:(w1.drew.cell? ⟨w.heap.size,0,none⟩=some (.int .i64 2)∧w1.drew.cell? ⟨w.heap.size,1,none⟩=some (.bool tn)∧w1.drew.cell? ⟨w.heap.size+1,0,none⟩=some (.bool false)∧w1.drew.cell? ⟨w.heap.size+1,1,none⟩=some (.int .i64 n)∧w1.drew.cell? ⟨w.heap.size+1,2,none⟩=some (.string S))∧Below w1.heap.size w1 w1.drew:=⟨⟨c1,c2,c3,c4,c5⟩,qAa br_ 1⟩;have HX1:=hh_ x1;have HE1:=hh_ e1;have HD:=hh_ hD;clear x1 e1 b1 hD;go_wp2_with fail
  go_region_held3 (fun w'=>(w'.cell? ⟨w.heap.size,0,none⟩=some (.int .i64 2)∧w'.cell? ⟨w.heap.size,1,none⟩=some (.bool tn)∧w'.cell? ⟨w.heap.size+1,0,none⟩=some (.bool false)∧w'.cell? ⟨w.heap.size+1,1,none⟩=some (.int .i64 n)∧w'.cell? ⟨w.heap.size+1,2,none⟩=some (.string S))∧Below w1.heap.size w1 w')
    (first
      |exact HD.out
      |exact qCp HD.out bb
      |exact qCp (by assumption) bb
      |(go_keep;done))
    ((first|((with_reducible refine(of_2 _ _).mono ?_);rintro en w2 ⟨a,b,rfl,hp,bb⟩)|((with_reducible refine(CI.out _ _ _ (by assumption)).mono ?_);rintro en w3 ⟨rfl,bb⟩)))
  all_goals
   go_wp2_with fail
   go_ret;exact⟨rfl,qKk HX1.out.bel HX1.out.bel.size (by assumption)⟩
theorem qU0 (tn:Bool) (n:Int) (S:ByteArray) (w:World) (hs:S.size≤100000) (hE:Env w) :
    Calls Tryz.prog 72 #[.agg #[.int .i64 3,.bool tn],.agg #[.bool false,.int .i64 n,.string S]] w fun e w'=>e=.returned (.int .i64 (if kIs 3 n S.data.toList=true then 0 else 90))∧Below w.heap.size w w':=by
 have ci:=fun a b w' (hp:Pl (-9223372036854775808) 9223372036854775807 a b w')=>is_3 a b n false S w' hp
 have cm:=fun w'=>qB5 3 tn w'
 rw[show kMay 3=true from rfl] at cm;generalize kIs 3 n S.data.toList=B at *; have b0:=Box2.start w #[.int .i64 3,.bool tn] #[.bool false,.int .i64 n,.string S] 41 43;have kf:=qI5;have HB0:=hh_ b0;have CI:=hh_ ci;have CM:=hh_ cm;have HE:=hh_ hE;clear b0 ci cm hE;cases B
 all_goals
  go_enter Tryz.func72,Tryz.ntmps72;go_wp2_with fail
  refine(CM.out _).mono ?_;rintro en w1 ⟨rfl,b1⟩;have x1:=HB0.out.step b1;obtain⟨c1,c2,c3,c4,c5⟩:=x1.tc;have e1:=HE.out.below x1.bel;have hD:(w1.drew.cell? ⟨w.heap.size,0,none⟩=some (.int .i64 3)∧w1.drew.cell? ⟨w.heap.size,1,none⟩=some (.bool tn)∧w1.drew.cell? ⟨w.heap.size+1,0,none⟩=some (.bool false)∧w1.drew.cell? ⟨w.heap.size+1,1,none⟩=some (.int .i64 n)∧w1.drew.cell? ⟨w.heap.size+1,2,none⟩=some (.string S))∧Below w1.heap.size w1 w1.drew:=⟨⟨c1,c2,c3,c4,c5⟩,qAa br_ 1⟩;have HX1:=hh_ x1;have HE1:=hh_ e1;have HD:=hh_ hD;clear x1 e1 b1 hD;go_wp2_with fail
  go_region_held3 (fun w'=>(w'.cell? ⟨w.heap.size,0,none⟩=some (.int .i64 3)∧w'.cell? ⟨w.heap.size,1,none⟩=some (.bool tn)∧w'.cell? ⟨w.heap.size+1,0,none⟩=some (.bool false)∧w'.cell? ⟨w.heap.size+1,1,none⟩=some (.int .i64 n)∧w'.cell? ⟨w.heap.size+1,2,none⟩=some (.string S))∧Below w1.heap.size w1 w')
    (first
      |exact HD.out
      |exact qCp HD.out bb
      |exact qCp (by assumption) bb
      |(go_keep;done))
    ((first|((with_reducible refine(of_3 _ _).mono ?_);rintro en w2 ⟨a,b,rfl,hp,bb⟩)|((with_reducible refine(CI.out _ _ _ (by assumption)).mono ?_);rintro en w3 ⟨rfl,bb⟩)))
  all_goals
   go_wp2_with fail
   go_ret;exact⟨rfl,qKk HX1.out.bel HX1.out.bel.size (by assumption)⟩
theorem qXi (tn:Bool) (n:Int) (S:ByteArray) (w:World) (hs:S.size≤100000) (hE:Env w) :
    Calls Tryz.prog 72 #[.agg #[.int .i64 4,.bool tn],.agg #[.bool false,.int .i64 n,.string S]] w fun e w'=>e=.returned (.int .i64 (if kIs 4 n S.data.toList=true then 0 else 90))∧Below w.heap.size w w':=by
 have ci:=fun a w' (hp:Vl a w') (hE:Env w')=>is_4 a n false S w' hp hs hE
 have cm:=fun w'=>qB5 4 tn w'
 rw[show kMay 4=true from rfl] at cm;generalize kIs 4 n S.data.toList=B at *; have b0:=Box2.start w #[.int .i64 4,.bool tn] #[.bool false,.int .i64 n,.string S] 41 43;have kf:=qI5;have HB0:=hh_ b0;have CI:=hh_ ci;have CM:=hh_ cm;have HE:=hh_ hE;clear b0 ci cm hE;cases B
 all_goals
  go_enter Tryz.func72,Tryz.ntmps72;go_wp2_with fail
  refine(CM.out _).mono ?_;rintro en w1 ⟨rfl,b1⟩;have x1:=HB0.out.step b1;obtain⟨c1,c2,c3,c4,c5⟩:=x1.tc;have e1:=HE.out.below x1.bel;have hD:(w1.drew.cell? ⟨w.heap.size,0,none⟩=some (.int .i64 4)∧w1.drew.cell? ⟨w.heap.size,1,none⟩=some (.bool tn)∧w1.drew.cell? ⟨w.heap.size+1,0,none⟩=some (.bool false)∧w1.drew.cell? ⟨w.heap.size+1,1,none⟩=some (.int .i64 n)∧w1.drew.cell? ⟨w.heap.size+1,2,none⟩=some (.string S))∧Below w1.heap.size w1 w1.drew:=⟨⟨c1,c2,c3,c4,c5⟩,qAa br_ 1⟩;have HX1:=hh_ x1;have HE1:=hh_ e1;have HD:=hh_ hD;clear x1 e1 b1 hD;go_wp2_with fail
  go_region_held3 (fun w'=>(w'.cell? ⟨w.heap.size,0,none⟩=some (.int .i64 4)∧w'.cell? ⟨w.heap.size,1,none⟩=some (.bool tn)∧w'.cell? ⟨w.heap.size+1,0,none⟩=some (.bool false)∧w'.cell? ⟨w.heap.size+1,1,none⟩=some (.int .i64 n)∧w'.cell? ⟨w.heap.size+1,2,none⟩=some (.string S))∧Below w1.heap.size w1 w')
    (first
      |exact HD.out
      |exact qCp HD.out bb
      |exact qCp (by assumption) bb
      |(go_keep;done))
    ((first|((with_reducible refine(of_4 _ _).mono ?_);rintro en w2 ⟨a,rfl,hp,bb⟩)|((with_reducible refine(CI.out _ _ (by assumption) (HE1.out.below (And.right (by assumption)))).mono ?_);rintro en w3 ⟨rfl,bb⟩)))
  all_goals
   go_wp2_with fail
   go_ret;exact⟨rfl,qKk HX1.out.bel HX1.out.bel.size (by assumption)⟩
theorem qWj (tn:Bool) (n:Int) (S:ByteArray) (w:World) (hs:S.size≤100000) (hE:Env w) :
    Calls Tryz.prog 72 #[.agg #[.int .i64 5,.bool tn],.agg #[.bool false,.int .i64 n,.string S]] w fun e w'=>e=.returned (.int .i64 (if kIs 5 n S.data.toList=true then 0 else 90))∧Below w.heap.size w w':=by
 have ci:=fun w'=>is_5 n false S w' hs
 have cm:=fun w'=>qB5 5 tn w'
 rw[show kMay 5=true from rfl] at cm;generalize kIs 5 n S.data.toList=B at *; have b0:=Box2.start w #[.int .i64 5,.bool tn] #[.bool false,.int .i64 n,.string S] 41 43;have kf:=qI5;have HB0:=hh_ b0;have CI:=hh_ ci;have CM:=hh_ cm;have HE:=hh_ hE;clear b0 ci cm hE;cases B
 all_goals
  go_enter Tryz.func72,Tryz.ntmps72;go_wp2_with fail
  refine(CM.out _).mono ?_;rintro en w1 ⟨rfl,b1⟩;have x1:=HB0.out.step b1;obtain⟨c1,c2,c3,c4,c5⟩:=x1.tc;have e1:=HE.out.below x1.bel;have hD:(w1.drew.cell? ⟨w.heap.size,0,none⟩=some (.int .i64 5)∧w1.drew.cell? ⟨w.heap.size,1,none⟩=some (.bool tn)∧w1.drew.cell? ⟨w.heap.size+1,0,none⟩=some (.bool false)∧w1.drew.cell? ⟨w.heap.size+1,1,none⟩=some (.int .i64 n)∧w1.drew.cell? ⟨w.heap.size+1,2,none⟩=some (.string S))∧Below w1.heap.size w1 w1.drew:=⟨⟨c1,c2,c3,c4,c5⟩,qAa br_ 1⟩;have HX1:=hh_ x1;have HE1:=hh_ e1;have HD:=hh_ hD;clear x1 e1 b1 hD;go_wp2_with fail
  go_region_held3 (fun w'=>(w'.cell? ⟨w.heap.size,0,none⟩=some (.int .i64 5)∧w'.cell? ⟨w.heap.size,1,none⟩=some (.bool tn)∧w'.cell? ⟨w.heap.size+1,0,none⟩=some (.bool false)∧w'.cell? ⟨w.heap.size+1,1,none⟩=some (.int .i64 n)∧w'.cell? ⟨w.heap.size+1,2,none⟩=some (.string S))∧Below w1.heap.size w1 w')
    (first
      |exact HD.out
      |exact qCp HD.out bb
      |exact qCp (by assumption) bb
      |(go_keep;done))
    ((first|((with_reducible refine(of_5 _ _).mono ?_);rintro en w2 ⟨rfl,bb⟩)|((with_reducible refine(CI.out _).mono ?_);rintro en w3 ⟨rfl,bb⟩)))
  all_goals
   go_wp2_with fail
   go_ret;exact⟨rfl,qKk HX1.out.bel HX1.out.bel.size (by assumption)⟩
theorem qRd (k:Int) (hk:kMay k=false) (tn nu:Bool) (n:Int) (S:ByteArray) (w:World) :
    Calls Tryz.prog 72 #[.agg #[.int .i64 k,.bool tn],.agg #[.bool nu,.int .i64 n,.string S]] w fun e w'=>e=.returned (.int .i64 2)∧Below w.heap.size w w':=by
 have cm:=fun w'=>qB5 k tn w'
 rw[hk] at cm;have b0:=Box2.start w #[.int .i64 k,.bool tn] #[.bool nu,.int .i64 n,.string S] 41 43;have HB0:=hh_ b0;have CM:=hh_ cm;clear b0 cm hk;go_enter Tryz.func72,Tryz.ntmps72;go_wp2_with fail
 refine(CM.out _).mono ?_;rintro en w1 ⟨rfl,b1⟩;go_wp2_with fail
 go_ret;exact⟨rfl,(HB0.out.step b1).bel⟩
theorem qQb (k:Int) (hk:kMay k=true) (tn:Bool) (n:Int) (S:ByteArray) (w:World) :
    Calls Tryz.prog 72 #[.agg #[.int .i64 k,.bool tn],.agg #[.bool true,.int .i64 n,.string S]] w fun e w'=>e=.returned (.int .i64 (if (tn&&decide (n=0)&&decide (S.data.toList=[]))=true then 0 else 90))∧Below w.heap.size w w':=by
 have cm:=fun w'=>qB5 k tn w'
 rw[hk] at cm;have b0:=Box2.start w #[.int .i64 k,.bool tn] #[.bool true,.int .i64 n,.string S] 41 43;have HB0:=hh_ b0;have CM:=hh_ cm;clear b0 cm hk
 cases tn with
 |false=>
  simp only[Bool.false_and,Bool.false_eq_true,if_false];go_enter Tryz.func72,Tryz.ntmps72;go_wp2_with fail
  refine(CM.out _).mono ?_;rintro en w1 ⟨rfl,b1⟩;have x1:=HB0.out.step b1;obtain⟨c1,c2,c3,c4,c5⟩:=x1.tc;have HX1:=hh_ x1;clear x1 b1;go_wp2_with fail
  go_ret;exact⟨rfl,HX1.out.bel⟩
 |true=>
  by_cases hn:n=0
  · subst hn;by_cases hS:S.data.toList=[]
    · obtain rfl:S=⟨#[]⟩:=qBu hS;simp only[decide_true,Bool.and_true,if_true];go_enter Tryz.func72,Tryz.ntmps72;go_wp2_with fail
      refine(CM.out _).mono ?_;rintro en w1 ⟨rfl,b1⟩;have x1:=HB0.out.step b1;obtain⟨c1,c2,c3,c4,c5⟩:=x1.tc;have HX1:=hh_ x1;clear x1 b1;go_wp2_with fail
      go_quiet (fail)
      go_wp2_with fail
      go_ret;exact⟨rfl,qAa HX1.out.bel _⟩
    · have e1:(S.toList==[])=false:=by rw[Lib.toList_data];simpa using hS
      have e2:¬S.toList=[]:=by rw[Lib.toList_data];exact hS
      have e3:S.toList.isEmpty=false:=by rw[Lib.toList_data];simpa using hS
      rw[if_neg (by simp[hS])];clear hS;go_enter Tryz.func72,Tryz.ntmps72;go_wp2_with fail
      refine(CM.out _).mono ?_;rintro en w1 ⟨rfl,b1⟩;have x1:=HB0.out.step b1;obtain⟨c1,c2,c3,c4,c5⟩:=x1.tc;have HX1:=hh_ x1;clear x1 b1;go_wp2_with fail
      go_ret;exact⟨rfl,HX1.out.bel⟩
  · have e1:(n==0)=false:=by simpa using hn
    rw[if_neg (by simp[hn])];clear hn;go_enter Tryz.func72,Tryz.ntmps72;go_wp2_with fail
    refine(CM.out _).mono ?_;rintro en w1 ⟨rfl,b1⟩;have x1:=HB0.out.step b1;obtain⟨c1,c2,c3,c4,c5⟩:=x1.tc;have HX1:=hh_ x1;clear x1 b1;go_wp2_with fail
    go_ret;exact⟨rfl,HX1.out.bel⟩
theorem qCc (k:Int) (tn nu:Bool) (n:Int) (S:ByteArray) (w:World) (hs:S.size≤100000) (hE:Env w) :
    Calls Tryz.prog 72 #[.agg #[.int .i64 k,.bool tn],.agg #[.bool nu,.int .i64 n,.string S]] w fun e w'=>e=.returned (.int .i64 (qA1 k tn nu n S.data.toList))∧Below w.heap.size w w':=by
 unfold qA1
 cases hk:kMay k with
 |false=>rw[if_neg (by simp)];exact qRd k hk tn nu n S w
 | true=>
  rw[if_pos rfl]
  cases nu with
  |true=>exact qQb k hk tn n S w
  |false=>
   have hko:kOk k tn false n S.data.toList=kIs k n S.data.toList:=by simp[kOk]
   rw[hko];rcases qE3 hk with rfl|rfl|rfl|rfl|rfl
   · exact qVw tn n S w hs hE
   · exact qU7 tn n S w hs hE
   · exact qU0 tn n S w hs hE
   · exact qXi tn n S w hs hE
   · exact qWj tn n S w hs hE
end Go.Proofs.YtainiaighnjpfaaGreatDoor
