/- Cells: what is written. Cells: the bits. Cells, plain: the order. Cells: how two stand. Cells: Compare. -/
import Derived.Test.YtainiaighnjpfaaGreatDoorZQk
set_option maxHeartbeats 2000000
set_option maxRecDepth 100000
set_option linter.unusedVariables false
namespace Go.Proofs.YtainiaighnjpfaaGreatDoor
open Go.RowKit Go.Ms Go.Lib
theorem qSv (k:Int) (tn nu:Bool) (n:Int) (S:ByteArray) (w:World) (hs:S.size≤100000) (hE:Env w) (hc:qA1 k tn nu n S.data.toList≠0) :
    Calls Tryz.prog 174 #[.agg #[.int .i64 k,.bool tn],.agg #[.bool nu,.int .i64 n,.string S]] w fun e w'=>e=.returned (.tuple #[.string ⟨#[]⟩,.int .i64 (qA1 k tn nu n S.data.toList)])∧Below w.heap.size w w':=by
 have cc:=fun w' (hE':Env w')=>qCc k tn nu n S w' hs hE'
 generalize qA1 k tn nu n S.data.toList=c at *; have b0:=Box2.start w #[.int .i64 k,.bool tn] #[.bool nu,.int .i64 n,.string S] 41 43;have hcb:(c != 0)=true:=by simpa using hc
 have HB0:=hh_ b0;have CC:=hh_ cc;have HE:=hh_ hE;clear b0 cc hE;go_enter Tryz.func174,Tryz.ntmps174;go_wp2_with fail
 refine(CC.out _ (HE.out.below HB0.out.bel)).mono ?_;rintro en w1 ⟨rfl,b1⟩;go_wp2_with fail
 go_ret2;exact⟨rfl,(HB0.out.step b1).bel⟩
theorem qQ1 (k:Int) (tn:Bool) (n:Int) (S:ByteArray) (w:World) (hs:S.size≤100000) (hE:Env w) (hc:qA1 k tn true n S.data.toList=0) :
    Calls Tryz.prog 174 #[.agg #[.int .i64 k,.bool tn],.agg #[.bool true,.int .i64 n,.string S]] w fun e w'=>e=.returned (.tuple #[.string ⟨#[110,117,108,108]⟩,.int .i64 0])∧Below w.heap.size w w':=by
 have cc:=fun w' (hE':Env w')=>qCc k tn true n S w' hs hE'
 rw[hc] at cc;have b0:=Box2.start w #[.int .i64 k,.bool tn] #[.bool true,.int .i64 n,.string S] 41 43;have HB0:=hh_ b0;have CC:=hh_ cc;have HE:=hh_ hE;clear b0 cc hE hc;go_enter Tryz.func174,Tryz.ntmps174;go_wp2_with fail
 refine(CC.out _ (HE.out.below HB0.out.bel)).mono ?_;rintro en w1 ⟨rfl,b1⟩;have x1:=HB0.out.step b1;obtain⟨c1,c2,c3,c4,c5⟩:=x1.tc;have HX1:=hh_ x1;clear x1 b1;go_wp2_with fail
 go_ret2;exact⟨rfl,HX1.out.bel⟩
theorem qVb (tn:Bool) (n:Int) (S:ByteArray) (w:World) (hs:S.size≤100000) (hE:Env w) (hi:kIs 1 n S.data.toList=true) :
    Calls Tryz.prog 174 #[.agg #[.int .i64 1,.bool tn],.agg #[.bool false,.int .i64 n,.string S]] w fun e w'=>e=.returned (.tuple #[.string ⟨(qF4 1 n S.data.toList).toArray⟩,.int .i64 0])∧Below w.heap.size w w':=by
 have hck:qA1 1 tn false n S.data.toList=0:=qHl rfl (by simpa[kOk] using hi);have cc:=fun w' (hE':Env w')=>qCc 1 tn false n S w' hs hE'
 rw[hck] at cc;have _t:=trivial;have ci:=fun w'=>zBp n false S w'
 have b0:=Box2.start w #[.int .i64 1,.bool tn] #[.bool false,.int .i64 n,.string S] 41 43;have kf:=qJz;generalize qF4 1 n S.data.toList=R at *; have HB0:=hh_ b0;have CI:=hh_ ci;have CC:=hh_ cc;have HE:=hh_ hE;clear b0 ci cc hE hck hi;go_enter Tryz.func174,Tryz.ntmps174;go_wp2_with fail
 refine(CC.out _ (HE.out.below HB0.out.bel)).mono ?_;rintro en w1 ⟨rfl,b1⟩;have x1:=HB0.out.step b1;obtain⟨c1,c2,c3,c4,c5⟩:=x1.tc;have e1:=HE.out.below x1.bel;have hD:(w1.drew.cell? ⟨w.heap.size,0,none⟩=some (.int .i64 1)∧w1.drew.cell? ⟨w.heap.size,1,none⟩=some (.bool tn)∧w1.drew.cell? ⟨w.heap.size+1,0,none⟩=some (.bool false)∧w1.drew.cell? ⟨w.heap.size+1,1,none⟩=some (.int .i64 n)∧w1.drew.cell? ⟨w.heap.size+1,2,none⟩=some (.string S))∧Below w1.heap.size w1 w1.drew:=⟨⟨c1,c2,c3,c4,c5⟩,qAa br_ 1⟩;have HX1:=hh_ x1;have HE1:=hh_ e1;have HD:=hh_ hD;clear x1 e1 b1 hD;go_wp2_with fail
 go_region_held3 (fun w'=>(w'.cell? ⟨w.heap.size,0,none⟩=some (.int .i64 1)∧w'.cell? ⟨w.heap.size,1,none⟩=some (.bool tn)∧w'.cell? ⟨w.heap.size+1,0,none⟩=some (.bool false)∧w'.cell? ⟨w.heap.size+1,1,none⟩=some (.int .i64 n)∧w'.cell? ⟨w.heap.size+1,2,none⟩=some (.string S))∧Below w1.heap.size w1 w')
   (first
     |exact HD.out
     |exact qCp HD.out bb
     |exact qCp (by assumption) bb
     |(go_keep;done))
   ((first|((with_reducible refine(of_1 _ _).mono ?_);rintro en w2 ⟨a,b,rfl,hp,bb⟩)|((with_reducible refine(CI.out _).mono ?_);rintro en w3 ⟨rfl,bb⟩)))
 all_goals
  go_wp2_with fail
  go_ret2;exact⟨rfl,qKk HX1.out.bel HX1.out.bel.size (by assumption)⟩
theorem qW6 (tn:Bool) (n:Int) (S:ByteArray) (w:World) (hs:S.size≤100000) (hE:Env w) (hi:kIs 2 n S.data.toList=true) :
    Calls Tryz.prog 174 #[.agg #[.int .i64 2,.bool tn],.agg #[.bool false,.int .i64 n,.string S]] w fun e w'=>e=.returned (.tuple #[.string ⟨(qF4 2 n S.data.toList).toArray⟩,.int .i64 0])∧Below w.heap.size w w':=by
 have hck:qA1 2 tn false n S.data.toList=0:=qHl rfl (by simpa[kOk] using hi);have cc:=fun w' (hE':Env w')=>qCc 2 tn false n S w' hs hE'
 rw[hck] at cc;obtain⟨_,h0,h1⟩:=is23 (.inl rfl) hi;have ci:=fun w' (hE:Env w')=>zAy n false S w' h0 h1 hE
 have b0:=Box2.start w #[.int .i64 2,.bool tn] #[.bool false,.int .i64 n,.string S] 41 43;have kf:=qJz;generalize qF4 2 n S.data.toList=R at *; have HB0:=hh_ b0;have CI:=hh_ ci;have CC:=hh_ cc;have HE:=hh_ hE;clear b0 ci cc hE hck hi;go_enter Tryz.func174,Tryz.ntmps174;go_wp2_with fail
 refine(CC.out _ (HE.out.below HB0.out.bel)).mono ?_;rintro en w1 ⟨rfl,b1⟩;have x1:=HB0.out.step b1;obtain⟨c1,c2,c3,c4,c5⟩:=x1.tc;have e1:=HE.out.below x1.bel;have hD:(w1.drew.cell? ⟨w.heap.size,0,none⟩=some (.int .i64 2)∧w1.drew.cell? ⟨w.heap.size,1,none⟩=some (.bool tn)∧w1.drew.cell? ⟨w.heap.size+1,0,none⟩=some (.bool false)∧w1.drew.cell? ⟨w.heap.size+1,1,none⟩=some (.int .i64 n)∧w1.drew.cell? ⟨w.heap.size+1,2,none⟩=some (.string S))∧Below w1.heap.size w1 w1.drew:=⟨⟨c1,c2,c3,c4,c5⟩,qAa br_ 1⟩;have HX1:=hh_ x1;have HE1:=hh_ e1;have HD:=hh_ hD;clear x1 e1 b1 hD;go_wp2_with fail
 go_region_held3 (fun w'=>(w'.cell? ⟨w.heap.size,0,none⟩=some (.int .i64 2)∧w'.cell? ⟨w.heap.size,1,none⟩=some (.bool tn)∧w'.cell? ⟨w.heap.size+1,0,none⟩=some (.bool false)∧w'.cell? ⟨w.heap.size+1,1,none⟩=some (.int .i64 n)∧w'.cell? ⟨w.heap.size+1,2,none⟩=some (.string S))∧Below w1.heap.size w1 w')
   (first
     |exact HD.out
     |exact qCp HD.out bb
     |exact qCp (by assumption) bb
     |(go_keep;done))
   ((first|((with_reducible refine(of_2 _ _).mono ?_);rintro en w2 ⟨a,b,rfl,hp,bb⟩)|((with_reducible refine(CI.out _ (HE1.out.below (And.right (by assumption)))).mono ?_);rintro en w3 ⟨rfl,bb⟩)))
 all_goals
  go_wp2_with fail
  go_ret2;exact⟨rfl,qKk HX1.out.bel HX1.out.bel.size (by assumption)⟩
theorem qVj (tn:Bool) (n:Int) (S:ByteArray) (w:World) (hs:S.size≤100000) (hE:Env w) (hi:kIs 3 n S.data.toList=true) :
    Calls Tryz.prog 174 #[.agg #[.int .i64 3,.bool tn],.agg #[.bool false,.int .i64 n,.string S]] w fun e w'=>e=.returned (.tuple #[.string ⟨(qF4 3 n S.data.toList).toArray⟩,.int .i64 0])∧Below w.heap.size w w':=by
 have hck:qA1 3 tn false n S.data.toList=0:=qHl rfl (by simpa[kOk] using hi);have cc:=fun w' (hE':Env w')=>qCc 3 tn false n S w' hs hE'
 rw[hck] at cc;obtain⟨_,h0,h1⟩:=is23 (.inr rfl) hi;have ci:=fun w' (hE:Env w')=>qZ9 n false S w' h0 h1 hE
 have b0:=Box2.start w #[.int .i64 3,.bool tn] #[.bool false,.int .i64 n,.string S] 41 43;have kf:=qJz;generalize qF4 3 n S.data.toList=R at *; have HB0:=hh_ b0;have CI:=hh_ ci;have CC:=hh_ cc;have HE:=hh_ hE;clear b0 ci cc hE hck hi;go_enter Tryz.func174,Tryz.ntmps174;go_wp2_with fail
 refine(CC.out _ (HE.out.below HB0.out.bel)).mono ?_;rintro en w1 ⟨rfl,b1⟩;have x1:=HB0.out.step b1;obtain⟨c1,c2,c3,c4,c5⟩:=x1.tc;have e1:=HE.out.below x1.bel;have hD:(w1.drew.cell? ⟨w.heap.size,0,none⟩=some (.int .i64 3)∧w1.drew.cell? ⟨w.heap.size,1,none⟩=some (.bool tn)∧w1.drew.cell? ⟨w.heap.size+1,0,none⟩=some (.bool false)∧w1.drew.cell? ⟨w.heap.size+1,1,none⟩=some (.int .i64 n)∧w1.drew.cell? ⟨w.heap.size+1,2,none⟩=some (.string S))∧Below w1.heap.size w1 w1.drew:=⟨⟨c1,c2,c3,c4,c5⟩,qAa br_ 1⟩;have HX1:=hh_ x1;have HE1:=hh_ e1;have HD:=hh_ hD;clear x1 e1 b1 hD;go_wp2_with fail
 go_region_held3 (fun w'=>(w'.cell? ⟨w.heap.size,0,none⟩=some (.int .i64 3)∧w'.cell? ⟨w.heap.size,1,none⟩=some (.bool tn)∧w'.cell? ⟨w.heap.size+1,0,none⟩=some (.bool false)∧w'.cell? ⟨w.heap.size+1,1,none⟩=some (.int .i64 n)∧w'.cell? ⟨w.heap.size+1,2,none⟩=some (.string S))∧Below w1.heap.size w1 w')
   (first
     |exact HD.out
     |exact qCp HD.out bb
     |exact qCp (by assumption) bb
     |(go_keep;done))
   ((first|((with_reducible refine(of_3 _ _).mono ?_);rintro en w2 ⟨a,b,rfl,hp,bb⟩)|((with_reducible refine(CI.out _ (HE1.out.below (And.right (by assumption)))).mono ?_);rintro en w3 ⟨rfl,bb⟩)))
 all_goals
  go_wp2_with fail
  go_ret2;exact⟨rfl,qKk HX1.out.bel HX1.out.bel.size (by assumption)⟩
theorem qVc (tn:Bool) (n:Int) (S:ByteArray) (w:World) (hs:S.size≤100000) (hE:Env w) (hi:kIs 4 n S.data.toList=true) :
    Calls Tryz.prog 174 #[.agg #[.int .i64 4,.bool tn],.agg #[.bool false,.int .i64 n,.string S]] w fun e w'=>e=.returned (.tuple #[.string ⟨(qF4 4 n S.data.toList).toArray⟩,.int .i64 0])∧Below w.heap.size w w':=by
 have hck:qA1 4 tn false n S.data.toList=0:=qHl rfl (by simpa[kOk] using hi);have cc:=fun w' (hE':Env w')=>qCc 4 tn false n S w' hs hE'
 rw[hck] at cc;have _t:=trivial;have ci:=fun w' (hE:Env w')=>zA8 n false S w' hs hE
 have b0:=Box2.start w #[.int .i64 4,.bool tn] #[.bool false,.int .i64 n,.string S] 41 43;have kf:=qJz;generalize qF4 4 n S.data.toList=R at *; have HB0:=hh_ b0;have CI:=hh_ ci;have CC:=hh_ cc;have HE:=hh_ hE;clear b0 ci cc hE hck hi;go_enter Tryz.func174,Tryz.ntmps174;go_wp2_with fail
 refine(CC.out _ (HE.out.below HB0.out.bel)).mono ?_;rintro en w1 ⟨rfl,b1⟩;have x1:=HB0.out.step b1;obtain⟨c1,c2,c3,c4,c5⟩:=x1.tc;have e1:=HE.out.below x1.bel;have hD:(w1.drew.cell? ⟨w.heap.size,0,none⟩=some (.int .i64 4)∧w1.drew.cell? ⟨w.heap.size,1,none⟩=some (.bool tn)∧w1.drew.cell? ⟨w.heap.size+1,0,none⟩=some (.bool false)∧w1.drew.cell? ⟨w.heap.size+1,1,none⟩=some (.int .i64 n)∧w1.drew.cell? ⟨w.heap.size+1,2,none⟩=some (.string S))∧Below w1.heap.size w1 w1.drew:=⟨⟨c1,c2,c3,c4,c5⟩,qAa br_ 1⟩;have HX1:=hh_ x1;have HE1:=hh_ e1;have HD:=hh_ hD;clear x1 e1 b1 hD;go_wp2_with fail
 go_region_held3 (fun w'=>(w'.cell? ⟨w.heap.size,0,none⟩=some (.int .i64 4)∧w'.cell? ⟨w.heap.size,1,none⟩=some (.bool tn)∧w'.cell? ⟨w.heap.size+1,0,none⟩=some (.bool false)∧w'.cell? ⟨w.heap.size+1,1,none⟩=some (.int .i64 n)∧w'.cell? ⟨w.heap.size+1,2,none⟩=some (.string S))∧Below w1.heap.size w1 w')
   (first
     |exact HD.out
     |exact qCp HD.out bb
     |exact qCp (by assumption) bb
     |(go_keep;done))
   ((first|((with_reducible refine(of_4 _ _).mono ?_);rintro en w2 ⟨a,rfl,hp,bb⟩)|((with_reducible refine(CI.out _ (HE1.out.below (And.right (by assumption)))).mono ?_);rintro en w3 ⟨rfl,bb⟩)))
 all_goals
  go_wp2_with fail
  go_ret2;exact⟨rfl,qKk HX1.out.bel HX1.out.bel.size (by assumption)⟩
theorem qVf (tn:Bool) (n:Int) (S:ByteArray) (w:World) (hs:S.size≤100000) (hE:Env w) (hi:kIs 5 n S.data.toList=true) :
    Calls Tryz.prog 174 #[.agg #[.int .i64 5,.bool tn],.agg #[.bool false,.int .i64 n,.string S]] w fun e w'=>e=.returned (.tuple #[.string ⟨(qF4 5 n S.data.toList).toArray⟩,.int .i64 0])∧Below w.heap.size w w':=by
 have hck:qA1 5 tn false n S.data.toList=0:=qHl rfl (by simpa[kOk] using hi);have cc:=fun w' (hE':Env w')=>qCc 5 tn false n S w' hs hE'
 rw[hck] at cc;have _t:=trivial;have ci:=fun w'=>zAa n false S w' hs
 have b0:=Box2.start w #[.int .i64 5,.bool tn] #[.bool false,.int .i64 n,.string S] 41 43;have kf:=qJz;generalize qF4 5 n S.data.toList=R at *; have HB0:=hh_ b0;have CI:=hh_ ci;have CC:=hh_ cc;have HE:=hh_ hE;clear b0 ci cc hE hck hi;go_enter Tryz.func174,Tryz.ntmps174;go_wp2_with fail
 refine(CC.out _ (HE.out.below HB0.out.bel)).mono ?_;rintro en w1 ⟨rfl,b1⟩;have x1:=HB0.out.step b1;obtain⟨c1,c2,c3,c4,c5⟩:=x1.tc;have e1:=HE.out.below x1.bel;have hD:(w1.drew.cell? ⟨w.heap.size,0,none⟩=some (.int .i64 5)∧w1.drew.cell? ⟨w.heap.size,1,none⟩=some (.bool tn)∧w1.drew.cell? ⟨w.heap.size+1,0,none⟩=some (.bool false)∧w1.drew.cell? ⟨w.heap.size+1,1,none⟩=some (.int .i64 n)∧w1.drew.cell? ⟨w.heap.size+1,2,none⟩=some (.string S))∧Below w1.heap.size w1 w1.drew:=⟨⟨c1,c2,c3,c4,c5⟩,qAa br_ 1⟩;have HX1:=hh_ x1;have HE1:=hh_ e1;have HD:=hh_ hD;clear x1 e1 b1 hD;go_wp2_with fail
 go_region_held3 (fun w'=>(w'.cell? ⟨w.heap.size,0,none⟩=some (.int .i64 5)∧w'.cell? ⟨w.heap.size,1,none⟩=some (.bool tn)∧w'.cell? ⟨w.heap.size+1,0,none⟩=some (.bool false)∧w'.cell? ⟨w.heap.size+1,1,none⟩=some (.int .i64 n)∧w'.cell? ⟨w.heap.size+1,2,none⟩=some (.string S))∧Below w1.heap.size w1 w')
   (first
     |exact HD.out
     |exact qCp HD.out bb
     |exact qCp (by assumption) bb
     |(go_keep;done))
   ((first|((with_reducible refine(of_5 _ _).mono ?_);rintro en w2 ⟨rfl,bb⟩)|((with_reducible refine(CI.out _).mono ?_);rintro en w3 ⟨rfl,bb⟩)))
 all_goals
  go_wp2_with fail
  go_ret2;exact⟨rfl,qKk HX1.out.bel HX1.out.bel.size (by assumption)⟩
theorem qCi (k:Int) (tn nu:Bool) (n:Int) (S:ByteArray) (w:World) (hs:S.size≤100000) (hE:Env w) :
    Calls Tryz.prog 174 #[.agg #[.int .i64 k,.bool tn],.agg #[.bool nu,.int .i64 n,.string S]] w fun e w'=>e=.returned (.tuple #[.string ⟨(qBy k tn nu n S.data.toList).toArray⟩,.int .i64 (qA1 k tn nu n S.data.toList)])∧Below w.heap.size w w':=by
 unfold qBy;by_cases hc:qA1 k tn nu n S.data.toList=0
 · rw[if_pos hc,hc]
   cases nu with
   |true=>rw[if_pos rfl];exact qQ1 k tn n S w hs hE hc
   |false=>
    simp only[Bool.false_eq_true,if_false];obtain⟨hk,ho⟩:=qKq hc;have hi:=qZy ho;rcases qE3 hk with rfl|rfl|rfl|rfl|rfl
    · exact qVb tn n S w hs hE hi
    · exact qW6 tn n S w hs hE hi
    · exact qVj tn n S w hs hE hi
    · exact qVc tn n S w hs hE hi
    · exact qVf tn n S w hs hE hi
 · rw[if_neg hc];exact qSv k tn nu n S w hs hE hc
end Go.Proofs.YtainiaighnjpfaaGreatDoor
namespace Go.Ms
open Go.Lib
end Go.Ms
namespace Go.Proofs.YtainiaighnjpfaaGreatDoor
open Go.RowKit Go.Ms Go.Lib
end Go.Proofs.YtainiaighnjpfaaGreatDoor
