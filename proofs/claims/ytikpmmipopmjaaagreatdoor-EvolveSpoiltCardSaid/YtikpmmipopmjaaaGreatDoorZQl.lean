/- Cells: what is read. -/
import Derived.Test.YtikpmmipopmjaaaGreatDoorZQk
set_option linter.unusedVariables false
namespace Go.Ms
open Go.RowKit Go.Lib
theorem qAs {w:World} {b:Nat} {cs:Array Value} {T:TypeId} {v:Value} (i:Nat) (h:w.heap[b]?=some (.cells cs T (0,0))) (hv:cs[i]?=some v):w.cell? ⟨b,i,none⟩=some v:=by rw[Lib.cell_of_heap h];exact hv
theorem rblk {w w':World} {o:Obj} (h:Below (w.alloc o).heap.size (w.alloc o) w'):w'.heap[w.heap.size]?=some o:=by rw[h.block _ (by simp)];exact heap_alloc_new w _
theorem rral (w:World) (o:Obj):Below w.heap.size w (w.alloc o):=(Below.refl _ _).alloc (Nat.le_refl _) _
theorem qC1 {B:Nat} {w W:World} (h:Below B w W) {b c d:Addr} {u v x:Value} (hb:B≤b.block:=by simp) (hc:B≤c.block:=by simp) (hd:B≤d.block:=by simp):Below B w (((W.setCell b u).setCell c v).setCell d x):=((h.setCell hb _).setCell hc _).setCell hd _
end Go.Ms
namespace Go.Proofs.YtikpmmipopmjaaaGreatDoor
open Go.RowKit Go.Ms Go.Lib
def qHb (D:(Bool×Int×Bs)×Int):Value:=.tuple #[.agg #[.bool D.1.1,.int .i64 D.1.2.1,.string ⟨D.1.2.2.toArray⟩],.int .i64 D.2]
theorem qDu (k:Int) (tn:Bool) (l:Bs) (hk:kMay k=true) {g:Bool} {n:Int} {s:Bs} (hg:qB5 k l=(g,n,s)) (hc:qAt k tn g n s=0) (ht:qCa k tn g n s=l):qHb (qB4 k tn l)=.tuple #[.agg #[.bool g,.int .i64 n,.string ⟨s.toArray⟩],.int .i64 0]:=by
 have:qB4 k tn l=((g,n,s),0):=by
  unfold qB4;rw[if_pos hk,hg];exact if_pos ⟨hc,ht⟩
 rw[this];rfl
theorem qDw (k:Int) (tn:Bool) (l:Bs) (hk:kMay k=true) {g:Bool} {n:Int} {s:Bs} (hg:qB5 k l=(g,n,s)) (hc:¬(qAt k tn g n s=0∧qCa k tn g n s=l)):qHb (qB4 k tn l)=.tuple #[.agg #[.bool false,.int .i64 0,.string ⟨#[]⟩],.int .i64 4]:=by
 have:qB4 k tn l=((false,0,[]),4):=by
  unfold qB4;rw[if_pos hk,hg];exact if_neg hc
 rw[this];rfl
theorem qYy (l:Bs):∀(n:Nat) (acc:Bs) (p:Nat) (e:Int),(uqGo l n acc p e).1.length≤acc.length+4*n
  |0,acc,p,e=>by simp[uqGo]
  | n+1,acc,p,e=>by
   rw[qB2];have hp:=qHn l p e
   repeat' split
   all_goals first|(simp;done)|(simp;omega)|skip
   all_goals
    refine Nat.le_trans (qYy l n _ _ _) ?_;have h1:=qF6 l (p+1) 0;have h2:=qHn l p 0;have h3:=qF6 l (p+1) e;simp only[List.length_append];omega
theorem qLw:∀(n:Nat) (l:Bs),l.length≤n→(qH3 l).length≤n
  |0,l,h=>by rw[qIx (by omega)];simp
  | n+1,l,h=>by
   match l,h with
   |[],_=>simp[qH3]
   |[a],_=>simp[qH3]
   |a::b::t,h=>
    rw[qH3,List.length_cons];have:=qLw n t (by simp at h;omega);omega
theorem qGe (k:Int) (l:Bs):(qCs k l).2.length≤4*(l.length+2):=by
 unfold qCs
 split
 · simp
 · split
   · simp
   · split
     · have:=qYy l (l.length+2) [] (qBi l 34 0 0).1 (qBi l 34 0 0).2
       simpa[qEd] using this
     · have:(trimPrefix l [120]).length≤l.length:=by
         unfold trimPrefix
         split
         · rw[List.length_drop];omega
         · omega
       have h2:=qLw _ _ this
       show(qMg l).length≤_
       unfold qMg;omega
theorem qTi (k:Int) (tn:Bool) (S:ByteArray) (w:World) (hk:kMay k=false) :
    Calls Tryz.prog 106 #[.agg #[.int .i64 k,.bool tn],.string S] w fun e w'=>e=.returned (.tuple #[.agg #[.bool false,.int .i64 0,.string ⟨#[]⟩],.int .i64 2])∧Below w.heap.size w w':=by
 have cm:=fun w'=>qCj k tn w'
 rw[hk] at cm;have b0:=Box2.start w #[.int .i64 k,.bool tn] #[.bool false,.int .i64 0,.string ⟨#[]⟩] 55 57
 have HB0:=Lib.hid b0;have CM:=Lib.hid cm
 clear b0 cm hk
 go_enter Tryz.func106,Tryz.ntmps106
 go_wp2_with fail
 refine(CM.out _).mono ?_;rintro en w1 ⟨rfl,b1⟩;have x1:=HB0.out.step b1;obtain⟨c1,c2,c3,c4,c5⟩:=x1.tc;have f3:=Lib.frozen_of_heap x1.b2 0;have f4:=Lib.frozen_of_heap x1.b2 1;have f5:=Lib.frozen_of_heap x1.b2 2;have HB:=Lib.hid x1.bel;clear x1 b1
 go_wp2_with fail
 exact bodyPost_ret (v:=.tuple #[.agg #[.bool false,.int .i64 0,.string ⟨#[]⟩],.int .i64 2]) (by simp[results,Tryz.results106,go_sem,c3,c4,c5]) rfl ⟨rfl,qC1 HB.out⟩
set_option maxRecDepth 100000 in
set_option maxHeartbeats 4000000 in
theorem qXt (tn:Bool) (w:World) (hE:Env w) :
    Calls Tryz.prog 106 #[.agg #[.int .i64 1,.bool tn],.string (⟨#[110,117,108,108]⟩:ByteArray)] w fun e w'=>e=.returned (qHb (qB4 1 tn (⟨#[110,117,108,108]⟩:ByteArray).data.toList))∧Below w.heap.size w w':=by
 have hs:(⟨#[110,117,108,108]⟩:ByteArray).size≤100000:=by decide
 have ci:=fun w'=>qYs (⟨#[110,117,108,108]⟩:ByteArray) w'
 have cm:=fun w'=>qCj 1 tn w'
 rw[show kMay 1=true from rfl] at cm;have hrl:=trivial;obtain⟨rn,hrn⟩:∃rn,(qCs 1 (⟨#[110,117,108,108]⟩:ByteArray).data.toList).1=rn:=⟨_,rfl⟩;obtain⟨rs,hrs⟩:∃rs,(qCs 1 (⟨#[110,117,108,108]⟩:ByteArray).data.toList).2=rs:=⟨_,rfl⟩;rw[hrn,hrs] at ci
 have hg:qB5 1 (⟨#[110,117,108,108]⟩:ByteArray).data.toList=(true,0,[]):=by
  unfold qB5;exact if_pos rfl
 have ct:∀w',Env w'→Calls Tryz.prog 147 #[.agg #[.int .i64 1,.bool tn],.agg #[.bool true,.int .i64 0,.string ⟨#[]⟩]] w' fun e w''=>e=.returned (.tuple #[.string ⟨(qCa 1 tn true 0 []).toArray⟩,.int .i64 (qAt 1 tn true 0 [])])∧Below w'.heap.size w' w'':=fun w' (hE':Env w')=>qCz 1 tn true 0 ⟨#[]⟩ w' (by decide) hE'
 have ok:=qDu 1 tn (⟨#[110,117,108,108]⟩:ByteArray).data.toList rfl hg;have no:=qDw 1 tn (⟨#[110,117,108,108]⟩:ByteArray).data.toList rfl hg
 generalize qAt 1 tn true 0 []=c at *
 generalize qCa 1 tn true 0 []=L at *
 obtain⟨LB,hLB⟩:∃LB:ByteArray,(⟨L.toArray⟩:ByteArray)=LB:=⟨_,rfl⟩
 have hLl:LB.data.toList=L:=by rw[←hLB]
 rw[hLB] at ct;have b0:=Box2.start w #[.int .i64 1,.bool tn] #[.bool false,.int .i64 0,.string ⟨#[]⟩] 55 57;have kf:=qE4
 have HB0:=Lib.hid b0;have CI:=Lib.hid ci;have CM:=Lib.hid cm;have CT:=Lib.hid ct;have HE:=Lib.hid hE
 clear b0 ci cm ct hE hg hrn hrs hLB hrl
 by_cases hc:c=0
 · by_cases hL:L=(⟨#[110,117,108,108]⟩:ByteArray).data.toList
   · rw[ok hc hL];subst hc
     obtain rfl:LB=(⟨#[110,117,108,108]⟩:ByteArray):=by rw[qB8 (s:=LB) rfl,hLl,hL]
     clear ok no hL hLl
     go_enter Tryz.func106,Tryz.ntmps106
     go_wp2_with fail
     refine(CM.out _).mono ?_;rintro en w1 ⟨rfl,b1⟩;have x1:=HB0.out.step b1;obtain⟨c1,c2,c3,c4,c5⟩:=x1.tc;have X1:=Lib.hid x1;clear x1 b1
     go_wp2_with fail
     refine(of_1 tn _).mono ?_;rintro en w2 ⟨a,b,rfl,hp,b2⟩;have x2:=X1.out.step b2;clear c1 c2 c3 c4 c5
     go_wp2_with fail
     refine(CI.out _).mono ?_;rintro en w3 ⟨rfl,b3⟩;have x3:=x2.step b3;obtain⟨c1,c2,c3,c4,c5⟩:=x3.tc;have bA:=rral w3 (.cells #[.bool true,.int .i64 0,.string ⟨#[]⟩] 57);have x4:=x3.step bA
     have X3:=Lib.hid x3;have X4:=Lib.hid x4;have hl3:=x3.lt
     obtain⟨a1,a2,a3,a4,a5⟩:=x4.tc
     have n1:w.heap.size<w3.heap.size:=by omega
     have n2:w.heap.size+1<w3.heap.size:=by omega
     clear x2 b2 b3 x3 x4 bA
     go_wp2_with fail
     refine(CT.out _ (HE.out.below X4.out.bel)).mono ?_;rintro en w5 ⟨rfl,b5⟩;have x5:=X4.out.step b5;clear c1 c2 c3 c4 c5 a1 a2 a3 a4 a5;obtain⟨c1,c2,c3,c4,c5⟩:=x5.tc;have hblk:=rblk b5;have g3:=qAs 0 hblk rfl;have g4:=qAs 1 hblk rfl;have g5:=qAs 2 hblk rfl;have f3:=Lib.frozen_of_heap x5.b2 0;have f4:=Lib.frozen_of_heap x5.b2 1;have f5:=Lib.frozen_of_heap x5.b2 2;have HB:=Lib.hid x5.bel;clear x5 b5 hblk
     go_wp2_with fail
     exact bodyPost_ret (v:=.tuple #[.agg #[.bool true,.int .i64 0,.string ⟨#[]⟩],.int .i64 0]) (by simp[results,Tryz.results106,go_sem,c3,c4,c5]) rfl ⟨rfl,qC1 HB.out⟩
   · rw[no (fun h=>hL h.2)];subst hc
     have q1:(LB.toList==(⟨#[110,117,108,108]⟩:ByteArray).toList)=false:=by rw[Lib.toList_data,Lib.toList_data,hLl];rw[beq_eq_false_iff_ne];exact hL
     have q2:¬LB.toList=(⟨#[110,117,108,108]⟩:ByteArray).toList:=by rw[Lib.toList_data,Lib.toList_data,hLl];exact hL
     have q3:(LB.toList==[110,117,108,108])=false:=by rw[Lib.toList_data,hLl];rw[beq_eq_false_iff_ne];exact hL
     clear ok no hL hLl
     go_enter Tryz.func106,Tryz.ntmps106
     go_wp2_with fail
     refine(CM.out _).mono ?_;rintro en w1 ⟨rfl,b1⟩;have x1:=HB0.out.step b1;obtain⟨c1,c2,c3,c4,c5⟩:=x1.tc;have X1:=Lib.hid x1;clear x1 b1
     go_wp2_with fail
     refine(of_1 tn _).mono ?_;rintro en w2 ⟨a,b,rfl,hp,b2⟩;have x2:=X1.out.step b2;clear c1 c2 c3 c4 c5
     go_wp2_with fail
     refine(CI.out _).mono ?_;rintro en w3 ⟨rfl,b3⟩;have x3:=x2.step b3;obtain⟨c1,c2,c3,c4,c5⟩:=x3.tc;have bA:=rral w3 (.cells #[.bool true,.int .i64 0,.string ⟨#[]⟩] 57);have x4:=x3.step bA
     have X3:=Lib.hid x3;have X4:=Lib.hid x4;have hl3:=x3.lt
     obtain⟨a1,a2,a3,a4,a5⟩:=x4.tc
     have n1:w.heap.size<w3.heap.size:=by omega
     have n2:w.heap.size+1<w3.heap.size:=by omega
     clear x2 b2 b3 x3 x4 bA
     go_wp2_with fail
     refine(CT.out _ (HE.out.below X4.out.bel)).mono ?_;rintro en w5 ⟨rfl,b5⟩;have x5:=X4.out.step b5;clear c1 c2 c3 c4 c5 a1 a2 a3 a4 a5;obtain⟨c1,c2,c3,c4,c5⟩:=x5.tc;have hblk:=rblk b5;have g3:=qAs 0 hblk rfl;have g4:=qAs 1 hblk rfl;have g5:=qAs 2 hblk rfl;have f3:=Lib.frozen_of_heap x5.b2 0;have f4:=Lib.frozen_of_heap x5.b2 1;have f5:=Lib.frozen_of_heap x5.b2 2;have HB:=Lib.hid x5.bel;clear x5 b5 hblk
     go_wp2_with fail
     exact bodyPost_ret (v:=.tuple #[.agg #[.bool false,.int .i64 0,.string ⟨#[]⟩],.int .i64 4]) (by simp[results,Tryz.results106,go_sem,c3,c4,c5]) rfl ⟨rfl,qC1 HB.out⟩
 · rw[no (fun h=>hc h.1)]
   have q1:(c != 0)=true:=by simpa using hc
   clear ok no hLl
   go_enter Tryz.func106,Tryz.ntmps106
   go_wp2_with fail
   refine(CM.out _).mono ?_;rintro en w1 ⟨rfl,b1⟩;have x1:=HB0.out.step b1;obtain⟨c1,c2,c3,c4,c5⟩:=x1.tc;have X1:=Lib.hid x1;clear x1 b1
   go_wp2_with fail
   refine(of_1 tn _).mono ?_;rintro en w2 ⟨a,b,rfl,hp,b2⟩;have x2:=X1.out.step b2;clear c1 c2 c3 c4 c5
   go_wp2_with fail
   refine(CI.out _).mono ?_;rintro en w3 ⟨rfl,b3⟩;have x3:=x2.step b3;obtain⟨c1,c2,c3,c4,c5⟩:=x3.tc;have bA:=rral w3 (.cells #[.bool true,.int .i64 0,.string ⟨#[]⟩] 57);have x4:=x3.step bA
   have X3:=Lib.hid x3;have X4:=Lib.hid x4;have hl3:=x3.lt
   obtain⟨a1,a2,a3,a4,a5⟩:=x4.tc
   have n1:w.heap.size<w3.heap.size:=by omega
   have n2:w.heap.size+1<w3.heap.size:=by omega
   clear x2 b2 b3 x3 x4 bA
   go_wp2_with fail
   refine(CT.out _ (HE.out.below X4.out.bel)).mono ?_;rintro en w5 ⟨rfl,b5⟩;have x5:=X4.out.step b5;clear c1 c2 c3 c4 c5 a1 a2 a3 a4 a5;obtain⟨c1,c2,c3,c4,c5⟩:=x5.tc;have hblk:=rblk b5;have g3:=qAs 0 hblk rfl;have g4:=qAs 1 hblk rfl;have g5:=qAs 2 hblk rfl;have f3:=Lib.frozen_of_heap x5.b2 0;have f4:=Lib.frozen_of_heap x5.b2 1;have f5:=Lib.frozen_of_heap x5.b2 2;have HB:=Lib.hid x5.bel;clear x5 b5 hblk
   go_wp2_with fail
   exact bodyPost_ret (v:=.tuple #[.agg #[.bool false,.int .i64 0,.string ⟨#[]⟩],.int .i64 4]) (by simp[results,Tryz.results106,go_sem,c3,c4,c5]) rfl ⟨rfl,qC1 HB.out⟩
set_option maxRecDepth 100000 in
set_option maxHeartbeats 4000000 in
theorem qWd (tn:Bool) (S:ByteArray) (w:World) (hs0:S.size≤20000) (hE:Env w) (hN:¬S.data.toList=qNy) :
    Calls Tryz.prog 106 #[.agg #[.int .i64 1,.bool tn],.string S] w fun e w'=>e=.returned (qHb (qB4 1 tn S.data.toList))∧Below w.heap.size w w':=by
 have hs:S.size≤100000:=by omega
 have ci:=fun w'=>qYs S w'
 have cm:=fun w'=>qCj 1 tn w'
 rw[show kMay 1=true from rfl] at cm;have hrl:=qGe 1 S.data.toList;obtain⟨rn,hrn⟩:∃rn,(qCs 1 S.data.toList).1=rn:=⟨_,rfl⟩;obtain⟨rs,hrs⟩:∃rs,(qCs 1 S.data.toList).2=rs:=⟨_,rfl⟩;rw[hrn,hrs] at ci
 have hg:qB5 1 S.data.toList=(false,rn,rs):=by
  unfold qB5;rw[if_neg hN,hrn,hrs]
 rw[hrs,lenS] at hrl;have hls:(⟨rs.toArray⟩:ByteArray).size=rs.length:=List.size_toArray
 have ct:∀w',Env w'→Calls Tryz.prog 147 #[.agg #[.int .i64 1,.bool tn],.agg #[.bool false,.int .i64 rn,.string ⟨rs.toArray⟩]] w' fun e w''=>e=.returned (.tuple #[.string ⟨(qCa 1 tn false rn rs).toArray⟩,.int .i64 (qAt 1 tn false rn rs)])∧Below w'.heap.size w' w'':=fun w' (hE':Env w')=>qCz 1 tn false rn ⟨rs.toArray⟩ w' (by rw[hls];omega) hE'
 have ok:=qDu 1 tn S.data.toList rfl hg;have no:=qDw 1 tn S.data.toList rfl hg
 have e1:(S.toList==[110,117,108,108])=false:=by rw[Lib.toList_data];rw[beq_eq_false_iff_ne];exact hN
 have e2:¬S.toList=[110,117,108,108]:=by rw[Lib.toList_data];exact hN
 generalize qAt 1 tn false rn rs=c at *
 generalize qCa 1 tn false rn rs=L at *
 obtain⟨LB,hLB⟩:∃LB:ByteArray,(⟨L.toArray⟩:ByteArray)=LB:=⟨_,rfl⟩
 have hLl:LB.data.toList=L:=by rw[←hLB]
 rw[hLB] at ct;have b0:=Box2.start w #[.int .i64 1,.bool tn] #[.bool false,.int .i64 0,.string ⟨#[]⟩] 55 57;have kf:=qE4
 have HB0:=Lib.hid b0;have CI:=Lib.hid ci;have CM:=Lib.hid cm;have CT:=Lib.hid ct;have HE:=Lib.hid hE
 clear b0 ci cm ct hE hg hrn hrs hLB hrl hls
 by_cases hc:c=0
 · by_cases hL:L=S.data.toList
   · rw[ok hc hL];subst hc
     obtain rfl:LB=S:=by rw[qB8 (s:=LB) rfl,hLl,hL]
     clear ok no hL hLl hN
     go_enter Tryz.func106,Tryz.ntmps106
     go_wp2_with fail
     refine(CM.out _).mono ?_;rintro en w1 ⟨rfl,b1⟩;have x1:=HB0.out.step b1;obtain⟨c1,c2,c3,c4,c5⟩:=x1.tc;have X1:=Lib.hid x1;clear x1 b1
     go_wp2_with fail
     refine(of_1 tn _).mono ?_;rintro en w2 ⟨a,b,rfl,hp,b2⟩;have x2:=X1.out.step b2;clear c1 c2 c3 c4 c5
     go_wp2_with fail
     refine(CI.out _).mono ?_;rintro en w3 ⟨rfl,b3⟩;have x3:=x2.step b3;obtain⟨c1,c2,c3,c4,c5⟩:=x3.tc;have bA:=rral w3 (.cells #[.bool false,.int .i64 rn,.string ⟨rs.toArray⟩] 57);have x4:=x3.step bA
     have X3:=Lib.hid x3;have X4:=Lib.hid x4;have hl3:=x3.lt
     obtain⟨a1,a2,a3,a4,a5⟩:=x4.tc
     have n1:w.heap.size<w3.heap.size:=by omega
     have n2:w.heap.size+1<w3.heap.size:=by omega
     clear x2 b2 b3 x3 x4 bA
     go_wp2_with fail
     refine(CT.out _ (HE.out.below X4.out.bel)).mono ?_;rintro en w5 ⟨rfl,b5⟩;have x5:=X4.out.step b5;clear c1 c2 c3 c4 c5 a1 a2 a3 a4 a5;obtain⟨c1,c2,c3,c4,c5⟩:=x5.tc;have hblk:=rblk b5;have g3:=qAs 0 hblk rfl;have g4:=qAs 1 hblk rfl;have g5:=qAs 2 hblk rfl;have f3:=Lib.frozen_of_heap x5.b2 0;have f4:=Lib.frozen_of_heap x5.b2 1;have f5:=Lib.frozen_of_heap x5.b2 2;have HB:=Lib.hid x5.bel;clear x5 b5 hblk
     go_wp2_with fail
     exact bodyPost_ret (v:=.tuple #[.agg #[.bool false,.int .i64 rn,.string ⟨rs.toArray⟩],.int .i64 0]) (by simp[results,Tryz.results106,go_sem,c3,c4,c5]) rfl ⟨rfl,qC1 HB.out⟩
   · rw[no (fun h=>hL h.2)];subst hc
     have q1:(LB.toList==S.toList)=false:=by rw[Lib.toList_data,Lib.toList_data,hLl];rw[beq_eq_false_iff_ne];exact hL
     have q2:¬LB.toList=S.toList:=by rw[Lib.toList_data,Lib.toList_data,hLl];exact hL
     clear ok no hL hLl hN
     go_enter Tryz.func106,Tryz.ntmps106
     go_wp2_with fail
     refine(CM.out _).mono ?_;rintro en w1 ⟨rfl,b1⟩;have x1:=HB0.out.step b1;obtain⟨c1,c2,c3,c4,c5⟩:=x1.tc;have X1:=Lib.hid x1;clear x1 b1
     go_wp2_with fail
     refine(of_1 tn _).mono ?_;rintro en w2 ⟨a,b,rfl,hp,b2⟩;have x2:=X1.out.step b2;clear c1 c2 c3 c4 c5
     go_wp2_with fail
     refine(CI.out _).mono ?_;rintro en w3 ⟨rfl,b3⟩;have x3:=x2.step b3;obtain⟨c1,c2,c3,c4,c5⟩:=x3.tc;have bA:=rral w3 (.cells #[.bool false,.int .i64 rn,.string ⟨rs.toArray⟩] 57);have x4:=x3.step bA
     have X3:=Lib.hid x3;have X4:=Lib.hid x4;have hl3:=x3.lt
     obtain⟨a1,a2,a3,a4,a5⟩:=x4.tc
     have n1:w.heap.size<w3.heap.size:=by omega
     have n2:w.heap.size+1<w3.heap.size:=by omega
     clear x2 b2 b3 x3 x4 bA
     go_wp2_with fail
     refine(CT.out _ (HE.out.below X4.out.bel)).mono ?_;rintro en w5 ⟨rfl,b5⟩;have x5:=X4.out.step b5;clear c1 c2 c3 c4 c5 a1 a2 a3 a4 a5;obtain⟨c1,c2,c3,c4,c5⟩:=x5.tc;have hblk:=rblk b5;have g3:=qAs 0 hblk rfl;have g4:=qAs 1 hblk rfl;have g5:=qAs 2 hblk rfl;have f3:=Lib.frozen_of_heap x5.b2 0;have f4:=Lib.frozen_of_heap x5.b2 1;have f5:=Lib.frozen_of_heap x5.b2 2;have HB:=Lib.hid x5.bel;clear x5 b5 hblk
     go_wp2_with fail
     exact bodyPost_ret (v:=.tuple #[.agg #[.bool false,.int .i64 0,.string ⟨#[]⟩],.int .i64 4]) (by simp[results,Tryz.results106,go_sem,c3,c4,c5]) rfl ⟨rfl,qC1 HB.out⟩
 · rw[no (fun h=>hc h.1)]
   have q1:(c != 0)=true:=by simpa using hc
   clear ok no hLl hN
   go_enter Tryz.func106,Tryz.ntmps106
   go_wp2_with fail
   refine(CM.out _).mono ?_;rintro en w1 ⟨rfl,b1⟩;have x1:=HB0.out.step b1;obtain⟨c1,c2,c3,c4,c5⟩:=x1.tc;have X1:=Lib.hid x1;clear x1 b1
   go_wp2_with fail
   refine(of_1 tn _).mono ?_;rintro en w2 ⟨a,b,rfl,hp,b2⟩;have x2:=X1.out.step b2;clear c1 c2 c3 c4 c5
   go_wp2_with fail
   refine(CI.out _).mono ?_;rintro en w3 ⟨rfl,b3⟩;have x3:=x2.step b3;obtain⟨c1,c2,c3,c4,c5⟩:=x3.tc;have bA:=rral w3 (.cells #[.bool false,.int .i64 rn,.string ⟨rs.toArray⟩] 57);have x4:=x3.step bA
   have X3:=Lib.hid x3;have X4:=Lib.hid x4;have hl3:=x3.lt
   obtain⟨a1,a2,a3,a4,a5⟩:=x4.tc
   have n1:w.heap.size<w3.heap.size:=by omega
   have n2:w.heap.size+1<w3.heap.size:=by omega
   clear x2 b2 b3 x3 x4 bA
   go_wp2_with fail
   refine(CT.out _ (HE.out.below X4.out.bel)).mono ?_;rintro en w5 ⟨rfl,b5⟩;have x5:=X4.out.step b5;clear c1 c2 c3 c4 c5 a1 a2 a3 a4 a5;obtain⟨c1,c2,c3,c4,c5⟩:=x5.tc;have hblk:=rblk b5;have g3:=qAs 0 hblk rfl;have g4:=qAs 1 hblk rfl;have g5:=qAs 2 hblk rfl;have f3:=Lib.frozen_of_heap x5.b2 0;have f4:=Lib.frozen_of_heap x5.b2 1;have f5:=Lib.frozen_of_heap x5.b2 2;have HB:=Lib.hid x5.bel;clear x5 b5 hblk
   go_wp2_with fail
   exact bodyPost_ret (v:=.tuple #[.agg #[.bool false,.int .i64 0,.string ⟨#[]⟩],.int .i64 4]) (by simp[results,Tryz.results106,go_sem,c3,c4,c5]) rfl ⟨rfl,qC1 HB.out⟩
set_option maxRecDepth 100000 in
set_option maxHeartbeats 4000000 in
theorem qXk (tn:Bool) (w:World) (hE:Env w) :
    Calls Tryz.prog 106 #[.agg #[.int .i64 2,.bool tn],.string (⟨#[110,117,108,108]⟩:ByteArray)] w fun e w'=>e=.returned (qHb (qB4 2 tn (⟨#[110,117,108,108]⟩:ByteArray).data.toList))∧Below w.heap.size w w':=by
 have hs:(⟨#[110,117,108,108]⟩:ByteArray).size≤100000:=by decide
 have ci:=fun w' (hE:Env w')=>qYt (⟨#[110,117,108,108]⟩:ByteArray) w' hs hE
 have cm:=fun w'=>qCj 2 tn w'
 rw[show kMay 2=true from rfl] at cm;have hrl:=trivial;obtain⟨rn,hrn⟩:∃rn,(qCs 2 (⟨#[110,117,108,108]⟩:ByteArray).data.toList).1=rn:=⟨_,rfl⟩;obtain⟨rs,hrs⟩:∃rs,(qCs 2 (⟨#[110,117,108,108]⟩:ByteArray).data.toList).2=rs:=⟨_,rfl⟩;rw[hrn,hrs] at ci
 have hg:qB5 2 (⟨#[110,117,108,108]⟩:ByteArray).data.toList=(true,0,[]):=by
  unfold qB5;exact if_pos rfl
 have ct:∀w',Env w'→Calls Tryz.prog 147 #[.agg #[.int .i64 2,.bool tn],.agg #[.bool true,.int .i64 0,.string ⟨#[]⟩]] w' fun e w''=>e=.returned (.tuple #[.string ⟨(qCa 2 tn true 0 []).toArray⟩,.int .i64 (qAt 2 tn true 0 [])])∧Below w'.heap.size w' w'':=fun w' (hE':Env w')=>qCz 2 tn true 0 ⟨#[]⟩ w' (by decide) hE'
 have ok:=qDu 2 tn (⟨#[110,117,108,108]⟩:ByteArray).data.toList rfl hg;have no:=qDw 2 tn (⟨#[110,117,108,108]⟩:ByteArray).data.toList rfl hg
 generalize qAt 2 tn true 0 []=c at *
 generalize qCa 2 tn true 0 []=L at *
 obtain⟨LB,hLB⟩:∃LB:ByteArray,(⟨L.toArray⟩:ByteArray)=LB:=⟨_,rfl⟩
 have hLl:LB.data.toList=L:=by rw[←hLB]
 rw[hLB] at ct;have b0:=Box2.start w #[.int .i64 2,.bool tn] #[.bool false,.int .i64 0,.string ⟨#[]⟩] 55 57;have kf:=qE4
 have HB0:=Lib.hid b0;have CI:=Lib.hid ci;have CM:=Lib.hid cm;have CT:=Lib.hid ct;have HE:=Lib.hid hE
 clear b0 ci cm ct hE hg hrn hrs hLB hrl
 by_cases hc:c=0
 · by_cases hL:L=(⟨#[110,117,108,108]⟩:ByteArray).data.toList
   · rw[ok hc hL];subst hc
     obtain rfl:LB=(⟨#[110,117,108,108]⟩:ByteArray):=by rw[qB8 (s:=LB) rfl,hLl,hL]
     clear ok no hL hLl
     go_enter Tryz.func106,Tryz.ntmps106
     go_wp2_with fail
     refine(CM.out _).mono ?_;rintro en w1 ⟨rfl,b1⟩;have x1:=HB0.out.step b1;obtain⟨c1,c2,c3,c4,c5⟩:=x1.tc;have X1:=Lib.hid x1;clear x1 b1
     go_wp2_with fail
     refine(of_2 tn _).mono ?_;rintro en w2 ⟨a,b,rfl,hp,b2⟩;have x2:=X1.out.step b2;clear c1 c2 c3 c4 c5
     go_wp2_with fail
     refine(CI.out _ (HE.out.below x2.bel)).mono ?_;rintro en w3 ⟨rfl,b3⟩;have x3:=x2.step b3;obtain⟨c1,c2,c3,c4,c5⟩:=x3.tc;have bA:=rral w3 (.cells #[.bool true,.int .i64 0,.string ⟨#[]⟩] 57);have x4:=x3.step bA
     have X3:=Lib.hid x3;have X4:=Lib.hid x4;have hl3:=x3.lt
     obtain⟨a1,a2,a3,a4,a5⟩:=x4.tc
     have n1:w.heap.size<w3.heap.size:=by omega
     have n2:w.heap.size+1<w3.heap.size:=by omega
     clear x2 b2 b3 x3 x4 bA
     go_wp2_with fail
     refine(CT.out _ (HE.out.below X4.out.bel)).mono ?_;rintro en w5 ⟨rfl,b5⟩;have x5:=X4.out.step b5;clear c1 c2 c3 c4 c5 a1 a2 a3 a4 a5;obtain⟨c1,c2,c3,c4,c5⟩:=x5.tc;have hblk:=rblk b5;have g3:=qAs 0 hblk rfl;have g4:=qAs 1 hblk rfl;have g5:=qAs 2 hblk rfl;have f3:=Lib.frozen_of_heap x5.b2 0;have f4:=Lib.frozen_of_heap x5.b2 1;have f5:=Lib.frozen_of_heap x5.b2 2;have HB:=Lib.hid x5.bel;clear x5 b5 hblk
     go_wp2_with fail
     exact bodyPost_ret (v:=.tuple #[.agg #[.bool true,.int .i64 0,.string ⟨#[]⟩],.int .i64 0]) (by simp[results,Tryz.results106,go_sem,c3,c4,c5]) rfl ⟨rfl,qC1 HB.out⟩
   · rw[no (fun h=>hL h.2)];subst hc
     have q1:(LB.toList==(⟨#[110,117,108,108]⟩:ByteArray).toList)=false:=by rw[Lib.toList_data,Lib.toList_data,hLl];rw[beq_eq_false_iff_ne];exact hL
     have q2:¬LB.toList=(⟨#[110,117,108,108]⟩:ByteArray).toList:=by rw[Lib.toList_data,Lib.toList_data,hLl];exact hL
     have q3:(LB.toList==[110,117,108,108])=false:=by rw[Lib.toList_data,hLl];rw[beq_eq_false_iff_ne];exact hL
     clear ok no hL hLl
     go_enter Tryz.func106,Tryz.ntmps106
     go_wp2_with fail
     refine(CM.out _).mono ?_;rintro en w1 ⟨rfl,b1⟩;have x1:=HB0.out.step b1;obtain⟨c1,c2,c3,c4,c5⟩:=x1.tc;have X1:=Lib.hid x1;clear x1 b1
     go_wp2_with fail
     refine(of_2 tn _).mono ?_;rintro en w2 ⟨a,b,rfl,hp,b2⟩;have x2:=X1.out.step b2;clear c1 c2 c3 c4 c5
     go_wp2_with fail
     refine(CI.out _ (HE.out.below x2.bel)).mono ?_;rintro en w3 ⟨rfl,b3⟩;have x3:=x2.step b3;obtain⟨c1,c2,c3,c4,c5⟩:=x3.tc;have bA:=rral w3 (.cells #[.bool true,.int .i64 0,.string ⟨#[]⟩] 57);have x4:=x3.step bA
     have X3:=Lib.hid x3;have X4:=Lib.hid x4;have hl3:=x3.lt
     obtain⟨a1,a2,a3,a4,a5⟩:=x4.tc
     have n1:w.heap.size<w3.heap.size:=by omega
     have n2:w.heap.size+1<w3.heap.size:=by omega
     clear x2 b2 b3 x3 x4 bA
     go_wp2_with fail
     refine(CT.out _ (HE.out.below X4.out.bel)).mono ?_;rintro en w5 ⟨rfl,b5⟩;have x5:=X4.out.step b5;clear c1 c2 c3 c4 c5 a1 a2 a3 a4 a5;obtain⟨c1,c2,c3,c4,c5⟩:=x5.tc;have hblk:=rblk b5;have g3:=qAs 0 hblk rfl;have g4:=qAs 1 hblk rfl;have g5:=qAs 2 hblk rfl;have f3:=Lib.frozen_of_heap x5.b2 0;have f4:=Lib.frozen_of_heap x5.b2 1;have f5:=Lib.frozen_of_heap x5.b2 2;have HB:=Lib.hid x5.bel;clear x5 b5 hblk
     go_wp2_with fail
     exact bodyPost_ret (v:=.tuple #[.agg #[.bool false,.int .i64 0,.string ⟨#[]⟩],.int .i64 4]) (by simp[results,Tryz.results106,go_sem,c3,c4,c5]) rfl ⟨rfl,qC1 HB.out⟩
 · rw[no (fun h=>hc h.1)]
   have q1:(c != 0)=true:=by simpa using hc
   clear ok no hLl
   go_enter Tryz.func106,Tryz.ntmps106
   go_wp2_with fail
   refine(CM.out _).mono ?_;rintro en w1 ⟨rfl,b1⟩;have x1:=HB0.out.step b1;obtain⟨c1,c2,c3,c4,c5⟩:=x1.tc;have X1:=Lib.hid x1;clear x1 b1
   go_wp2_with fail
   refine(of_2 tn _).mono ?_;rintro en w2 ⟨a,b,rfl,hp,b2⟩;have x2:=X1.out.step b2;clear c1 c2 c3 c4 c5
   go_wp2_with fail
   refine(CI.out _ (HE.out.below x2.bel)).mono ?_;rintro en w3 ⟨rfl,b3⟩;have x3:=x2.step b3;obtain⟨c1,c2,c3,c4,c5⟩:=x3.tc;have bA:=rral w3 (.cells #[.bool true,.int .i64 0,.string ⟨#[]⟩] 57);have x4:=x3.step bA
   have X3:=Lib.hid x3;have X4:=Lib.hid x4;have hl3:=x3.lt
   obtain⟨a1,a2,a3,a4,a5⟩:=x4.tc
   have n1:w.heap.size<w3.heap.size:=by omega
   have n2:w.heap.size+1<w3.heap.size:=by omega
   clear x2 b2 b3 x3 x4 bA
   go_wp2_with fail
   refine(CT.out _ (HE.out.below X4.out.bel)).mono ?_;rintro en w5 ⟨rfl,b5⟩;have x5:=X4.out.step b5;clear c1 c2 c3 c4 c5 a1 a2 a3 a4 a5;obtain⟨c1,c2,c3,c4,c5⟩:=x5.tc;have hblk:=rblk b5;have g3:=qAs 0 hblk rfl;have g4:=qAs 1 hblk rfl;have g5:=qAs 2 hblk rfl;have f3:=Lib.frozen_of_heap x5.b2 0;have f4:=Lib.frozen_of_heap x5.b2 1;have f5:=Lib.frozen_of_heap x5.b2 2;have HB:=Lib.hid x5.bel;clear x5 b5 hblk
   go_wp2_with fail
   exact bodyPost_ret (v:=.tuple #[.agg #[.bool false,.int .i64 0,.string ⟨#[]⟩],.int .i64 4]) (by simp[results,Tryz.results106,go_sem,c3,c4,c5]) rfl ⟨rfl,qC1 HB.out⟩
set_option maxRecDepth 100000 in
set_option maxHeartbeats 4000000 in
theorem qXz (tn:Bool) (S:ByteArray) (w:World) (hs0:S.size≤20000) (hE:Env w) (hN:¬S.data.toList=qNy) :
    Calls Tryz.prog 106 #[.agg #[.int .i64 2,.bool tn],.string S] w fun e w'=>e=.returned (qHb (qB4 2 tn S.data.toList))∧Below w.heap.size w w':=by
 have hs:S.size≤100000:=by omega
 have ci:=fun w' (hE:Env w')=>qYt S w' hs hE
 have cm:=fun w'=>qCj 2 tn w'
 rw[show kMay 2=true from rfl] at cm;have hrl:=qGe 2 S.data.toList;obtain⟨rn,hrn⟩:∃rn,(qCs 2 S.data.toList).1=rn:=⟨_,rfl⟩;obtain⟨rs,hrs⟩:∃rs,(qCs 2 S.data.toList).2=rs:=⟨_,rfl⟩;rw[hrn,hrs] at ci
 have hg:qB5 2 S.data.toList=(false,rn,rs):=by
  unfold qB5;rw[if_neg hN,hrn,hrs]
 rw[hrs,lenS] at hrl;have hls:(⟨rs.toArray⟩:ByteArray).size=rs.length:=List.size_toArray
 have ct:∀w',Env w'→Calls Tryz.prog 147 #[.agg #[.int .i64 2,.bool tn],.agg #[.bool false,.int .i64 rn,.string ⟨rs.toArray⟩]] w' fun e w''=>e=.returned (.tuple #[.string ⟨(qCa 2 tn false rn rs).toArray⟩,.int .i64 (qAt 2 tn false rn rs)])∧Below w'.heap.size w' w'':=fun w' (hE':Env w')=>qCz 2 tn false rn ⟨rs.toArray⟩ w' (by rw[hls];omega) hE'
 have ok:=qDu 2 tn S.data.toList rfl hg;have no:=qDw 2 tn S.data.toList rfl hg
 have e1:(S.toList==[110,117,108,108])=false:=by rw[Lib.toList_data];rw[beq_eq_false_iff_ne];exact hN
 have e2:¬S.toList=[110,117,108,108]:=by rw[Lib.toList_data];exact hN
 generalize qAt 2 tn false rn rs=c at *
 generalize qCa 2 tn false rn rs=L at *
 obtain⟨LB,hLB⟩:∃LB:ByteArray,(⟨L.toArray⟩:ByteArray)=LB:=⟨_,rfl⟩
 have hLl:LB.data.toList=L:=by rw[←hLB]
 rw[hLB] at ct;have b0:=Box2.start w #[.int .i64 2,.bool tn] #[.bool false,.int .i64 0,.string ⟨#[]⟩] 55 57;have kf:=qE4
 have HB0:=Lib.hid b0;have CI:=Lib.hid ci;have CM:=Lib.hid cm;have CT:=Lib.hid ct;have HE:=Lib.hid hE
 clear b0 ci cm ct hE hg hrn hrs hLB hrl hls
 by_cases hc:c=0
 · by_cases hL:L=S.data.toList
   · rw[ok hc hL];subst hc
     obtain rfl:LB=S:=by rw[qB8 (s:=LB) rfl,hLl,hL]
     clear ok no hL hLl hN
     go_enter Tryz.func106,Tryz.ntmps106
     go_wp2_with fail
     refine(CM.out _).mono ?_;rintro en w1 ⟨rfl,b1⟩;have x1:=HB0.out.step b1;obtain⟨c1,c2,c3,c4,c5⟩:=x1.tc;have X1:=Lib.hid x1;clear x1 b1
     go_wp2_with fail
     refine(of_2 tn _).mono ?_;rintro en w2 ⟨a,b,rfl,hp,b2⟩;have x2:=X1.out.step b2;clear c1 c2 c3 c4 c5
     go_wp2_with fail
     refine(CI.out _ (HE.out.below x2.bel)).mono ?_;rintro en w3 ⟨rfl,b3⟩;have x3:=x2.step b3;obtain⟨c1,c2,c3,c4,c5⟩:=x3.tc;have bA:=rral w3 (.cells #[.bool false,.int .i64 rn,.string ⟨rs.toArray⟩] 57);have x4:=x3.step bA
     have X3:=Lib.hid x3;have X4:=Lib.hid x4;have hl3:=x3.lt
     obtain⟨a1,a2,a3,a4,a5⟩:=x4.tc
     have n1:w.heap.size<w3.heap.size:=by omega
     have n2:w.heap.size+1<w3.heap.size:=by omega
     clear x2 b2 b3 x3 x4 bA
     go_wp2_with fail
     refine(CT.out _ (HE.out.below X4.out.bel)).mono ?_;rintro en w5 ⟨rfl,b5⟩;have x5:=X4.out.step b5;clear c1 c2 c3 c4 c5 a1 a2 a3 a4 a5;obtain⟨c1,c2,c3,c4,c5⟩:=x5.tc;have hblk:=rblk b5;have g3:=qAs 0 hblk rfl;have g4:=qAs 1 hblk rfl;have g5:=qAs 2 hblk rfl;have f3:=Lib.frozen_of_heap x5.b2 0;have f4:=Lib.frozen_of_heap x5.b2 1;have f5:=Lib.frozen_of_heap x5.b2 2;have HB:=Lib.hid x5.bel;clear x5 b5 hblk
     go_wp2_with fail
     exact bodyPost_ret (v:=.tuple #[.agg #[.bool false,.int .i64 rn,.string ⟨rs.toArray⟩],.int .i64 0]) (by simp[results,Tryz.results106,go_sem,c3,c4,c5]) rfl ⟨rfl,qC1 HB.out⟩
   · rw[no (fun h=>hL h.2)];subst hc
     have q1:(LB.toList==S.toList)=false:=by rw[Lib.toList_data,Lib.toList_data,hLl];rw[beq_eq_false_iff_ne];exact hL
     have q2:¬LB.toList=S.toList:=by rw[Lib.toList_data,Lib.toList_data,hLl];exact hL
     clear ok no hL hLl hN
     go_enter Tryz.func106,Tryz.ntmps106
     go_wp2_with fail
     refine(CM.out _).mono ?_;rintro en w1 ⟨rfl,b1⟩;have x1:=HB0.out.step b1;obtain⟨c1,c2,c3,c4,c5⟩:=x1.tc;have X1:=Lib.hid x1;clear x1 b1
     go_wp2_with fail
     refine(of_2 tn _).mono ?_;rintro en w2 ⟨a,b,rfl,hp,b2⟩;have x2:=X1.out.step b2;clear c1 c2 c3 c4 c5
     go_wp2_with fail
     refine(CI.out _ (HE.out.below x2.bel)).mono ?_;rintro en w3 ⟨rfl,b3⟩;have x3:=x2.step b3;obtain⟨c1,c2,c3,c4,c5⟩:=x3.tc;have bA:=rral w3 (.cells #[.bool false,.int .i64 rn,.string ⟨rs.toArray⟩] 57);have x4:=x3.step bA
     have X3:=Lib.hid x3;have X4:=Lib.hid x4;have hl3:=x3.lt
     obtain⟨a1,a2,a3,a4,a5⟩:=x4.tc
     have n1:w.heap.size<w3.heap.size:=by omega
     have n2:w.heap.size+1<w3.heap.size:=by omega
     clear x2 b2 b3 x3 x4 bA
     go_wp2_with fail
     refine(CT.out _ (HE.out.below X4.out.bel)).mono ?_;rintro en w5 ⟨rfl,b5⟩;have x5:=X4.out.step b5;clear c1 c2 c3 c4 c5 a1 a2 a3 a4 a5;obtain⟨c1,c2,c3,c4,c5⟩:=x5.tc;have hblk:=rblk b5;have g3:=qAs 0 hblk rfl;have g4:=qAs 1 hblk rfl;have g5:=qAs 2 hblk rfl;have f3:=Lib.frozen_of_heap x5.b2 0;have f4:=Lib.frozen_of_heap x5.b2 1;have f5:=Lib.frozen_of_heap x5.b2 2;have HB:=Lib.hid x5.bel;clear x5 b5 hblk
     go_wp2_with fail
     exact bodyPost_ret (v:=.tuple #[.agg #[.bool false,.int .i64 0,.string ⟨#[]⟩],.int .i64 4]) (by simp[results,Tryz.results106,go_sem,c3,c4,c5]) rfl ⟨rfl,qC1 HB.out⟩
 · rw[no (fun h=>hc h.1)]
   have q1:(c != 0)=true:=by simpa using hc
   clear ok no hLl hN
   go_enter Tryz.func106,Tryz.ntmps106
   go_wp2_with fail
   refine(CM.out _).mono ?_;rintro en w1 ⟨rfl,b1⟩;have x1:=HB0.out.step b1;obtain⟨c1,c2,c3,c4,c5⟩:=x1.tc;have X1:=Lib.hid x1;clear x1 b1
   go_wp2_with fail
   refine(of_2 tn _).mono ?_;rintro en w2 ⟨a,b,rfl,hp,b2⟩;have x2:=X1.out.step b2;clear c1 c2 c3 c4 c5
   go_wp2_with fail
   refine(CI.out _ (HE.out.below x2.bel)).mono ?_;rintro en w3 ⟨rfl,b3⟩;have x3:=x2.step b3;obtain⟨c1,c2,c3,c4,c5⟩:=x3.tc;have bA:=rral w3 (.cells #[.bool false,.int .i64 rn,.string ⟨rs.toArray⟩] 57);have x4:=x3.step bA
   have X3:=Lib.hid x3;have X4:=Lib.hid x4;have hl3:=x3.lt
   obtain⟨a1,a2,a3,a4,a5⟩:=x4.tc
   have n1:w.heap.size<w3.heap.size:=by omega
   have n2:w.heap.size+1<w3.heap.size:=by omega
   clear x2 b2 b3 x3 x4 bA
   go_wp2_with fail
   refine(CT.out _ (HE.out.below X4.out.bel)).mono ?_;rintro en w5 ⟨rfl,b5⟩;have x5:=X4.out.step b5;clear c1 c2 c3 c4 c5 a1 a2 a3 a4 a5;obtain⟨c1,c2,c3,c4,c5⟩:=x5.tc;have hblk:=rblk b5;have g3:=qAs 0 hblk rfl;have g4:=qAs 1 hblk rfl;have g5:=qAs 2 hblk rfl;have f3:=Lib.frozen_of_heap x5.b2 0;have f4:=Lib.frozen_of_heap x5.b2 1;have f5:=Lib.frozen_of_heap x5.b2 2;have HB:=Lib.hid x5.bel;clear x5 b5 hblk
   go_wp2_with fail
   exact bodyPost_ret (v:=.tuple #[.agg #[.bool false,.int .i64 0,.string ⟨#[]⟩],.int .i64 4]) (by simp[results,Tryz.results106,go_sem,c3,c4,c5]) rfl ⟨rfl,qC1 HB.out⟩
set_option maxRecDepth 100000 in
set_option maxHeartbeats 4000000 in
theorem qWl (tn:Bool) (w:World) (hE:Env w) :
    Calls Tryz.prog 106 #[.agg #[.int .i64 3,.bool tn],.string (⟨#[110,117,108,108]⟩:ByteArray)] w fun e w'=>e=.returned (qHb (qB4 3 tn (⟨#[110,117,108,108]⟩:ByteArray).data.toList))∧Below w.heap.size w w':=by
 have hs:(⟨#[110,117,108,108]⟩:ByteArray).size≤100000:=by decide
 have ci:=fun w' (hE:Env w')=>qYv (⟨#[110,117,108,108]⟩:ByteArray) w' hs hE
 have cm:=fun w'=>qCj 3 tn w'
 rw[show kMay 3=true from rfl] at cm;have hrl:=trivial;obtain⟨rn,hrn⟩:∃rn,(qCs 3 (⟨#[110,117,108,108]⟩:ByteArray).data.toList).1=rn:=⟨_,rfl⟩;obtain⟨rs,hrs⟩:∃rs,(qCs 3 (⟨#[110,117,108,108]⟩:ByteArray).data.toList).2=rs:=⟨_,rfl⟩;rw[hrn,hrs] at ci
 have hg:qB5 3 (⟨#[110,117,108,108]⟩:ByteArray).data.toList=(true,0,[]):=by
  unfold qB5;exact if_pos rfl
 have ct:∀w',Env w'→Calls Tryz.prog 147 #[.agg #[.int .i64 3,.bool tn],.agg #[.bool true,.int .i64 0,.string ⟨#[]⟩]] w' fun e w''=>e=.returned (.tuple #[.string ⟨(qCa 3 tn true 0 []).toArray⟩,.int .i64 (qAt 3 tn true 0 [])])∧Below w'.heap.size w' w'':=fun w' (hE':Env w')=>qCz 3 tn true 0 ⟨#[]⟩ w' (by decide) hE'
 have ok:=qDu 3 tn (⟨#[110,117,108,108]⟩:ByteArray).data.toList rfl hg;have no:=qDw 3 tn (⟨#[110,117,108,108]⟩:ByteArray).data.toList rfl hg
 generalize qAt 3 tn true 0 []=c at *
 generalize qCa 3 tn true 0 []=L at *
 obtain⟨LB,hLB⟩:∃LB:ByteArray,(⟨L.toArray⟩:ByteArray)=LB:=⟨_,rfl⟩
 have hLl:LB.data.toList=L:=by rw[←hLB]
 rw[hLB] at ct;have b0:=Box2.start w #[.int .i64 3,.bool tn] #[.bool false,.int .i64 0,.string ⟨#[]⟩] 55 57;have kf:=qE4
 have HB0:=Lib.hid b0;have CI:=Lib.hid ci;have CM:=Lib.hid cm;have CT:=Lib.hid ct;have HE:=Lib.hid hE
 clear b0 ci cm ct hE hg hrn hrs hLB hrl
 by_cases hc:c=0
 · by_cases hL:L=(⟨#[110,117,108,108]⟩:ByteArray).data.toList
   · rw[ok hc hL];subst hc
     obtain rfl:LB=(⟨#[110,117,108,108]⟩:ByteArray):=by rw[qB8 (s:=LB) rfl,hLl,hL]
     clear ok no hL hLl
     go_enter Tryz.func106,Tryz.ntmps106
     go_wp2_with fail
     refine(CM.out _).mono ?_;rintro en w1 ⟨rfl,b1⟩;have x1:=HB0.out.step b1;obtain⟨c1,c2,c3,c4,c5⟩:=x1.tc;have X1:=Lib.hid x1;clear x1 b1
     go_wp2_with fail
     refine(of_3 tn _).mono ?_;rintro en w2 ⟨a,b,rfl,hp,b2⟩;have x2:=X1.out.step b2;clear c1 c2 c3 c4 c5
     go_wp2_with fail
     refine(CI.out _ (HE.out.below x2.bel)).mono ?_;rintro en w3 ⟨rfl,b3⟩;have x3:=x2.step b3;obtain⟨c1,c2,c3,c4,c5⟩:=x3.tc;have bA:=rral w3 (.cells #[.bool true,.int .i64 0,.string ⟨#[]⟩] 57);have x4:=x3.step bA
     have X3:=Lib.hid x3;have X4:=Lib.hid x4;have hl3:=x3.lt
     obtain⟨a1,a2,a3,a4,a5⟩:=x4.tc
     have n1:w.heap.size<w3.heap.size:=by omega
     have n2:w.heap.size+1<w3.heap.size:=by omega
     clear x2 b2 b3 x3 x4 bA
     go_wp2_with fail
     refine(CT.out _ (HE.out.below X4.out.bel)).mono ?_;rintro en w5 ⟨rfl,b5⟩;have x5:=X4.out.step b5;clear c1 c2 c3 c4 c5 a1 a2 a3 a4 a5;obtain⟨c1,c2,c3,c4,c5⟩:=x5.tc;have hblk:=rblk b5;have g3:=qAs 0 hblk rfl;have g4:=qAs 1 hblk rfl;have g5:=qAs 2 hblk rfl;have f3:=Lib.frozen_of_heap x5.b2 0;have f4:=Lib.frozen_of_heap x5.b2 1;have f5:=Lib.frozen_of_heap x5.b2 2;have HB:=Lib.hid x5.bel;clear x5 b5 hblk
     go_wp2_with fail
     exact bodyPost_ret (v:=.tuple #[.agg #[.bool true,.int .i64 0,.string ⟨#[]⟩],.int .i64 0]) (by simp[results,Tryz.results106,go_sem,c3,c4,c5]) rfl ⟨rfl,qC1 HB.out⟩
   · rw[no (fun h=>hL h.2)];subst hc
     have q1:(LB.toList==(⟨#[110,117,108,108]⟩:ByteArray).toList)=false:=by rw[Lib.toList_data,Lib.toList_data,hLl];rw[beq_eq_false_iff_ne];exact hL
     have q2:¬LB.toList=(⟨#[110,117,108,108]⟩:ByteArray).toList:=by rw[Lib.toList_data,Lib.toList_data,hLl];exact hL
     have q3:(LB.toList==[110,117,108,108])=false:=by rw[Lib.toList_data,hLl];rw[beq_eq_false_iff_ne];exact hL
     clear ok no hL hLl
     go_enter Tryz.func106,Tryz.ntmps106
     go_wp2_with fail
     refine(CM.out _).mono ?_;rintro en w1 ⟨rfl,b1⟩;have x1:=HB0.out.step b1;obtain⟨c1,c2,c3,c4,c5⟩:=x1.tc;have X1:=Lib.hid x1;clear x1 b1
     go_wp2_with fail
     refine(of_3 tn _).mono ?_;rintro en w2 ⟨a,b,rfl,hp,b2⟩;have x2:=X1.out.step b2;clear c1 c2 c3 c4 c5
     go_wp2_with fail
     refine(CI.out _ (HE.out.below x2.bel)).mono ?_;rintro en w3 ⟨rfl,b3⟩;have x3:=x2.step b3;obtain⟨c1,c2,c3,c4,c5⟩:=x3.tc;have bA:=rral w3 (.cells #[.bool true,.int .i64 0,.string ⟨#[]⟩] 57);have x4:=x3.step bA
     have X3:=Lib.hid x3;have X4:=Lib.hid x4;have hl3:=x3.lt
     obtain⟨a1,a2,a3,a4,a5⟩:=x4.tc
     have n1:w.heap.size<w3.heap.size:=by omega
     have n2:w.heap.size+1<w3.heap.size:=by omega
     clear x2 b2 b3 x3 x4 bA
     go_wp2_with fail
     refine(CT.out _ (HE.out.below X4.out.bel)).mono ?_;rintro en w5 ⟨rfl,b5⟩;have x5:=X4.out.step b5;clear c1 c2 c3 c4 c5 a1 a2 a3 a4 a5;obtain⟨c1,c2,c3,c4,c5⟩:=x5.tc;have hblk:=rblk b5;have g3:=qAs 0 hblk rfl;have g4:=qAs 1 hblk rfl;have g5:=qAs 2 hblk rfl;have f3:=Lib.frozen_of_heap x5.b2 0;have f4:=Lib.frozen_of_heap x5.b2 1;have f5:=Lib.frozen_of_heap x5.b2 2;have HB:=Lib.hid x5.bel;clear x5 b5 hblk
     go_wp2_with fail
     exact bodyPost_ret (v:=.tuple #[.agg #[.bool false,.int .i64 0,.string ⟨#[]⟩],.int .i64 4]) (by simp[results,Tryz.results106,go_sem,c3,c4,c5]) rfl ⟨rfl,qC1 HB.out⟩
 · rw[no (fun h=>hc h.1)]
   have q1:(c != 0)=true:=by simpa using hc
   clear ok no hLl
   go_enter Tryz.func106,Tryz.ntmps106
   go_wp2_with fail
   refine(CM.out _).mono ?_;rintro en w1 ⟨rfl,b1⟩;have x1:=HB0.out.step b1;obtain⟨c1,c2,c3,c4,c5⟩:=x1.tc;have X1:=Lib.hid x1;clear x1 b1
   go_wp2_with fail
   refine(of_3 tn _).mono ?_;rintro en w2 ⟨a,b,rfl,hp,b2⟩;have x2:=X1.out.step b2;clear c1 c2 c3 c4 c5
   go_wp2_with fail
   refine(CI.out _ (HE.out.below x2.bel)).mono ?_;rintro en w3 ⟨rfl,b3⟩;have x3:=x2.step b3;obtain⟨c1,c2,c3,c4,c5⟩:=x3.tc;have bA:=rral w3 (.cells #[.bool true,.int .i64 0,.string ⟨#[]⟩] 57);have x4:=x3.step bA
   have X3:=Lib.hid x3;have X4:=Lib.hid x4;have hl3:=x3.lt
   obtain⟨a1,a2,a3,a4,a5⟩:=x4.tc
   have n1:w.heap.size<w3.heap.size:=by omega
   have n2:w.heap.size+1<w3.heap.size:=by omega
   clear x2 b2 b3 x3 x4 bA
   go_wp2_with fail
   refine(CT.out _ (HE.out.below X4.out.bel)).mono ?_;rintro en w5 ⟨rfl,b5⟩;have x5:=X4.out.step b5;clear c1 c2 c3 c4 c5 a1 a2 a3 a4 a5;obtain⟨c1,c2,c3,c4,c5⟩:=x5.tc;have hblk:=rblk b5;have g3:=qAs 0 hblk rfl;have g4:=qAs 1 hblk rfl;have g5:=qAs 2 hblk rfl;have f3:=Lib.frozen_of_heap x5.b2 0;have f4:=Lib.frozen_of_heap x5.b2 1;have f5:=Lib.frozen_of_heap x5.b2 2;have HB:=Lib.hid x5.bel;clear x5 b5 hblk
   go_wp2_with fail
   exact bodyPost_ret (v:=.tuple #[.agg #[.bool false,.int .i64 0,.string ⟨#[]⟩],.int .i64 4]) (by simp[results,Tryz.results106,go_sem,c3,c4,c5]) rfl ⟨rfl,qC1 HB.out⟩
set_option maxRecDepth 100000 in
set_option maxHeartbeats 4000000 in
theorem qWx (tn:Bool) (S:ByteArray) (w:World) (hs0:S.size≤20000) (hE:Env w) (hN:¬S.data.toList=qNy) :
    Calls Tryz.prog 106 #[.agg #[.int .i64 3,.bool tn],.string S] w fun e w'=>e=.returned (qHb (qB4 3 tn S.data.toList))∧Below w.heap.size w w':=by
 have hs:S.size≤100000:=by omega
 have ci:=fun w' (hE:Env w')=>qYv S w' hs hE
 have cm:=fun w'=>qCj 3 tn w'
 rw[show kMay 3=true from rfl] at cm;have hrl:=qGe 3 S.data.toList;obtain⟨rn,hrn⟩:∃rn,(qCs 3 S.data.toList).1=rn:=⟨_,rfl⟩;obtain⟨rs,hrs⟩:∃rs,(qCs 3 S.data.toList).2=rs:=⟨_,rfl⟩;rw[hrn,hrs] at ci
 have hg:qB5 3 S.data.toList=(false,rn,rs):=by
  unfold qB5;rw[if_neg hN,hrn,hrs]
 rw[hrs,lenS] at hrl;have hls:(⟨rs.toArray⟩:ByteArray).size=rs.length:=List.size_toArray
 have ct:∀w',Env w'→Calls Tryz.prog 147 #[.agg #[.int .i64 3,.bool tn],.agg #[.bool false,.int .i64 rn,.string ⟨rs.toArray⟩]] w' fun e w''=>e=.returned (.tuple #[.string ⟨(qCa 3 tn false rn rs).toArray⟩,.int .i64 (qAt 3 tn false rn rs)])∧Below w'.heap.size w' w'':=fun w' (hE':Env w')=>qCz 3 tn false rn ⟨rs.toArray⟩ w' (by rw[hls];omega) hE'
 have ok:=qDu 3 tn S.data.toList rfl hg;have no:=qDw 3 tn S.data.toList rfl hg
 have e1:(S.toList==[110,117,108,108])=false:=by rw[Lib.toList_data];rw[beq_eq_false_iff_ne];exact hN
 have e2:¬S.toList=[110,117,108,108]:=by rw[Lib.toList_data];exact hN
 generalize qAt 3 tn false rn rs=c at *
 generalize qCa 3 tn false rn rs=L at *
 obtain⟨LB,hLB⟩:∃LB:ByteArray,(⟨L.toArray⟩:ByteArray)=LB:=⟨_,rfl⟩
 have hLl:LB.data.toList=L:=by rw[←hLB]
 rw[hLB] at ct;have b0:=Box2.start w #[.int .i64 3,.bool tn] #[.bool false,.int .i64 0,.string ⟨#[]⟩] 55 57;have kf:=qE4
 have HB0:=Lib.hid b0;have CI:=Lib.hid ci;have CM:=Lib.hid cm;have CT:=Lib.hid ct;have HE:=Lib.hid hE
 clear b0 ci cm ct hE hg hrn hrs hLB hrl hls
 by_cases hc:c=0
 · by_cases hL:L=S.data.toList
   · rw[ok hc hL];subst hc
     obtain rfl:LB=S:=by rw[qB8 (s:=LB) rfl,hLl,hL]
     clear ok no hL hLl hN
     go_enter Tryz.func106,Tryz.ntmps106
     go_wp2_with fail
     refine(CM.out _).mono ?_;rintro en w1 ⟨rfl,b1⟩;have x1:=HB0.out.step b1;obtain⟨c1,c2,c3,c4,c5⟩:=x1.tc;have X1:=Lib.hid x1;clear x1 b1
     go_wp2_with fail
     refine(of_3 tn _).mono ?_;rintro en w2 ⟨a,b,rfl,hp,b2⟩;have x2:=X1.out.step b2;clear c1 c2 c3 c4 c5
     go_wp2_with fail
     refine(CI.out _ (HE.out.below x2.bel)).mono ?_;rintro en w3 ⟨rfl,b3⟩;have x3:=x2.step b3;obtain⟨c1,c2,c3,c4,c5⟩:=x3.tc;have bA:=rral w3 (.cells #[.bool false,.int .i64 rn,.string ⟨rs.toArray⟩] 57);have x4:=x3.step bA
     have X3:=Lib.hid x3;have X4:=Lib.hid x4;have hl3:=x3.lt
     obtain⟨a1,a2,a3,a4,a5⟩:=x4.tc
     have n1:w.heap.size<w3.heap.size:=by omega
     have n2:w.heap.size+1<w3.heap.size:=by omega
     clear x2 b2 b3 x3 x4 bA
     go_wp2_with fail
     refine(CT.out _ (HE.out.below X4.out.bel)).mono ?_;rintro en w5 ⟨rfl,b5⟩;have x5:=X4.out.step b5;clear c1 c2 c3 c4 c5 a1 a2 a3 a4 a5;obtain⟨c1,c2,c3,c4,c5⟩:=x5.tc;have hblk:=rblk b5;have g3:=qAs 0 hblk rfl;have g4:=qAs 1 hblk rfl;have g5:=qAs 2 hblk rfl;have f3:=Lib.frozen_of_heap x5.b2 0;have f4:=Lib.frozen_of_heap x5.b2 1;have f5:=Lib.frozen_of_heap x5.b2 2;have HB:=Lib.hid x5.bel;clear x5 b5 hblk
     go_wp2_with fail
     exact bodyPost_ret (v:=.tuple #[.agg #[.bool false,.int .i64 rn,.string ⟨rs.toArray⟩],.int .i64 0]) (by simp[results,Tryz.results106,go_sem,c3,c4,c5]) rfl ⟨rfl,qC1 HB.out⟩
   · rw[no (fun h=>hL h.2)];subst hc
     have q1:(LB.toList==S.toList)=false:=by rw[Lib.toList_data,Lib.toList_data,hLl];rw[beq_eq_false_iff_ne];exact hL
     have q2:¬LB.toList=S.toList:=by rw[Lib.toList_data,Lib.toList_data,hLl];exact hL
     clear ok no hL hLl hN
     go_enter Tryz.func106,Tryz.ntmps106
     go_wp2_with fail
     refine(CM.out _).mono ?_;rintro en w1 ⟨rfl,b1⟩;have x1:=HB0.out.step b1;obtain⟨c1,c2,c3,c4,c5⟩:=x1.tc;have X1:=Lib.hid x1;clear x1 b1
     go_wp2_with fail
     refine(of_3 tn _).mono ?_;rintro en w2 ⟨a,b,rfl,hp,b2⟩;have x2:=X1.out.step b2;clear c1 c2 c3 c4 c5
     go_wp2_with fail
     refine(CI.out _ (HE.out.below x2.bel)).mono ?_;rintro en w3 ⟨rfl,b3⟩;have x3:=x2.step b3;obtain⟨c1,c2,c3,c4,c5⟩:=x3.tc;have bA:=rral w3 (.cells #[.bool false,.int .i64 rn,.string ⟨rs.toArray⟩] 57);have x4:=x3.step bA
     have X3:=Lib.hid x3;have X4:=Lib.hid x4;have hl3:=x3.lt
     obtain⟨a1,a2,a3,a4,a5⟩:=x4.tc
     have n1:w.heap.size<w3.heap.size:=by omega
     have n2:w.heap.size+1<w3.heap.size:=by omega
     clear x2 b2 b3 x3 x4 bA
     go_wp2_with fail
     refine(CT.out _ (HE.out.below X4.out.bel)).mono ?_;rintro en w5 ⟨rfl,b5⟩;have x5:=X4.out.step b5;clear c1 c2 c3 c4 c5 a1 a2 a3 a4 a5;obtain⟨c1,c2,c3,c4,c5⟩:=x5.tc;have hblk:=rblk b5;have g3:=qAs 0 hblk rfl;have g4:=qAs 1 hblk rfl;have g5:=qAs 2 hblk rfl;have f3:=Lib.frozen_of_heap x5.b2 0;have f4:=Lib.frozen_of_heap x5.b2 1;have f5:=Lib.frozen_of_heap x5.b2 2;have HB:=Lib.hid x5.bel;clear x5 b5 hblk
     go_wp2_with fail
     exact bodyPost_ret (v:=.tuple #[.agg #[.bool false,.int .i64 0,.string ⟨#[]⟩],.int .i64 4]) (by simp[results,Tryz.results106,go_sem,c3,c4,c5]) rfl ⟨rfl,qC1 HB.out⟩
 · rw[no (fun h=>hc h.1)]
   have q1:(c != 0)=true:=by simpa using hc
   clear ok no hLl hN
   go_enter Tryz.func106,Tryz.ntmps106
   go_wp2_with fail
   refine(CM.out _).mono ?_;rintro en w1 ⟨rfl,b1⟩;have x1:=HB0.out.step b1;obtain⟨c1,c2,c3,c4,c5⟩:=x1.tc;have X1:=Lib.hid x1;clear x1 b1
   go_wp2_with fail
   refine(of_3 tn _).mono ?_;rintro en w2 ⟨a,b,rfl,hp,b2⟩;have x2:=X1.out.step b2;clear c1 c2 c3 c4 c5
   go_wp2_with fail
   refine(CI.out _ (HE.out.below x2.bel)).mono ?_;rintro en w3 ⟨rfl,b3⟩;have x3:=x2.step b3;obtain⟨c1,c2,c3,c4,c5⟩:=x3.tc;have bA:=rral w3 (.cells #[.bool false,.int .i64 rn,.string ⟨rs.toArray⟩] 57);have x4:=x3.step bA
   have X3:=Lib.hid x3;have X4:=Lib.hid x4;have hl3:=x3.lt
   obtain⟨a1,a2,a3,a4,a5⟩:=x4.tc
   have n1:w.heap.size<w3.heap.size:=by omega
   have n2:w.heap.size+1<w3.heap.size:=by omega
   clear x2 b2 b3 x3 x4 bA
   go_wp2_with fail
   refine(CT.out _ (HE.out.below X4.out.bel)).mono ?_;rintro en w5 ⟨rfl,b5⟩;have x5:=X4.out.step b5;clear c1 c2 c3 c4 c5 a1 a2 a3 a4 a5;obtain⟨c1,c2,c3,c4,c5⟩:=x5.tc;have hblk:=rblk b5;have g3:=qAs 0 hblk rfl;have g4:=qAs 1 hblk rfl;have g5:=qAs 2 hblk rfl;have f3:=Lib.frozen_of_heap x5.b2 0;have f4:=Lib.frozen_of_heap x5.b2 1;have f5:=Lib.frozen_of_heap x5.b2 2;have HB:=Lib.hid x5.bel;clear x5 b5 hblk
   go_wp2_with fail
   exact bodyPost_ret (v:=.tuple #[.agg #[.bool false,.int .i64 0,.string ⟨#[]⟩],.int .i64 4]) (by simp[results,Tryz.results106,go_sem,c3,c4,c5]) rfl ⟨rfl,qC1 HB.out⟩
set_option maxRecDepth 100000 in
set_option maxHeartbeats 4000000 in
theorem qYa (tn:Bool) (w:World) (hE:Env w) :
    Calls Tryz.prog 106 #[.agg #[.int .i64 4,.bool tn],.string (⟨#[110,117,108,108]⟩:ByteArray)] w fun e w'=>e=.returned (qHb (qB4 4 tn (⟨#[110,117,108,108]⟩:ByteArray).data.toList))∧Below w.heap.size w w':=by
 have hs:(⟨#[110,117,108,108]⟩:ByteArray).size≤100000:=by decide
 have ci:=fun w' (hE:Env w')=>qY6 (⟨#[110,117,108,108]⟩:ByteArray) w' hs hE
 have cm:=fun w'=>qCj 4 tn w'
 rw[show kMay 4=true from rfl] at cm;have hrl:=trivial;obtain⟨rn,hrn⟩:∃rn,(qCs 4 (⟨#[110,117,108,108]⟩:ByteArray).data.toList).1=rn:=⟨_,rfl⟩;obtain⟨rs,hrs⟩:∃rs,(qCs 4 (⟨#[110,117,108,108]⟩:ByteArray).data.toList).2=rs:=⟨_,rfl⟩;rw[hrn,hrs] at ci
 have hg:qB5 4 (⟨#[110,117,108,108]⟩:ByteArray).data.toList=(true,0,[]):=by
  unfold qB5;exact if_pos rfl
 have ct:∀w',Env w'→Calls Tryz.prog 147 #[.agg #[.int .i64 4,.bool tn],.agg #[.bool true,.int .i64 0,.string ⟨#[]⟩]] w' fun e w''=>e=.returned (.tuple #[.string ⟨(qCa 4 tn true 0 []).toArray⟩,.int .i64 (qAt 4 tn true 0 [])])∧Below w'.heap.size w' w'':=fun w' (hE':Env w')=>qCz 4 tn true 0 ⟨#[]⟩ w' (by decide) hE'
 have ok:=qDu 4 tn (⟨#[110,117,108,108]⟩:ByteArray).data.toList rfl hg;have no:=qDw 4 tn (⟨#[110,117,108,108]⟩:ByteArray).data.toList rfl hg
 generalize qAt 4 tn true 0 []=c at *
 generalize qCa 4 tn true 0 []=L at *
 obtain⟨LB,hLB⟩:∃LB:ByteArray,(⟨L.toArray⟩:ByteArray)=LB:=⟨_,rfl⟩
 have hLl:LB.data.toList=L:=by rw[←hLB]
 rw[hLB] at ct;have b0:=Box2.start w #[.int .i64 4,.bool tn] #[.bool false,.int .i64 0,.string ⟨#[]⟩] 55 57;have kf:=qE4
 have HB0:=Lib.hid b0;have CI:=Lib.hid ci;have CM:=Lib.hid cm;have CT:=Lib.hid ct;have HE:=Lib.hid hE
 clear b0 ci cm ct hE hg hrn hrs hLB hrl
 by_cases hc:c=0
 · by_cases hL:L=(⟨#[110,117,108,108]⟩:ByteArray).data.toList
   · rw[ok hc hL];subst hc
     obtain rfl:LB=(⟨#[110,117,108,108]⟩:ByteArray):=by rw[qB8 (s:=LB) rfl,hLl,hL]
     clear ok no hL hLl
     go_enter Tryz.func106,Tryz.ntmps106
     go_wp2_with fail
     refine(CM.out _).mono ?_;rintro en w1 ⟨rfl,b1⟩;have x1:=HB0.out.step b1;obtain⟨c1,c2,c3,c4,c5⟩:=x1.tc;have X1:=Lib.hid x1;clear x1 b1
     go_wp2_with fail
     refine(of_4 tn _).mono ?_;rintro en w2 ⟨a,rfl,hp,b2⟩;have x2:=X1.out.step b2;clear c1 c2 c3 c4 c5
     go_wp2_with fail
     refine(CI.out _ (HE.out.below x2.bel)).mono ?_;rintro en w3 ⟨rfl,b3⟩;have x3:=x2.step b3;obtain⟨c1,c2,c3,c4,c5⟩:=x3.tc;have bA:=rral w3 (.cells #[.bool true,.int .i64 0,.string ⟨#[]⟩] 57);have x4:=x3.step bA
     have X3:=Lib.hid x3;have X4:=Lib.hid x4;have hl3:=x3.lt
     obtain⟨a1,a2,a3,a4,a5⟩:=x4.tc
     have n1:w.heap.size<w3.heap.size:=by omega
     have n2:w.heap.size+1<w3.heap.size:=by omega
     clear x2 b2 b3 x3 x4 bA
     go_wp2_with fail
     refine(CT.out _ (HE.out.below X4.out.bel)).mono ?_;rintro en w5 ⟨rfl,b5⟩;have x5:=X4.out.step b5;clear c1 c2 c3 c4 c5 a1 a2 a3 a4 a5;obtain⟨c1,c2,c3,c4,c5⟩:=x5.tc;have hblk:=rblk b5;have g3:=qAs 0 hblk rfl;have g4:=qAs 1 hblk rfl;have g5:=qAs 2 hblk rfl;have f3:=Lib.frozen_of_heap x5.b2 0;have f4:=Lib.frozen_of_heap x5.b2 1;have f5:=Lib.frozen_of_heap x5.b2 2;have HB:=Lib.hid x5.bel;clear x5 b5 hblk
     go_wp2_with fail
     exact bodyPost_ret (v:=.tuple #[.agg #[.bool true,.int .i64 0,.string ⟨#[]⟩],.int .i64 0]) (by simp[results,Tryz.results106,go_sem,c3,c4,c5]) rfl ⟨rfl,qC1 HB.out⟩
   · rw[no (fun h=>hL h.2)];subst hc
     have q1:(LB.toList==(⟨#[110,117,108,108]⟩:ByteArray).toList)=false:=by rw[Lib.toList_data,Lib.toList_data,hLl];rw[beq_eq_false_iff_ne];exact hL
     have q2:¬LB.toList=(⟨#[110,117,108,108]⟩:ByteArray).toList:=by rw[Lib.toList_data,Lib.toList_data,hLl];exact hL
     have q3:(LB.toList==[110,117,108,108])=false:=by rw[Lib.toList_data,hLl];rw[beq_eq_false_iff_ne];exact hL
     clear ok no hL hLl
     go_enter Tryz.func106,Tryz.ntmps106
     go_wp2_with fail
     refine(CM.out _).mono ?_;rintro en w1 ⟨rfl,b1⟩;have x1:=HB0.out.step b1;obtain⟨c1,c2,c3,c4,c5⟩:=x1.tc;have X1:=Lib.hid x1;clear x1 b1
     go_wp2_with fail
     refine(of_4 tn _).mono ?_;rintro en w2 ⟨a,rfl,hp,b2⟩;have x2:=X1.out.step b2;clear c1 c2 c3 c4 c5
     go_wp2_with fail
     refine(CI.out _ (HE.out.below x2.bel)).mono ?_;rintro en w3 ⟨rfl,b3⟩;have x3:=x2.step b3;obtain⟨c1,c2,c3,c4,c5⟩:=x3.tc;have bA:=rral w3 (.cells #[.bool true,.int .i64 0,.string ⟨#[]⟩] 57);have x4:=x3.step bA
     have X3:=Lib.hid x3;have X4:=Lib.hid x4;have hl3:=x3.lt
     obtain⟨a1,a2,a3,a4,a5⟩:=x4.tc
     have n1:w.heap.size<w3.heap.size:=by omega
     have n2:w.heap.size+1<w3.heap.size:=by omega
     clear x2 b2 b3 x3 x4 bA
     go_wp2_with fail
     refine(CT.out _ (HE.out.below X4.out.bel)).mono ?_;rintro en w5 ⟨rfl,b5⟩;have x5:=X4.out.step b5;clear c1 c2 c3 c4 c5 a1 a2 a3 a4 a5;obtain⟨c1,c2,c3,c4,c5⟩:=x5.tc;have hblk:=rblk b5;have g3:=qAs 0 hblk rfl;have g4:=qAs 1 hblk rfl;have g5:=qAs 2 hblk rfl;have f3:=Lib.frozen_of_heap x5.b2 0;have f4:=Lib.frozen_of_heap x5.b2 1;have f5:=Lib.frozen_of_heap x5.b2 2;have HB:=Lib.hid x5.bel;clear x5 b5 hblk
     go_wp2_with fail
     exact bodyPost_ret (v:=.tuple #[.agg #[.bool false,.int .i64 0,.string ⟨#[]⟩],.int .i64 4]) (by simp[results,Tryz.results106,go_sem,c3,c4,c5]) rfl ⟨rfl,qC1 HB.out⟩
 · rw[no (fun h=>hc h.1)]
   have q1:(c != 0)=true:=by simpa using hc
   clear ok no hLl
   go_enter Tryz.func106,Tryz.ntmps106
   go_wp2_with fail
   refine(CM.out _).mono ?_;rintro en w1 ⟨rfl,b1⟩;have x1:=HB0.out.step b1;obtain⟨c1,c2,c3,c4,c5⟩:=x1.tc;have X1:=Lib.hid x1;clear x1 b1
   go_wp2_with fail
   refine(of_4 tn _).mono ?_;rintro en w2 ⟨a,rfl,hp,b2⟩;have x2:=X1.out.step b2;clear c1 c2 c3 c4 c5
   go_wp2_with fail
   refine(CI.out _ (HE.out.below x2.bel)).mono ?_;rintro en w3 ⟨rfl,b3⟩;have x3:=x2.step b3;obtain⟨c1,c2,c3,c4,c5⟩:=x3.tc;have bA:=rral w3 (.cells #[.bool true,.int .i64 0,.string ⟨#[]⟩] 57);have x4:=x3.step bA
   have X3:=Lib.hid x3;have X4:=Lib.hid x4;have hl3:=x3.lt
   obtain⟨a1,a2,a3,a4,a5⟩:=x4.tc
   have n1:w.heap.size<w3.heap.size:=by omega
   have n2:w.heap.size+1<w3.heap.size:=by omega
   clear x2 b2 b3 x3 x4 bA
   go_wp2_with fail
   refine(CT.out _ (HE.out.below X4.out.bel)).mono ?_;rintro en w5 ⟨rfl,b5⟩;have x5:=X4.out.step b5;clear c1 c2 c3 c4 c5 a1 a2 a3 a4 a5;obtain⟨c1,c2,c3,c4,c5⟩:=x5.tc;have hblk:=rblk b5;have g3:=qAs 0 hblk rfl;have g4:=qAs 1 hblk rfl;have g5:=qAs 2 hblk rfl;have f3:=Lib.frozen_of_heap x5.b2 0;have f4:=Lib.frozen_of_heap x5.b2 1;have f5:=Lib.frozen_of_heap x5.b2 2;have HB:=Lib.hid x5.bel;clear x5 b5 hblk
   go_wp2_with fail
   exact bodyPost_ret (v:=.tuple #[.agg #[.bool false,.int .i64 0,.string ⟨#[]⟩],.int .i64 4]) (by simp[results,Tryz.results106,go_sem,c3,c4,c5]) rfl ⟨rfl,qC1 HB.out⟩
set_option maxRecDepth 100000 in
set_option maxHeartbeats 4000000 in
theorem qXy (tn:Bool) (S:ByteArray) (w:World) (hs0:S.size≤20000) (hE:Env w) (hN:¬S.data.toList=qNy) :
    Calls Tryz.prog 106 #[.agg #[.int .i64 4,.bool tn],.string S] w fun e w'=>e=.returned (qHb (qB4 4 tn S.data.toList))∧Below w.heap.size w w':=by
 have hs:S.size≤100000:=by omega
 have ci:=fun w' (hE:Env w')=>qY6 S w' hs hE
 have cm:=fun w'=>qCj 4 tn w'
 rw[show kMay 4=true from rfl] at cm;have hrl:=qGe 4 S.data.toList;obtain⟨rn,hrn⟩:∃rn,(qCs 4 S.data.toList).1=rn:=⟨_,rfl⟩;obtain⟨rs,hrs⟩:∃rs,(qCs 4 S.data.toList).2=rs:=⟨_,rfl⟩;rw[hrn,hrs] at ci
 have hg:qB5 4 S.data.toList=(false,rn,rs):=by
  unfold qB5;rw[if_neg hN,hrn,hrs]
 rw[hrs,lenS] at hrl;have hls:(⟨rs.toArray⟩:ByteArray).size=rs.length:=List.size_toArray
 have ct:∀w',Env w'→Calls Tryz.prog 147 #[.agg #[.int .i64 4,.bool tn],.agg #[.bool false,.int .i64 rn,.string ⟨rs.toArray⟩]] w' fun e w''=>e=.returned (.tuple #[.string ⟨(qCa 4 tn false rn rs).toArray⟩,.int .i64 (qAt 4 tn false rn rs)])∧Below w'.heap.size w' w'':=fun w' (hE':Env w')=>qCz 4 tn false rn ⟨rs.toArray⟩ w' (by rw[hls];omega) hE'
 have ok:=qDu 4 tn S.data.toList rfl hg;have no:=qDw 4 tn S.data.toList rfl hg
 have e1:(S.toList==[110,117,108,108])=false:=by rw[Lib.toList_data];rw[beq_eq_false_iff_ne];exact hN
 have e2:¬S.toList=[110,117,108,108]:=by rw[Lib.toList_data];exact hN
 generalize qAt 4 tn false rn rs=c at *
 generalize qCa 4 tn false rn rs=L at *
 obtain⟨LB,hLB⟩:∃LB:ByteArray,(⟨L.toArray⟩:ByteArray)=LB:=⟨_,rfl⟩
 have hLl:LB.data.toList=L:=by rw[←hLB]
 rw[hLB] at ct;have b0:=Box2.start w #[.int .i64 4,.bool tn] #[.bool false,.int .i64 0,.string ⟨#[]⟩] 55 57;have kf:=qE4
 have HB0:=Lib.hid b0;have CI:=Lib.hid ci;have CM:=Lib.hid cm;have CT:=Lib.hid ct;have HE:=Lib.hid hE
 clear b0 ci cm ct hE hg hrn hrs hLB hrl hls
 by_cases hc:c=0
 · by_cases hL:L=S.data.toList
   · rw[ok hc hL];subst hc
     obtain rfl:LB=S:=by rw[qB8 (s:=LB) rfl,hLl,hL]
     clear ok no hL hLl hN
     go_enter Tryz.func106,Tryz.ntmps106
     go_wp2_with fail
     refine(CM.out _).mono ?_;rintro en w1 ⟨rfl,b1⟩;have x1:=HB0.out.step b1;obtain⟨c1,c2,c3,c4,c5⟩:=x1.tc;have X1:=Lib.hid x1;clear x1 b1
     go_wp2_with fail
     refine(of_4 tn _).mono ?_;rintro en w2 ⟨a,rfl,hp,b2⟩;have x2:=X1.out.step b2;clear c1 c2 c3 c4 c5
     go_wp2_with fail
     refine(CI.out _ (HE.out.below x2.bel)).mono ?_;rintro en w3 ⟨rfl,b3⟩;have x3:=x2.step b3;obtain⟨c1,c2,c3,c4,c5⟩:=x3.tc;have bA:=rral w3 (.cells #[.bool false,.int .i64 rn,.string ⟨rs.toArray⟩] 57);have x4:=x3.step bA
     have X3:=Lib.hid x3;have X4:=Lib.hid x4;have hl3:=x3.lt
     obtain⟨a1,a2,a3,a4,a5⟩:=x4.tc
     have n1:w.heap.size<w3.heap.size:=by omega
     have n2:w.heap.size+1<w3.heap.size:=by omega
     clear x2 b2 b3 x3 x4 bA
     go_wp2_with fail
     refine(CT.out _ (HE.out.below X4.out.bel)).mono ?_;rintro en w5 ⟨rfl,b5⟩;have x5:=X4.out.step b5;clear c1 c2 c3 c4 c5 a1 a2 a3 a4 a5;obtain⟨c1,c2,c3,c4,c5⟩:=x5.tc;have hblk:=rblk b5;have g3:=qAs 0 hblk rfl;have g4:=qAs 1 hblk rfl;have g5:=qAs 2 hblk rfl;have f3:=Lib.frozen_of_heap x5.b2 0;have f4:=Lib.frozen_of_heap x5.b2 1;have f5:=Lib.frozen_of_heap x5.b2 2;have HB:=Lib.hid x5.bel;clear x5 b5 hblk
     go_wp2_with fail
     exact bodyPost_ret (v:=.tuple #[.agg #[.bool false,.int .i64 rn,.string ⟨rs.toArray⟩],.int .i64 0]) (by simp[results,Tryz.results106,go_sem,c3,c4,c5]) rfl ⟨rfl,qC1 HB.out⟩
   · rw[no (fun h=>hL h.2)];subst hc
     have q1:(LB.toList==S.toList)=false:=by rw[Lib.toList_data,Lib.toList_data,hLl];rw[beq_eq_false_iff_ne];exact hL
     have q2:¬LB.toList=S.toList:=by rw[Lib.toList_data,Lib.toList_data,hLl];exact hL
     clear ok no hL hLl hN
     go_enter Tryz.func106,Tryz.ntmps106
     go_wp2_with fail
     refine(CM.out _).mono ?_;rintro en w1 ⟨rfl,b1⟩;have x1:=HB0.out.step b1;obtain⟨c1,c2,c3,c4,c5⟩:=x1.tc;have X1:=Lib.hid x1;clear x1 b1
     go_wp2_with fail
     refine(of_4 tn _).mono ?_;rintro en w2 ⟨a,rfl,hp,b2⟩;have x2:=X1.out.step b2;clear c1 c2 c3 c4 c5
     go_wp2_with fail
     refine(CI.out _ (HE.out.below x2.bel)).mono ?_;rintro en w3 ⟨rfl,b3⟩;have x3:=x2.step b3;obtain⟨c1,c2,c3,c4,c5⟩:=x3.tc;have bA:=rral w3 (.cells #[.bool false,.int .i64 rn,.string ⟨rs.toArray⟩] 57);have x4:=x3.step bA
     have X3:=Lib.hid x3;have X4:=Lib.hid x4;have hl3:=x3.lt
     obtain⟨a1,a2,a3,a4,a5⟩:=x4.tc
     have n1:w.heap.size<w3.heap.size:=by omega
     have n2:w.heap.size+1<w3.heap.size:=by omega
     clear x2 b2 b3 x3 x4 bA
     go_wp2_with fail
     refine(CT.out _ (HE.out.below X4.out.bel)).mono ?_;rintro en w5 ⟨rfl,b5⟩;have x5:=X4.out.step b5;clear c1 c2 c3 c4 c5 a1 a2 a3 a4 a5;obtain⟨c1,c2,c3,c4,c5⟩:=x5.tc;have hblk:=rblk b5;have g3:=qAs 0 hblk rfl;have g4:=qAs 1 hblk rfl;have g5:=qAs 2 hblk rfl;have f3:=Lib.frozen_of_heap x5.b2 0;have f4:=Lib.frozen_of_heap x5.b2 1;have f5:=Lib.frozen_of_heap x5.b2 2;have HB:=Lib.hid x5.bel;clear x5 b5 hblk
     go_wp2_with fail
     exact bodyPost_ret (v:=.tuple #[.agg #[.bool false,.int .i64 0,.string ⟨#[]⟩],.int .i64 4]) (by simp[results,Tryz.results106,go_sem,c3,c4,c5]) rfl ⟨rfl,qC1 HB.out⟩
 · rw[no (fun h=>hc h.1)]
   have q1:(c != 0)=true:=by simpa using hc
   clear ok no hLl hN
   go_enter Tryz.func106,Tryz.ntmps106
   go_wp2_with fail
   refine(CM.out _).mono ?_;rintro en w1 ⟨rfl,b1⟩;have x1:=HB0.out.step b1;obtain⟨c1,c2,c3,c4,c5⟩:=x1.tc;have X1:=Lib.hid x1;clear x1 b1
   go_wp2_with fail
   refine(of_4 tn _).mono ?_;rintro en w2 ⟨a,rfl,hp,b2⟩;have x2:=X1.out.step b2;clear c1 c2 c3 c4 c5
   go_wp2_with fail
   refine(CI.out _ (HE.out.below x2.bel)).mono ?_;rintro en w3 ⟨rfl,b3⟩;have x3:=x2.step b3;obtain⟨c1,c2,c3,c4,c5⟩:=x3.tc;have bA:=rral w3 (.cells #[.bool false,.int .i64 rn,.string ⟨rs.toArray⟩] 57);have x4:=x3.step bA
   have X3:=Lib.hid x3;have X4:=Lib.hid x4;have hl3:=x3.lt
   obtain⟨a1,a2,a3,a4,a5⟩:=x4.tc
   have n1:w.heap.size<w3.heap.size:=by omega
   have n2:w.heap.size+1<w3.heap.size:=by omega
   clear x2 b2 b3 x3 x4 bA
   go_wp2_with fail
   refine(CT.out _ (HE.out.below X4.out.bel)).mono ?_;rintro en w5 ⟨rfl,b5⟩;have x5:=X4.out.step b5;clear c1 c2 c3 c4 c5 a1 a2 a3 a4 a5;obtain⟨c1,c2,c3,c4,c5⟩:=x5.tc;have hblk:=rblk b5;have g3:=qAs 0 hblk rfl;have g4:=qAs 1 hblk rfl;have g5:=qAs 2 hblk rfl;have f3:=Lib.frozen_of_heap x5.b2 0;have f4:=Lib.frozen_of_heap x5.b2 1;have f5:=Lib.frozen_of_heap x5.b2 2;have HB:=Lib.hid x5.bel;clear x5 b5 hblk
   go_wp2_with fail
   exact bodyPost_ret (v:=.tuple #[.agg #[.bool false,.int .i64 0,.string ⟨#[]⟩],.int .i64 4]) (by simp[results,Tryz.results106,go_sem,c3,c4,c5]) rfl ⟨rfl,qC1 HB.out⟩
set_option maxRecDepth 100000 in
set_option maxHeartbeats 4000000 in
theorem qWb (tn:Bool) (w:World) (hE:Env w) :
    Calls Tryz.prog 106 #[.agg #[.int .i64 5,.bool tn],.string (⟨#[110,117,108,108]⟩:ByteArray)] w fun e w'=>e=.returned (qHb (qB4 5 tn (⟨#[110,117,108,108]⟩:ByteArray).data.toList))∧Below w.heap.size w w':=by
 have hs:(⟨#[110,117,108,108]⟩:ByteArray).size≤100000:=by decide
 have ci:=fun w'=>qY4 (⟨#[110,117,108,108]⟩:ByteArray) w' hs
 have cm:=fun w'=>qCj 5 tn w'
 rw[show kMay 5=true from rfl] at cm;have hrl:=trivial;obtain⟨rn,hrn⟩:∃rn,(qCs 5 (⟨#[110,117,108,108]⟩:ByteArray).data.toList).1=rn:=⟨_,rfl⟩;obtain⟨rs,hrs⟩:∃rs,(qCs 5 (⟨#[110,117,108,108]⟩:ByteArray).data.toList).2=rs:=⟨_,rfl⟩;rw[hrn,hrs] at ci
 have hg:qB5 5 (⟨#[110,117,108,108]⟩:ByteArray).data.toList=(true,0,[]):=by
  unfold qB5;exact if_pos rfl
 have ct:∀w',Env w'→Calls Tryz.prog 147 #[.agg #[.int .i64 5,.bool tn],.agg #[.bool true,.int .i64 0,.string ⟨#[]⟩]] w' fun e w''=>e=.returned (.tuple #[.string ⟨(qCa 5 tn true 0 []).toArray⟩,.int .i64 (qAt 5 tn true 0 [])])∧Below w'.heap.size w' w'':=fun w' (hE':Env w')=>qCz 5 tn true 0 ⟨#[]⟩ w' (by decide) hE'
 have ok:=qDu 5 tn (⟨#[110,117,108,108]⟩:ByteArray).data.toList rfl hg;have no:=qDw 5 tn (⟨#[110,117,108,108]⟩:ByteArray).data.toList rfl hg
 generalize qAt 5 tn true 0 []=c at *
 generalize qCa 5 tn true 0 []=L at *
 obtain⟨LB,hLB⟩:∃LB:ByteArray,(⟨L.toArray⟩:ByteArray)=LB:=⟨_,rfl⟩
 have hLl:LB.data.toList=L:=by rw[←hLB]
 rw[hLB] at ct;have b0:=Box2.start w #[.int .i64 5,.bool tn] #[.bool false,.int .i64 0,.string ⟨#[]⟩] 55 57;have kf:=qE4
 have HB0:=Lib.hid b0;have CI:=Lib.hid ci;have CM:=Lib.hid cm;have CT:=Lib.hid ct;have HE:=Lib.hid hE
 clear b0 ci cm ct hE hg hrn hrs hLB hrl
 by_cases hc:c=0
 · by_cases hL:L=(⟨#[110,117,108,108]⟩:ByteArray).data.toList
   · rw[ok hc hL];subst hc
     obtain rfl:LB=(⟨#[110,117,108,108]⟩:ByteArray):=by rw[qB8 (s:=LB) rfl,hLl,hL]
     clear ok no hL hLl
     go_enter Tryz.func106,Tryz.ntmps106
     go_wp2_with fail
     refine(CM.out _).mono ?_;rintro en w1 ⟨rfl,b1⟩;have x1:=HB0.out.step b1;obtain⟨c1,c2,c3,c4,c5⟩:=x1.tc;have X1:=Lib.hid x1;clear x1 b1
     go_wp2_with fail
     refine(of_5 tn _).mono ?_;rintro en w2 ⟨rfl,b2⟩;have x2:=X1.out.step b2;clear c1 c2 c3 c4 c5
     go_wp2_with fail
     refine(CI.out _).mono ?_;rintro en w3 ⟨rfl,b3⟩;have x3:=x2.step b3;obtain⟨c1,c2,c3,c4,c5⟩:=x3.tc;have bA:=rral w3 (.cells #[.bool true,.int .i64 0,.string ⟨#[]⟩] 57);have x4:=x3.step bA
     have X3:=Lib.hid x3;have X4:=Lib.hid x4;have hl3:=x3.lt
     obtain⟨a1,a2,a3,a4,a5⟩:=x4.tc
     have n1:w.heap.size<w3.heap.size:=by omega
     have n2:w.heap.size+1<w3.heap.size:=by omega
     clear x2 b2 b3 x3 x4 bA
     go_wp2_with fail
     refine(CT.out _ (HE.out.below X4.out.bel)).mono ?_;rintro en w5 ⟨rfl,b5⟩;have x5:=X4.out.step b5;clear c1 c2 c3 c4 c5 a1 a2 a3 a4 a5;obtain⟨c1,c2,c3,c4,c5⟩:=x5.tc;have hblk:=rblk b5;have g3:=qAs 0 hblk rfl;have g4:=qAs 1 hblk rfl;have g5:=qAs 2 hblk rfl;have f3:=Lib.frozen_of_heap x5.b2 0;have f4:=Lib.frozen_of_heap x5.b2 1;have f5:=Lib.frozen_of_heap x5.b2 2;have HB:=Lib.hid x5.bel;clear x5 b5 hblk
     go_wp2_with fail
     exact bodyPost_ret (v:=.tuple #[.agg #[.bool true,.int .i64 0,.string ⟨#[]⟩],.int .i64 0]) (by simp[results,Tryz.results106,go_sem,c3,c4,c5]) rfl ⟨rfl,qC1 HB.out⟩
   · rw[no (fun h=>hL h.2)];subst hc
     have q1:(LB.toList==(⟨#[110,117,108,108]⟩:ByteArray).toList)=false:=by rw[Lib.toList_data,Lib.toList_data,hLl];rw[beq_eq_false_iff_ne];exact hL
     have q2:¬LB.toList=(⟨#[110,117,108,108]⟩:ByteArray).toList:=by rw[Lib.toList_data,Lib.toList_data,hLl];exact hL
     have q3:(LB.toList==[110,117,108,108])=false:=by rw[Lib.toList_data,hLl];rw[beq_eq_false_iff_ne];exact hL
     clear ok no hL hLl
     go_enter Tryz.func106,Tryz.ntmps106
     go_wp2_with fail
     refine(CM.out _).mono ?_;rintro en w1 ⟨rfl,b1⟩;have x1:=HB0.out.step b1;obtain⟨c1,c2,c3,c4,c5⟩:=x1.tc;have X1:=Lib.hid x1;clear x1 b1
     go_wp2_with fail
     refine(of_5 tn _).mono ?_;rintro en w2 ⟨rfl,b2⟩;have x2:=X1.out.step b2;clear c1 c2 c3 c4 c5
     go_wp2_with fail
     refine(CI.out _).mono ?_;rintro en w3 ⟨rfl,b3⟩;have x3:=x2.step b3;obtain⟨c1,c2,c3,c4,c5⟩:=x3.tc;have bA:=rral w3 (.cells #[.bool true,.int .i64 0,.string ⟨#[]⟩] 57);have x4:=x3.step bA
     have X3:=Lib.hid x3;have X4:=Lib.hid x4;have hl3:=x3.lt
     obtain⟨a1,a2,a3,a4,a5⟩:=x4.tc
     have n1:w.heap.size<w3.heap.size:=by omega
     have n2:w.heap.size+1<w3.heap.size:=by omega
     clear x2 b2 b3 x3 x4 bA
     go_wp2_with fail
     refine(CT.out _ (HE.out.below X4.out.bel)).mono ?_;rintro en w5 ⟨rfl,b5⟩;have x5:=X4.out.step b5;clear c1 c2 c3 c4 c5 a1 a2 a3 a4 a5;obtain⟨c1,c2,c3,c4,c5⟩:=x5.tc;have hblk:=rblk b5;have g3:=qAs 0 hblk rfl;have g4:=qAs 1 hblk rfl;have g5:=qAs 2 hblk rfl;have f3:=Lib.frozen_of_heap x5.b2 0;have f4:=Lib.frozen_of_heap x5.b2 1;have f5:=Lib.frozen_of_heap x5.b2 2;have HB:=Lib.hid x5.bel;clear x5 b5 hblk
     go_wp2_with fail
     exact bodyPost_ret (v:=.tuple #[.agg #[.bool false,.int .i64 0,.string ⟨#[]⟩],.int .i64 4]) (by simp[results,Tryz.results106,go_sem,c3,c4,c5]) rfl ⟨rfl,qC1 HB.out⟩
 · rw[no (fun h=>hc h.1)]
   have q1:(c != 0)=true:=by simpa using hc
   clear ok no hLl
   go_enter Tryz.func106,Tryz.ntmps106
   go_wp2_with fail
   refine(CM.out _).mono ?_;rintro en w1 ⟨rfl,b1⟩;have x1:=HB0.out.step b1;obtain⟨c1,c2,c3,c4,c5⟩:=x1.tc;have X1:=Lib.hid x1;clear x1 b1
   go_wp2_with fail
   refine(of_5 tn _).mono ?_;rintro en w2 ⟨rfl,b2⟩;have x2:=X1.out.step b2;clear c1 c2 c3 c4 c5
   go_wp2_with fail
   refine(CI.out _).mono ?_;rintro en w3 ⟨rfl,b3⟩;have x3:=x2.step b3;obtain⟨c1,c2,c3,c4,c5⟩:=x3.tc;have bA:=rral w3 (.cells #[.bool true,.int .i64 0,.string ⟨#[]⟩] 57);have x4:=x3.step bA
   have X3:=Lib.hid x3;have X4:=Lib.hid x4;have hl3:=x3.lt
   obtain⟨a1,a2,a3,a4,a5⟩:=x4.tc
   have n1:w.heap.size<w3.heap.size:=by omega
   have n2:w.heap.size+1<w3.heap.size:=by omega
   clear x2 b2 b3 x3 x4 bA
   go_wp2_with fail
   refine(CT.out _ (HE.out.below X4.out.bel)).mono ?_;rintro en w5 ⟨rfl,b5⟩;have x5:=X4.out.step b5;clear c1 c2 c3 c4 c5 a1 a2 a3 a4 a5;obtain⟨c1,c2,c3,c4,c5⟩:=x5.tc;have hblk:=rblk b5;have g3:=qAs 0 hblk rfl;have g4:=qAs 1 hblk rfl;have g5:=qAs 2 hblk rfl;have f3:=Lib.frozen_of_heap x5.b2 0;have f4:=Lib.frozen_of_heap x5.b2 1;have f5:=Lib.frozen_of_heap x5.b2 2;have HB:=Lib.hid x5.bel;clear x5 b5 hblk
   go_wp2_with fail
   exact bodyPost_ret (v:=.tuple #[.agg #[.bool false,.int .i64 0,.string ⟨#[]⟩],.int .i64 4]) (by simp[results,Tryz.results106,go_sem,c3,c4,c5]) rfl ⟨rfl,qC1 HB.out⟩
set_option maxRecDepth 100000 in
set_option maxHeartbeats 4000000 in
theorem qWr (tn:Bool) (S:ByteArray) (w:World) (hs0:S.size≤20000) (hE:Env w) (hN:¬S.data.toList=qNy) :
    Calls Tryz.prog 106 #[.agg #[.int .i64 5,.bool tn],.string S] w fun e w'=>e=.returned (qHb (qB4 5 tn S.data.toList))∧Below w.heap.size w w':=by
 have hs:S.size≤100000:=by omega
 have ci:=fun w'=>qY4 S w' hs
 have cm:=fun w'=>qCj 5 tn w'
 rw[show kMay 5=true from rfl] at cm;have hrl:=qGe 5 S.data.toList;obtain⟨rn,hrn⟩:∃rn,(qCs 5 S.data.toList).1=rn:=⟨_,rfl⟩;obtain⟨rs,hrs⟩:∃rs,(qCs 5 S.data.toList).2=rs:=⟨_,rfl⟩;rw[hrn,hrs] at ci
 have hg:qB5 5 S.data.toList=(false,rn,rs):=by
  unfold qB5;rw[if_neg hN,hrn,hrs]
 rw[hrs,lenS] at hrl;have hls:(⟨rs.toArray⟩:ByteArray).size=rs.length:=List.size_toArray
 have ct:∀w',Env w'→Calls Tryz.prog 147 #[.agg #[.int .i64 5,.bool tn],.agg #[.bool false,.int .i64 rn,.string ⟨rs.toArray⟩]] w' fun e w''=>e=.returned (.tuple #[.string ⟨(qCa 5 tn false rn rs).toArray⟩,.int .i64 (qAt 5 tn false rn rs)])∧Below w'.heap.size w' w'':=fun w' (hE':Env w')=>qCz 5 tn false rn ⟨rs.toArray⟩ w' (by rw[hls];omega) hE'
 have ok:=qDu 5 tn S.data.toList rfl hg;have no:=qDw 5 tn S.data.toList rfl hg
 have e1:(S.toList==[110,117,108,108])=false:=by rw[Lib.toList_data];rw[beq_eq_false_iff_ne];exact hN
 have e2:¬S.toList=[110,117,108,108]:=by rw[Lib.toList_data];exact hN
 generalize qAt 5 tn false rn rs=c at *
 generalize qCa 5 tn false rn rs=L at *
 obtain⟨LB,hLB⟩:∃LB:ByteArray,(⟨L.toArray⟩:ByteArray)=LB:=⟨_,rfl⟩
 have hLl:LB.data.toList=L:=by rw[←hLB]
 rw[hLB] at ct;have b0:=Box2.start w #[.int .i64 5,.bool tn] #[.bool false,.int .i64 0,.string ⟨#[]⟩] 55 57;have kf:=qE4
 have HB0:=Lib.hid b0;have CI:=Lib.hid ci;have CM:=Lib.hid cm;have CT:=Lib.hid ct;have HE:=Lib.hid hE
 clear b0 ci cm ct hE hg hrn hrs hLB hrl hls
 by_cases hc:c=0
 · by_cases hL:L=S.data.toList
   · rw[ok hc hL];subst hc
     obtain rfl:LB=S:=by rw[qB8 (s:=LB) rfl,hLl,hL]
     clear ok no hL hLl hN
     go_enter Tryz.func106,Tryz.ntmps106
     go_wp2_with fail
     refine(CM.out _).mono ?_;rintro en w1 ⟨rfl,b1⟩;have x1:=HB0.out.step b1;obtain⟨c1,c2,c3,c4,c5⟩:=x1.tc;have X1:=Lib.hid x1;clear x1 b1
     go_wp2_with fail
     refine(of_5 tn _).mono ?_;rintro en w2 ⟨rfl,b2⟩;have x2:=X1.out.step b2;clear c1 c2 c3 c4 c5
     go_wp2_with fail
     refine(CI.out _).mono ?_;rintro en w3 ⟨rfl,b3⟩;have x3:=x2.step b3;obtain⟨c1,c2,c3,c4,c5⟩:=x3.tc;have bA:=rral w3 (.cells #[.bool false,.int .i64 rn,.string ⟨rs.toArray⟩] 57);have x4:=x3.step bA
     have X3:=Lib.hid x3;have X4:=Lib.hid x4;have hl3:=x3.lt
     obtain⟨a1,a2,a3,a4,a5⟩:=x4.tc
     have n1:w.heap.size<w3.heap.size:=by omega
     have n2:w.heap.size+1<w3.heap.size:=by omega
     clear x2 b2 b3 x3 x4 bA
     go_wp2_with fail
     refine(CT.out _ (HE.out.below X4.out.bel)).mono ?_;rintro en w5 ⟨rfl,b5⟩;have x5:=X4.out.step b5;clear c1 c2 c3 c4 c5 a1 a2 a3 a4 a5;obtain⟨c1,c2,c3,c4,c5⟩:=x5.tc;have hblk:=rblk b5;have g3:=qAs 0 hblk rfl;have g4:=qAs 1 hblk rfl;have g5:=qAs 2 hblk rfl;have f3:=Lib.frozen_of_heap x5.b2 0;have f4:=Lib.frozen_of_heap x5.b2 1;have f5:=Lib.frozen_of_heap x5.b2 2;have HB:=Lib.hid x5.bel;clear x5 b5 hblk
     go_wp2_with fail
     exact bodyPost_ret (v:=.tuple #[.agg #[.bool false,.int .i64 rn,.string ⟨rs.toArray⟩],.int .i64 0]) (by simp[results,Tryz.results106,go_sem,c3,c4,c5]) rfl ⟨rfl,qC1 HB.out⟩
   · rw[no (fun h=>hL h.2)];subst hc
     have q1:(LB.toList==S.toList)=false:=by rw[Lib.toList_data,Lib.toList_data,hLl];rw[beq_eq_false_iff_ne];exact hL
     have q2:¬LB.toList=S.toList:=by rw[Lib.toList_data,Lib.toList_data,hLl];exact hL
     clear ok no hL hLl hN
     go_enter Tryz.func106,Tryz.ntmps106
     go_wp2_with fail
     refine(CM.out _).mono ?_;rintro en w1 ⟨rfl,b1⟩;have x1:=HB0.out.step b1;obtain⟨c1,c2,c3,c4,c5⟩:=x1.tc;have X1:=Lib.hid x1;clear x1 b1
     go_wp2_with fail
     refine(of_5 tn _).mono ?_;rintro en w2 ⟨rfl,b2⟩;have x2:=X1.out.step b2;clear c1 c2 c3 c4 c5
     go_wp2_with fail
     refine(CI.out _).mono ?_;rintro en w3 ⟨rfl,b3⟩;have x3:=x2.step b3;obtain⟨c1,c2,c3,c4,c5⟩:=x3.tc;have bA:=rral w3 (.cells #[.bool false,.int .i64 rn,.string ⟨rs.toArray⟩] 57);have x4:=x3.step bA
     have X3:=Lib.hid x3;have X4:=Lib.hid x4;have hl3:=x3.lt
     obtain⟨a1,a2,a3,a4,a5⟩:=x4.tc
     have n1:w.heap.size<w3.heap.size:=by omega
     have n2:w.heap.size+1<w3.heap.size:=by omega
     clear x2 b2 b3 x3 x4 bA
     go_wp2_with fail
     refine(CT.out _ (HE.out.below X4.out.bel)).mono ?_;rintro en w5 ⟨rfl,b5⟩;have x5:=X4.out.step b5;clear c1 c2 c3 c4 c5 a1 a2 a3 a4 a5;obtain⟨c1,c2,c3,c4,c5⟩:=x5.tc;have hblk:=rblk b5;have g3:=qAs 0 hblk rfl;have g4:=qAs 1 hblk rfl;have g5:=qAs 2 hblk rfl;have f3:=Lib.frozen_of_heap x5.b2 0;have f4:=Lib.frozen_of_heap x5.b2 1;have f5:=Lib.frozen_of_heap x5.b2 2;have HB:=Lib.hid x5.bel;clear x5 b5 hblk
     go_wp2_with fail
     exact bodyPost_ret (v:=.tuple #[.agg #[.bool false,.int .i64 0,.string ⟨#[]⟩],.int .i64 4]) (by simp[results,Tryz.results106,go_sem,c3,c4,c5]) rfl ⟨rfl,qC1 HB.out⟩
 · rw[no (fun h=>hc h.1)]
   have q1:(c != 0)=true:=by simpa using hc
   clear ok no hLl hN
   go_enter Tryz.func106,Tryz.ntmps106
   go_wp2_with fail
   refine(CM.out _).mono ?_;rintro en w1 ⟨rfl,b1⟩;have x1:=HB0.out.step b1;obtain⟨c1,c2,c3,c4,c5⟩:=x1.tc;have X1:=Lib.hid x1;clear x1 b1
   go_wp2_with fail
   refine(of_5 tn _).mono ?_;rintro en w2 ⟨rfl,b2⟩;have x2:=X1.out.step b2;clear c1 c2 c3 c4 c5
   go_wp2_with fail
   refine(CI.out _).mono ?_;rintro en w3 ⟨rfl,b3⟩;have x3:=x2.step b3;obtain⟨c1,c2,c3,c4,c5⟩:=x3.tc;have bA:=rral w3 (.cells #[.bool false,.int .i64 rn,.string ⟨rs.toArray⟩] 57);have x4:=x3.step bA
   have X3:=Lib.hid x3;have X4:=Lib.hid x4;have hl3:=x3.lt
   obtain⟨a1,a2,a3,a4,a5⟩:=x4.tc
   have n1:w.heap.size<w3.heap.size:=by omega
   have n2:w.heap.size+1<w3.heap.size:=by omega
   clear x2 b2 b3 x3 x4 bA
   go_wp2_with fail
   refine(CT.out _ (HE.out.below X4.out.bel)).mono ?_;rintro en w5 ⟨rfl,b5⟩;have x5:=X4.out.step b5;clear c1 c2 c3 c4 c5 a1 a2 a3 a4 a5;obtain⟨c1,c2,c3,c4,c5⟩:=x5.tc;have hblk:=rblk b5;have g3:=qAs 0 hblk rfl;have g4:=qAs 1 hblk rfl;have g5:=qAs 2 hblk rfl;have f3:=Lib.frozen_of_heap x5.b2 0;have f4:=Lib.frozen_of_heap x5.b2 1;have f5:=Lib.frozen_of_heap x5.b2 2;have HB:=Lib.hid x5.bel;clear x5 b5 hblk
   go_wp2_with fail
   exact bodyPost_ret (v:=.tuple #[.agg #[.bool false,.int .i64 0,.string ⟨#[]⟩],.int .i64 4]) (by simp[results,Tryz.results106,go_sem,c3,c4,c5]) rfl ⟨rfl,qC1 HB.out⟩
theorem qOx (k:Int) (tn:Bool) (S:ByteArray) (w:World) (hs:S.size≤20000) (hE:Env w) :
    Calls Tryz.prog 106 #[.agg #[.int .i64 k,.bool tn],.string S] w fun e w'=>e=.returned (qHb (qB4 k tn S.data.toList))∧Below w.heap.size w w':=by
 cases hk:kMay k with
 |false=>
  have:qHb (qB4 k tn S.data.toList)=.tuple #[.agg #[.bool false,.int .i64 0,.string ⟨#[]⟩],.int .i64 2]:=by unfold qB4;rw[if_neg (by simp[hk])];rfl
  rw[this];exact qTi k tn S w hk
 |true=>
  by_cases hN:S.data.toList=qNy
  · obtain rfl:S=⟨#[110,117,108,108]⟩:=qB8 hN
    rcases qF8 hk with rfl|rfl|rfl|rfl|rfl
    · exact qXt tn w hE
    · exact qXk tn w hE
    · exact qWl tn w hE
    · exact qYa tn w hE
    · exact qWb tn w hE
  · rcases qF8 hk with rfl|rfl|rfl|rfl|rfl
    · exact qWd tn S w hs hE hN
    · exact qXz tn S w hs hE hN
    · exact qWx tn S w hs hE hN
    · exact qXy tn S w hs hE hN
    · exact qWr tn S w hs hE hN
end Go.Proofs.YtikpmmipopmjaaaGreatDoor
