/- Cells: what is read. -/
import Derived.Test.YtainiaighnjpfaaGreatDoorZQl
set_option linter.unusedVariables false
namespace Go.Ms
open Go.RowKit Go.Lib
theorem qAl {w:World} {b:Nat} {cs:Array Value} {T:TypeId} {v:Value} (i:Nat) (h:w.heap[b]?=some (.cells cs T (0,0))) (hv:cs[i]?=some v):w.cell? ⟨b,i,none⟩=some v:=by rw[Lib.cell_of_heap h];exact hv
theorem rblk {w w':World} {o:Obj} (h:Below (w.alloc o).heap.size (w.alloc o) w'):w'.heap[w.heap.size]?=some o:=by rw[h.block _ (by simp)];exact heap_alloc_new w _
theorem rral (w:World) (o:Obj):Below w.heap.size w (w.alloc o):=(Below.refl _ _).alloc (Nat.le_refl _) _
theorem qB8 {B:Nat} {w W:World} (h:Below B w W) {b c d:Addr} {u v x:Value} (hb:B≤b.block:=by simp) (hc:B≤c.block:=by simp) (hd:B≤d.block:=by simp):Below B w (((W.setCell b u).setCell c v).setCell d x):=((h.setCell hb _).setCell hc _).setCell hd _
end Go.Ms
namespace Go.Proofs.YtainiaighnjpfaaGreatDoor
open Go.RowKit Go.Ms Go.Lib
def qE3 (D:(Bool×Int×Bs)×Int):Value:=.tuple #[.agg #[.bool D.1.1,.int .i64 D.1.2.1,.string ⟨D.1.2.2.toArray⟩],.int .i64 D.2]
theorem qCq (k:Int) (tn:Bool) (l:Bs) (hk:kMay k=true) {g:Bool} {n:Int} {s:Bs} (hg:qBh k l=(g,n,s)) (hc:qAt k tn g n s=0) (ht:qBk k tn g n s=l):qE3 (qBg k tn l)=.tuple #[.agg #[.bool g,.int .i64 n,.string ⟨s.toArray⟩],.int .i64 0]:=by
 have:qBg k tn l=((g,n,s),0):=by
  unfold qBg;rw[if_pos hk,hg];exact if_pos ⟨hc,ht⟩
 rw[this];rfl
theorem qCr (k:Int) (tn:Bool) (l:Bs) (hk:kMay k=true) {g:Bool} {n:Int} {s:Bs} (hg:qBh k l=(g,n,s)) (hc:¬(qAt k tn g n s=0∧qBk k tn g n s=l)):qE3 (qBg k tn l)=.tuple #[.agg #[.bool false,.int .i64 0,.string ⟨#[]⟩],.int .i64 4]:=by
 have:qBg k tn l=((false,0,[]),4):=by
  unfold qBg;rw[if_pos hk,hg];exact if_neg hc
 rw[this];rfl
theorem qS7 (l:Bs):∀(n:Nat) (acc:Bs) (p:Nat) (e:Int),(uqGo l n acc p e).1.length≤acc.length+4*n
  |0,acc,p,e=>by simp[uqGo]
  | n+1,acc,p,e=>by
   rw[qBd];have hp:=qE0 l p e
   repeat' split
   all_goals first|(simp;done)|(simp;omega)|skip
   all_goals
    refine Nat.le_trans (qS7 l n _ _ _) ?_;have h1:=qD1 l (p+1) 0;have h2:=qE0 l p 0;have h3:=qD1 l (p+1) e;simp only[List.length_append];omega
theorem qI2:∀(n:Nat) (l:Bs),l.length≤n→(qFq l).length≤n
  |0,l,h=>by rw[qGp (by omega)];simp
  | n+1,l,h=>by
   match l,h with
   |[],_=>simp[qFq]
   |[a],_=>simp[qFq]
   |a::b::t,h=>
    rw[qFq,List.length_cons];have:=qI2 n t (by simp at h;omega);omega
theorem qD5 (k:Int) (l:Bs):(qBy k l).2.length≤4*(l.length+2):=by
 unfold qBy
 split
 · simp
 · split
   · simp
   · split
     · have:=qS7 l (l.length+2) [] (qA2 l 34 0 0).1 (qA2 l 34 0 0).2
       simpa[qCz] using this
     · have:(trimPrefix l [120]).length≤l.length:=by
         unfold trimPrefix
         split
         · rw[List.length_drop];omega
         · omega
       have h2:=qI2 _ _ this
       show(qIv l).length≤_
       unfold qIv;omega
theorem qN7 (k:Int) (tn:Bool) (S:ByteArray) (w:World) (hk:kMay k=false) :
    Calls Tryz.prog 127 #[.agg #[.int .i64 k,.bool tn],.string S] w fun e w'=>e=.returned (.tuple #[.agg #[.bool false,.int .i64 0,.string ⟨#[]⟩],.int .i64 2])∧Below w.heap.size w w':=by
 have cm:=fun w'=>qBr k tn w'
 rw[hk] at cm;have b0:=Box2.start w #[.int .i64 k,.bool tn] #[.bool false,.int .i64 0,.string ⟨#[]⟩] 41 43
 have HB0:=Lib.hid b0;have CM:=Lib.hid cm
 clear b0 cm hk
 go_enter Tryz.func127,Tryz.ntmps127
 go_wp2_with fail
 refine(CM.out _).mono ?_;rintro en w1 ⟨rfl,b1⟩;have x1:=HB0.out.step b1;obtain⟨c1,c2,c3,c4,c5⟩:=x1.tc;have f3:=Lib.frozen_of_heap x1.b2 0;have f4:=Lib.frozen_of_heap x1.b2 1;have f5:=Lib.frozen_of_heap x1.b2 2;have HB:=Lib.hid x1.bel;clear x1 b1
 go_wp2_with fail
 exact bodyPost_ret (v:=.tuple #[.agg #[.bool false,.int .i64 0,.string ⟨#[]⟩],.int .i64 2]) (by simp[results,Tryz.results127,go_sem,c3,c4,c5]) rfl ⟨rfl,qB8 HB.out⟩
set_option maxRecDepth 100000 in
set_option maxHeartbeats 4000000 in
theorem qRm (tn:Bool) (w:World) (hE:Env w) :
    Calls Tryz.prog 127 #[.agg #[.int .i64 1,.bool tn],.string (⟨#[110,117,108,108]⟩:ByteArray)] w fun e w'=>e=.returned (qE3 (qBg 1 tn (⟨#[110,117,108,108]⟩:ByteArray).data.toList))∧Below w.heap.size w w':=by
 have hs:(⟨#[110,117,108,108]⟩:ByteArray).size≤100000:=by decide
 have ci:=fun w'=>qSv (⟨#[110,117,108,108]⟩:ByteArray) w'
 have cm:=fun w'=>qBr 1 tn w'
 rw[show kMay 1=true from rfl] at cm;have hrl:=trivial;obtain⟨rn,hrn⟩:∃rn,(qBy 1 (⟨#[110,117,108,108]⟩:ByteArray).data.toList).1=rn:=⟨_,rfl⟩;obtain⟨rs,hrs⟩:∃rs,(qBy 1 (⟨#[110,117,108,108]⟩:ByteArray).data.toList).2=rs:=⟨_,rfl⟩;rw[hrn,hrs] at ci
 have hg:qBh 1 (⟨#[110,117,108,108]⟩:ByteArray).data.toList=(true,0,[]):=by
  unfold qBh;exact if_pos rfl
 have ct:∀w',Env w'→Calls Tryz.prog 174 #[.agg #[.int .i64 1,.bool tn],.agg #[.bool true,.int .i64 0,.string ⟨#[]⟩]] w' fun e w''=>e=.returned (.tuple #[.string ⟨(qBk 1 tn true 0 []).toArray⟩,.int .i64 (qAt 1 tn true 0 [])])∧Below w'.heap.size w' w'':=fun w' (hE':Env w')=>qB6 1 tn true 0 ⟨#[]⟩ w' (by decide) hE'
 have ok:=qCq 1 tn (⟨#[110,117,108,108]⟩:ByteArray).data.toList rfl hg;have no:=qCr 1 tn (⟨#[110,117,108,108]⟩:ByteArray).data.toList rfl hg
 generalize qAt 1 tn true 0 []=c at *
 generalize qBk 1 tn true 0 []=L at *
 obtain⟨LB,hLB⟩:∃LB:ByteArray,(⟨L.toArray⟩:ByteArray)=LB:=⟨_,rfl⟩
 have hLl:LB.data.toList=L:=by rw[←hLB]
 rw[hLB] at ct;have b0:=Box2.start w #[.int .i64 1,.bool tn] #[.bool false,.int .i64 0,.string ⟨#[]⟩] 41 43;have kf:=qDg
 have HB0:=Lib.hid b0;have CI:=Lib.hid ci;have CM:=Lib.hid cm;have CT:=Lib.hid ct;have HE:=Lib.hid hE
 clear b0 ci cm ct hE hg hrn hrs hLB hrl
 by_cases hc:c=0
 · by_cases hL:L=(⟨#[110,117,108,108]⟩:ByteArray).data.toList
   · rw[ok hc hL];subst hc
     obtain rfl:LB=(⟨#[110,117,108,108]⟩:ByteArray):=by rw[qBt (s:=LB) rfl,hLl,hL]
     clear ok no hL hLl
     go_enter Tryz.func127,Tryz.ntmps127
     go_wp2_with fail
     refine(CM.out _).mono ?_;rintro en w1 ⟨rfl,b1⟩;have x1:=HB0.out.step b1;obtain⟨c1,c2,c3,c4,c5⟩:=x1.tc;have X1:=Lib.hid x1;clear x1 b1
     go_wp2_with fail
     refine(of_1 tn _).mono ?_;rintro en w2 ⟨a,b,rfl,hp,b2⟩;have x2:=X1.out.step b2;clear c1 c2 c3 c4 c5
     go_wp2_with fail
     refine(CI.out _).mono ?_;rintro en w3 ⟨rfl,b3⟩;have x3:=x2.step b3;obtain⟨c1,c2,c3,c4,c5⟩:=x3.tc;have bA:=rral w3 (.cells #[.bool true,.int .i64 0,.string ⟨#[]⟩] 43);have x4:=x3.step bA
     have X3:=Lib.hid x3;have X4:=Lib.hid x4;have hl3:=x3.lt
     obtain⟨a1,a2,a3,a4,a5⟩:=x4.tc
     have n1:w.heap.size<w3.heap.size:=by omega
     have n2:w.heap.size+1<w3.heap.size:=by omega
     clear x2 b2 b3 x3 x4 bA
     go_wp2_with fail
     refine(CT.out _ (HE.out.below X4.out.bel)).mono ?_;rintro en w5 ⟨rfl,b5⟩;have x5:=X4.out.step b5;clear c1 c2 c3 c4 c5 a1 a2 a3 a4 a5;obtain⟨c1,c2,c3,c4,c5⟩:=x5.tc;have hblk:=rblk b5;have g3:=qAl 0 hblk rfl;have g4:=qAl 1 hblk rfl;have g5:=qAl 2 hblk rfl;have f3:=Lib.frozen_of_heap x5.b2 0;have f4:=Lib.frozen_of_heap x5.b2 1;have f5:=Lib.frozen_of_heap x5.b2 2;have HB:=Lib.hid x5.bel;clear x5 b5 hblk
     go_wp2_with fail
     exact bodyPost_ret (v:=.tuple #[.agg #[.bool true,.int .i64 0,.string ⟨#[]⟩],.int .i64 0]) (by simp[results,Tryz.results127,go_sem,c3,c4,c5]) rfl ⟨rfl,qB8 HB.out⟩
   · rw[no (fun h=>hL h.2)];subst hc
     have q1:(LB.toList==(⟨#[110,117,108,108]⟩:ByteArray).toList)=false:=by rw[Lib.toList_data,Lib.toList_data,hLl];rw[beq_eq_false_iff_ne];exact hL
     have q2:¬LB.toList=(⟨#[110,117,108,108]⟩:ByteArray).toList:=by rw[Lib.toList_data,Lib.toList_data,hLl];exact hL
     have q3:(LB.toList==[110,117,108,108])=false:=by rw[Lib.toList_data,hLl];rw[beq_eq_false_iff_ne];exact hL
     clear ok no hL hLl
     go_enter Tryz.func127,Tryz.ntmps127
     go_wp2_with fail
     refine(CM.out _).mono ?_;rintro en w1 ⟨rfl,b1⟩;have x1:=HB0.out.step b1;obtain⟨c1,c2,c3,c4,c5⟩:=x1.tc;have X1:=Lib.hid x1;clear x1 b1
     go_wp2_with fail
     refine(of_1 tn _).mono ?_;rintro en w2 ⟨a,b,rfl,hp,b2⟩;have x2:=X1.out.step b2;clear c1 c2 c3 c4 c5
     go_wp2_with fail
     refine(CI.out _).mono ?_;rintro en w3 ⟨rfl,b3⟩;have x3:=x2.step b3;obtain⟨c1,c2,c3,c4,c5⟩:=x3.tc;have bA:=rral w3 (.cells #[.bool true,.int .i64 0,.string ⟨#[]⟩] 43);have x4:=x3.step bA
     have X3:=Lib.hid x3;have X4:=Lib.hid x4;have hl3:=x3.lt
     obtain⟨a1,a2,a3,a4,a5⟩:=x4.tc
     have n1:w.heap.size<w3.heap.size:=by omega
     have n2:w.heap.size+1<w3.heap.size:=by omega
     clear x2 b2 b3 x3 x4 bA
     go_wp2_with fail
     refine(CT.out _ (HE.out.below X4.out.bel)).mono ?_;rintro en w5 ⟨rfl,b5⟩;have x5:=X4.out.step b5;clear c1 c2 c3 c4 c5 a1 a2 a3 a4 a5;obtain⟨c1,c2,c3,c4,c5⟩:=x5.tc;have hblk:=rblk b5;have g3:=qAl 0 hblk rfl;have g4:=qAl 1 hblk rfl;have g5:=qAl 2 hblk rfl;have f3:=Lib.frozen_of_heap x5.b2 0;have f4:=Lib.frozen_of_heap x5.b2 1;have f5:=Lib.frozen_of_heap x5.b2 2;have HB:=Lib.hid x5.bel;clear x5 b5 hblk
     go_wp2_with fail
     exact bodyPost_ret (v:=.tuple #[.agg #[.bool false,.int .i64 0,.string ⟨#[]⟩],.int .i64 4]) (by simp[results,Tryz.results127,go_sem,c3,c4,c5]) rfl ⟨rfl,qB8 HB.out⟩
 · rw[no (fun h=>hc h.1)]
   have q1:(c != 0)=true:=by simpa using hc
   clear ok no hLl
   go_enter Tryz.func127,Tryz.ntmps127
   go_wp2_with fail
   refine(CM.out _).mono ?_;rintro en w1 ⟨rfl,b1⟩;have x1:=HB0.out.step b1;obtain⟨c1,c2,c3,c4,c5⟩:=x1.tc;have X1:=Lib.hid x1;clear x1 b1
   go_wp2_with fail
   refine(of_1 tn _).mono ?_;rintro en w2 ⟨a,b,rfl,hp,b2⟩;have x2:=X1.out.step b2;clear c1 c2 c3 c4 c5
   go_wp2_with fail
   refine(CI.out _).mono ?_;rintro en w3 ⟨rfl,b3⟩;have x3:=x2.step b3;obtain⟨c1,c2,c3,c4,c5⟩:=x3.tc;have bA:=rral w3 (.cells #[.bool true,.int .i64 0,.string ⟨#[]⟩] 43);have x4:=x3.step bA
   have X3:=Lib.hid x3;have X4:=Lib.hid x4;have hl3:=x3.lt
   obtain⟨a1,a2,a3,a4,a5⟩:=x4.tc
   have n1:w.heap.size<w3.heap.size:=by omega
   have n2:w.heap.size+1<w3.heap.size:=by omega
   clear x2 b2 b3 x3 x4 bA
   go_wp2_with fail
   refine(CT.out _ (HE.out.below X4.out.bel)).mono ?_;rintro en w5 ⟨rfl,b5⟩;have x5:=X4.out.step b5;clear c1 c2 c3 c4 c5 a1 a2 a3 a4 a5;obtain⟨c1,c2,c3,c4,c5⟩:=x5.tc;have hblk:=rblk b5;have g3:=qAl 0 hblk rfl;have g4:=qAl 1 hblk rfl;have g5:=qAl 2 hblk rfl;have f3:=Lib.frozen_of_heap x5.b2 0;have f4:=Lib.frozen_of_heap x5.b2 1;have f5:=Lib.frozen_of_heap x5.b2 2;have HB:=Lib.hid x5.bel;clear x5 b5 hblk
   go_wp2_with fail
   exact bodyPost_ret (v:=.tuple #[.agg #[.bool false,.int .i64 0,.string ⟨#[]⟩],.int .i64 4]) (by simp[results,Tryz.results127,go_sem,c3,c4,c5]) rfl ⟨rfl,qB8 HB.out⟩
set_option maxRecDepth 100000 in
set_option maxHeartbeats 4000000 in
theorem qR7 (tn:Bool) (S:ByteArray) (w:World) (hs0:S.size≤20000) (hE:Env w) (hN:¬S.data.toList=qLd) :
    Calls Tryz.prog 127 #[.agg #[.int .i64 1,.bool tn],.string S] w fun e w'=>e=.returned (qE3 (qBg 1 tn S.data.toList))∧Below w.heap.size w w':=by
 have hs:S.size≤100000:=by omega
 have ci:=fun w'=>qSv S w'
 have cm:=fun w'=>qBr 1 tn w'
 rw[show kMay 1=true from rfl] at cm;have hrl:=qD5 1 S.data.toList;obtain⟨rn,hrn⟩:∃rn,(qBy 1 S.data.toList).1=rn:=⟨_,rfl⟩;obtain⟨rs,hrs⟩:∃rs,(qBy 1 S.data.toList).2=rs:=⟨_,rfl⟩;rw[hrn,hrs] at ci
 have hg:qBh 1 S.data.toList=(false,rn,rs):=by
  unfold qBh;rw[if_neg hN,hrn,hrs]
 rw[hrs,lenS] at hrl;have hls:(⟨rs.toArray⟩:ByteArray).size=rs.length:=List.size_toArray
 have ct:∀w',Env w'→Calls Tryz.prog 174 #[.agg #[.int .i64 1,.bool tn],.agg #[.bool false,.int .i64 rn,.string ⟨rs.toArray⟩]] w' fun e w''=>e=.returned (.tuple #[.string ⟨(qBk 1 tn false rn rs).toArray⟩,.int .i64 (qAt 1 tn false rn rs)])∧Below w'.heap.size w' w'':=fun w' (hE':Env w')=>qB6 1 tn false rn ⟨rs.toArray⟩ w' (by rw[hls];omega) hE'
 have ok:=qCq 1 tn S.data.toList rfl hg;have no:=qCr 1 tn S.data.toList rfl hg
 have e1:(S.toList==[110,117,108,108])=false:=by rw[Lib.toList_data];rw[beq_eq_false_iff_ne];exact hN
 have e2:¬S.toList=[110,117,108,108]:=by rw[Lib.toList_data];exact hN
 generalize qAt 1 tn false rn rs=c at *
 generalize qBk 1 tn false rn rs=L at *
 obtain⟨LB,hLB⟩:∃LB:ByteArray,(⟨L.toArray⟩:ByteArray)=LB:=⟨_,rfl⟩
 have hLl:LB.data.toList=L:=by rw[←hLB]
 rw[hLB] at ct;have b0:=Box2.start w #[.int .i64 1,.bool tn] #[.bool false,.int .i64 0,.string ⟨#[]⟩] 41 43;have kf:=qDg
 have HB0:=Lib.hid b0;have CI:=Lib.hid ci;have CM:=Lib.hid cm;have CT:=Lib.hid ct;have HE:=Lib.hid hE
 clear b0 ci cm ct hE hg hrn hrs hLB hrl hls
 by_cases hc:c=0
 · by_cases hL:L=S.data.toList
   · rw[ok hc hL];subst hc
     obtain rfl:LB=S:=by rw[qBt (s:=LB) rfl,hLl,hL]
     clear ok no hL hLl hN
     go_enter Tryz.func127,Tryz.ntmps127
     go_wp2_with fail
     refine(CM.out _).mono ?_;rintro en w1 ⟨rfl,b1⟩;have x1:=HB0.out.step b1;obtain⟨c1,c2,c3,c4,c5⟩:=x1.tc;have X1:=Lib.hid x1;clear x1 b1
     go_wp2_with fail
     refine(of_1 tn _).mono ?_;rintro en w2 ⟨a,b,rfl,hp,b2⟩;have x2:=X1.out.step b2;clear c1 c2 c3 c4 c5
     go_wp2_with fail
     refine(CI.out _).mono ?_;rintro en w3 ⟨rfl,b3⟩;have x3:=x2.step b3;obtain⟨c1,c2,c3,c4,c5⟩:=x3.tc;have bA:=rral w3 (.cells #[.bool false,.int .i64 rn,.string ⟨rs.toArray⟩] 43);have x4:=x3.step bA
     have X3:=Lib.hid x3;have X4:=Lib.hid x4;have hl3:=x3.lt
     obtain⟨a1,a2,a3,a4,a5⟩:=x4.tc
     have n1:w.heap.size<w3.heap.size:=by omega
     have n2:w.heap.size+1<w3.heap.size:=by omega
     clear x2 b2 b3 x3 x4 bA
     go_wp2_with fail
     refine(CT.out _ (HE.out.below X4.out.bel)).mono ?_;rintro en w5 ⟨rfl,b5⟩;have x5:=X4.out.step b5;clear c1 c2 c3 c4 c5 a1 a2 a3 a4 a5;obtain⟨c1,c2,c3,c4,c5⟩:=x5.tc;have hblk:=rblk b5;have g3:=qAl 0 hblk rfl;have g4:=qAl 1 hblk rfl;have g5:=qAl 2 hblk rfl;have f3:=Lib.frozen_of_heap x5.b2 0;have f4:=Lib.frozen_of_heap x5.b2 1;have f5:=Lib.frozen_of_heap x5.b2 2;have HB:=Lib.hid x5.bel;clear x5 b5 hblk
     go_wp2_with fail
     exact bodyPost_ret (v:=.tuple #[.agg #[.bool false,.int .i64 rn,.string ⟨rs.toArray⟩],.int .i64 0]) (by simp[results,Tryz.results127,go_sem,c3,c4,c5]) rfl ⟨rfl,qB8 HB.out⟩
   · rw[no (fun h=>hL h.2)];subst hc
     have q1:(LB.toList==S.toList)=false:=by rw[Lib.toList_data,Lib.toList_data,hLl];rw[beq_eq_false_iff_ne];exact hL
     have q2:¬LB.toList=S.toList:=by rw[Lib.toList_data,Lib.toList_data,hLl];exact hL
     clear ok no hL hLl hN
     go_enter Tryz.func127,Tryz.ntmps127
     go_wp2_with fail
     refine(CM.out _).mono ?_;rintro en w1 ⟨rfl,b1⟩;have x1:=HB0.out.step b1;obtain⟨c1,c2,c3,c4,c5⟩:=x1.tc;have X1:=Lib.hid x1;clear x1 b1
     go_wp2_with fail
     refine(of_1 tn _).mono ?_;rintro en w2 ⟨a,b,rfl,hp,b2⟩;have x2:=X1.out.step b2;clear c1 c2 c3 c4 c5
     go_wp2_with fail
     refine(CI.out _).mono ?_;rintro en w3 ⟨rfl,b3⟩;have x3:=x2.step b3;obtain⟨c1,c2,c3,c4,c5⟩:=x3.tc;have bA:=rral w3 (.cells #[.bool false,.int .i64 rn,.string ⟨rs.toArray⟩] 43);have x4:=x3.step bA
     have X3:=Lib.hid x3;have X4:=Lib.hid x4;have hl3:=x3.lt
     obtain⟨a1,a2,a3,a4,a5⟩:=x4.tc
     have n1:w.heap.size<w3.heap.size:=by omega
     have n2:w.heap.size+1<w3.heap.size:=by omega
     clear x2 b2 b3 x3 x4 bA
     go_wp2_with fail
     refine(CT.out _ (HE.out.below X4.out.bel)).mono ?_;rintro en w5 ⟨rfl,b5⟩;have x5:=X4.out.step b5;clear c1 c2 c3 c4 c5 a1 a2 a3 a4 a5;obtain⟨c1,c2,c3,c4,c5⟩:=x5.tc;have hblk:=rblk b5;have g3:=qAl 0 hblk rfl;have g4:=qAl 1 hblk rfl;have g5:=qAl 2 hblk rfl;have f3:=Lib.frozen_of_heap x5.b2 0;have f4:=Lib.frozen_of_heap x5.b2 1;have f5:=Lib.frozen_of_heap x5.b2 2;have HB:=Lib.hid x5.bel;clear x5 b5 hblk
     go_wp2_with fail
     exact bodyPost_ret (v:=.tuple #[.agg #[.bool false,.int .i64 0,.string ⟨#[]⟩],.int .i64 4]) (by simp[results,Tryz.results127,go_sem,c3,c4,c5]) rfl ⟨rfl,qB8 HB.out⟩
 · rw[no (fun h=>hc h.1)]
   have q1:(c != 0)=true:=by simpa using hc
   clear ok no hLl hN
   go_enter Tryz.func127,Tryz.ntmps127
   go_wp2_with fail
   refine(CM.out _).mono ?_;rintro en w1 ⟨rfl,b1⟩;have x1:=HB0.out.step b1;obtain⟨c1,c2,c3,c4,c5⟩:=x1.tc;have X1:=Lib.hid x1;clear x1 b1
   go_wp2_with fail
   refine(of_1 tn _).mono ?_;rintro en w2 ⟨a,b,rfl,hp,b2⟩;have x2:=X1.out.step b2;clear c1 c2 c3 c4 c5
   go_wp2_with fail
   refine(CI.out _).mono ?_;rintro en w3 ⟨rfl,b3⟩;have x3:=x2.step b3;obtain⟨c1,c2,c3,c4,c5⟩:=x3.tc;have bA:=rral w3 (.cells #[.bool false,.int .i64 rn,.string ⟨rs.toArray⟩] 43);have x4:=x3.step bA
   have X3:=Lib.hid x3;have X4:=Lib.hid x4;have hl3:=x3.lt
   obtain⟨a1,a2,a3,a4,a5⟩:=x4.tc
   have n1:w.heap.size<w3.heap.size:=by omega
   have n2:w.heap.size+1<w3.heap.size:=by omega
   clear x2 b2 b3 x3 x4 bA
   go_wp2_with fail
   refine(CT.out _ (HE.out.below X4.out.bel)).mono ?_;rintro en w5 ⟨rfl,b5⟩;have x5:=X4.out.step b5;clear c1 c2 c3 c4 c5 a1 a2 a3 a4 a5;obtain⟨c1,c2,c3,c4,c5⟩:=x5.tc;have hblk:=rblk b5;have g3:=qAl 0 hblk rfl;have g4:=qAl 1 hblk rfl;have g5:=qAl 2 hblk rfl;have f3:=Lib.frozen_of_heap x5.b2 0;have f4:=Lib.frozen_of_heap x5.b2 1;have f5:=Lib.frozen_of_heap x5.b2 2;have HB:=Lib.hid x5.bel;clear x5 b5 hblk
   go_wp2_with fail
   exact bodyPost_ret (v:=.tuple #[.agg #[.bool false,.int .i64 0,.string ⟨#[]⟩],.int .i64 4]) (by simp[results,Tryz.results127,go_sem,c3,c4,c5]) rfl ⟨rfl,qB8 HB.out⟩
set_option maxRecDepth 100000 in
set_option maxHeartbeats 4000000 in
theorem qRw (tn:Bool) (w:World) (hE:Env w) :
    Calls Tryz.prog 127 #[.agg #[.int .i64 2,.bool tn],.string (⟨#[110,117,108,108]⟩:ByteArray)] w fun e w'=>e=.returned (qE3 (qBg 2 tn (⟨#[110,117,108,108]⟩:ByteArray).data.toList))∧Below w.heap.size w w':=by
 have hs:(⟨#[110,117,108,108]⟩:ByteArray).size≤100000:=by decide
 have ci:=fun w' (hE:Env w')=>qSw (⟨#[110,117,108,108]⟩:ByteArray) w' hs hE
 have cm:=fun w'=>qBr 2 tn w'
 rw[show kMay 2=true from rfl] at cm;have hrl:=trivial;obtain⟨rn,hrn⟩:∃rn,(qBy 2 (⟨#[110,117,108,108]⟩:ByteArray).data.toList).1=rn:=⟨_,rfl⟩;obtain⟨rs,hrs⟩:∃rs,(qBy 2 (⟨#[110,117,108,108]⟩:ByteArray).data.toList).2=rs:=⟨_,rfl⟩;rw[hrn,hrs] at ci
 have hg:qBh 2 (⟨#[110,117,108,108]⟩:ByteArray).data.toList=(true,0,[]):=by
  unfold qBh;exact if_pos rfl
 have ct:∀w',Env w'→Calls Tryz.prog 174 #[.agg #[.int .i64 2,.bool tn],.agg #[.bool true,.int .i64 0,.string ⟨#[]⟩]] w' fun e w''=>e=.returned (.tuple #[.string ⟨(qBk 2 tn true 0 []).toArray⟩,.int .i64 (qAt 2 tn true 0 [])])∧Below w'.heap.size w' w'':=fun w' (hE':Env w')=>qB6 2 tn true 0 ⟨#[]⟩ w' (by decide) hE'
 have ok:=qCq 2 tn (⟨#[110,117,108,108]⟩:ByteArray).data.toList rfl hg;have no:=qCr 2 tn (⟨#[110,117,108,108]⟩:ByteArray).data.toList rfl hg
 generalize qAt 2 tn true 0 []=c at *
 generalize qBk 2 tn true 0 []=L at *
 obtain⟨LB,hLB⟩:∃LB:ByteArray,(⟨L.toArray⟩:ByteArray)=LB:=⟨_,rfl⟩
 have hLl:LB.data.toList=L:=by rw[←hLB]
 rw[hLB] at ct;have b0:=Box2.start w #[.int .i64 2,.bool tn] #[.bool false,.int .i64 0,.string ⟨#[]⟩] 41 43;have kf:=qDg
 have HB0:=Lib.hid b0;have CI:=Lib.hid ci;have CM:=Lib.hid cm;have CT:=Lib.hid ct;have HE:=Lib.hid hE
 clear b0 ci cm ct hE hg hrn hrs hLB hrl
 by_cases hc:c=0
 · by_cases hL:L=(⟨#[110,117,108,108]⟩:ByteArray).data.toList
   · rw[ok hc hL];subst hc
     obtain rfl:LB=(⟨#[110,117,108,108]⟩:ByteArray):=by rw[qBt (s:=LB) rfl,hLl,hL]
     clear ok no hL hLl
     go_enter Tryz.func127,Tryz.ntmps127
     go_wp2_with fail
     refine(CM.out _).mono ?_;rintro en w1 ⟨rfl,b1⟩;have x1:=HB0.out.step b1;obtain⟨c1,c2,c3,c4,c5⟩:=x1.tc;have X1:=Lib.hid x1;clear x1 b1
     go_wp2_with fail
     refine(of_2 tn _).mono ?_;rintro en w2 ⟨a,b,rfl,hp,b2⟩;have x2:=X1.out.step b2;clear c1 c2 c3 c4 c5
     go_wp2_with fail
     refine(CI.out _ (HE.out.below x2.bel)).mono ?_;rintro en w3 ⟨rfl,b3⟩;have x3:=x2.step b3;obtain⟨c1,c2,c3,c4,c5⟩:=x3.tc;have bA:=rral w3 (.cells #[.bool true,.int .i64 0,.string ⟨#[]⟩] 43);have x4:=x3.step bA
     have X3:=Lib.hid x3;have X4:=Lib.hid x4;have hl3:=x3.lt
     obtain⟨a1,a2,a3,a4,a5⟩:=x4.tc
     have n1:w.heap.size<w3.heap.size:=by omega
     have n2:w.heap.size+1<w3.heap.size:=by omega
     clear x2 b2 b3 x3 x4 bA
     go_wp2_with fail
     refine(CT.out _ (HE.out.below X4.out.bel)).mono ?_;rintro en w5 ⟨rfl,b5⟩;have x5:=X4.out.step b5;clear c1 c2 c3 c4 c5 a1 a2 a3 a4 a5;obtain⟨c1,c2,c3,c4,c5⟩:=x5.tc;have hblk:=rblk b5;have g3:=qAl 0 hblk rfl;have g4:=qAl 1 hblk rfl;have g5:=qAl 2 hblk rfl;have f3:=Lib.frozen_of_heap x5.b2 0;have f4:=Lib.frozen_of_heap x5.b2 1;have f5:=Lib.frozen_of_heap x5.b2 2;have HB:=Lib.hid x5.bel;clear x5 b5 hblk
     go_wp2_with fail
     exact bodyPost_ret (v:=.tuple #[.agg #[.bool true,.int .i64 0,.string ⟨#[]⟩],.int .i64 0]) (by simp[results,Tryz.results127,go_sem,c3,c4,c5]) rfl ⟨rfl,qB8 HB.out⟩
   · rw[no (fun h=>hL h.2)];subst hc
     have q1:(LB.toList==(⟨#[110,117,108,108]⟩:ByteArray).toList)=false:=by rw[Lib.toList_data,Lib.toList_data,hLl];rw[beq_eq_false_iff_ne];exact hL
     have q2:¬LB.toList=(⟨#[110,117,108,108]⟩:ByteArray).toList:=by rw[Lib.toList_data,Lib.toList_data,hLl];exact hL
     have q3:(LB.toList==[110,117,108,108])=false:=by rw[Lib.toList_data,hLl];rw[beq_eq_false_iff_ne];exact hL
     clear ok no hL hLl
     go_enter Tryz.func127,Tryz.ntmps127
     go_wp2_with fail
     refine(CM.out _).mono ?_;rintro en w1 ⟨rfl,b1⟩;have x1:=HB0.out.step b1;obtain⟨c1,c2,c3,c4,c5⟩:=x1.tc;have X1:=Lib.hid x1;clear x1 b1
     go_wp2_with fail
     refine(of_2 tn _).mono ?_;rintro en w2 ⟨a,b,rfl,hp,b2⟩;have x2:=X1.out.step b2;clear c1 c2 c3 c4 c5
     go_wp2_with fail
     refine(CI.out _ (HE.out.below x2.bel)).mono ?_;rintro en w3 ⟨rfl,b3⟩;have x3:=x2.step b3;obtain⟨c1,c2,c3,c4,c5⟩:=x3.tc;have bA:=rral w3 (.cells #[.bool true,.int .i64 0,.string ⟨#[]⟩] 43);have x4:=x3.step bA
     have X3:=Lib.hid x3;have X4:=Lib.hid x4;have hl3:=x3.lt
     obtain⟨a1,a2,a3,a4,a5⟩:=x4.tc
     have n1:w.heap.size<w3.heap.size:=by omega
     have n2:w.heap.size+1<w3.heap.size:=by omega
     clear x2 b2 b3 x3 x4 bA
     go_wp2_with fail
     refine(CT.out _ (HE.out.below X4.out.bel)).mono ?_;rintro en w5 ⟨rfl,b5⟩;have x5:=X4.out.step b5;clear c1 c2 c3 c4 c5 a1 a2 a3 a4 a5;obtain⟨c1,c2,c3,c4,c5⟩:=x5.tc;have hblk:=rblk b5;have g3:=qAl 0 hblk rfl;have g4:=qAl 1 hblk rfl;have g5:=qAl 2 hblk rfl;have f3:=Lib.frozen_of_heap x5.b2 0;have f4:=Lib.frozen_of_heap x5.b2 1;have f5:=Lib.frozen_of_heap x5.b2 2;have HB:=Lib.hid x5.bel;clear x5 b5 hblk
     go_wp2_with fail
     exact bodyPost_ret (v:=.tuple #[.agg #[.bool false,.int .i64 0,.string ⟨#[]⟩],.int .i64 4]) (by simp[results,Tryz.results127,go_sem,c3,c4,c5]) rfl ⟨rfl,qB8 HB.out⟩
 · rw[no (fun h=>hc h.1)]
   have q1:(c != 0)=true:=by simpa using hc
   clear ok no hLl
   go_enter Tryz.func127,Tryz.ntmps127
   go_wp2_with fail
   refine(CM.out _).mono ?_;rintro en w1 ⟨rfl,b1⟩;have x1:=HB0.out.step b1;obtain⟨c1,c2,c3,c4,c5⟩:=x1.tc;have X1:=Lib.hid x1;clear x1 b1
   go_wp2_with fail
   refine(of_2 tn _).mono ?_;rintro en w2 ⟨a,b,rfl,hp,b2⟩;have x2:=X1.out.step b2;clear c1 c2 c3 c4 c5
   go_wp2_with fail
   refine(CI.out _ (HE.out.below x2.bel)).mono ?_;rintro en w3 ⟨rfl,b3⟩;have x3:=x2.step b3;obtain⟨c1,c2,c3,c4,c5⟩:=x3.tc;have bA:=rral w3 (.cells #[.bool true,.int .i64 0,.string ⟨#[]⟩] 43);have x4:=x3.step bA
   have X3:=Lib.hid x3;have X4:=Lib.hid x4;have hl3:=x3.lt
   obtain⟨a1,a2,a3,a4,a5⟩:=x4.tc
   have n1:w.heap.size<w3.heap.size:=by omega
   have n2:w.heap.size+1<w3.heap.size:=by omega
   clear x2 b2 b3 x3 x4 bA
   go_wp2_with fail
   refine(CT.out _ (HE.out.below X4.out.bel)).mono ?_;rintro en w5 ⟨rfl,b5⟩;have x5:=X4.out.step b5;clear c1 c2 c3 c4 c5 a1 a2 a3 a4 a5;obtain⟨c1,c2,c3,c4,c5⟩:=x5.tc;have hblk:=rblk b5;have g3:=qAl 0 hblk rfl;have g4:=qAl 1 hblk rfl;have g5:=qAl 2 hblk rfl;have f3:=Lib.frozen_of_heap x5.b2 0;have f4:=Lib.frozen_of_heap x5.b2 1;have f5:=Lib.frozen_of_heap x5.b2 2;have HB:=Lib.hid x5.bel;clear x5 b5 hblk
   go_wp2_with fail
   exact bodyPost_ret (v:=.tuple #[.agg #[.bool false,.int .i64 0,.string ⟨#[]⟩],.int .i64 4]) (by simp[results,Tryz.results127,go_sem,c3,c4,c5]) rfl ⟨rfl,qB8 HB.out⟩
set_option maxRecDepth 100000 in
set_option maxHeartbeats 4000000 in
theorem qRd (tn:Bool) (S:ByteArray) (w:World) (hs0:S.size≤20000) (hE:Env w) (hN:¬S.data.toList=qLd) :
    Calls Tryz.prog 127 #[.agg #[.int .i64 2,.bool tn],.string S] w fun e w'=>e=.returned (qE3 (qBg 2 tn S.data.toList))∧Below w.heap.size w w':=by
 have hs:S.size≤100000:=by omega
 have ci:=fun w' (hE:Env w')=>qSw S w' hs hE
 have cm:=fun w'=>qBr 2 tn w'
 rw[show kMay 2=true from rfl] at cm;have hrl:=qD5 2 S.data.toList;obtain⟨rn,hrn⟩:∃rn,(qBy 2 S.data.toList).1=rn:=⟨_,rfl⟩;obtain⟨rs,hrs⟩:∃rs,(qBy 2 S.data.toList).2=rs:=⟨_,rfl⟩;rw[hrn,hrs] at ci
 have hg:qBh 2 S.data.toList=(false,rn,rs):=by
  unfold qBh;rw[if_neg hN,hrn,hrs]
 rw[hrs,lenS] at hrl;have hls:(⟨rs.toArray⟩:ByteArray).size=rs.length:=List.size_toArray
 have ct:∀w',Env w'→Calls Tryz.prog 174 #[.agg #[.int .i64 2,.bool tn],.agg #[.bool false,.int .i64 rn,.string ⟨rs.toArray⟩]] w' fun e w''=>e=.returned (.tuple #[.string ⟨(qBk 2 tn false rn rs).toArray⟩,.int .i64 (qAt 2 tn false rn rs)])∧Below w'.heap.size w' w'':=fun w' (hE':Env w')=>qB6 2 tn false rn ⟨rs.toArray⟩ w' (by rw[hls];omega) hE'
 have ok:=qCq 2 tn S.data.toList rfl hg;have no:=qCr 2 tn S.data.toList rfl hg
 have e1:(S.toList==[110,117,108,108])=false:=by rw[Lib.toList_data];rw[beq_eq_false_iff_ne];exact hN
 have e2:¬S.toList=[110,117,108,108]:=by rw[Lib.toList_data];exact hN
 generalize qAt 2 tn false rn rs=c at *
 generalize qBk 2 tn false rn rs=L at *
 obtain⟨LB,hLB⟩:∃LB:ByteArray,(⟨L.toArray⟩:ByteArray)=LB:=⟨_,rfl⟩
 have hLl:LB.data.toList=L:=by rw[←hLB]
 rw[hLB] at ct;have b0:=Box2.start w #[.int .i64 2,.bool tn] #[.bool false,.int .i64 0,.string ⟨#[]⟩] 41 43;have kf:=qDg
 have HB0:=Lib.hid b0;have CI:=Lib.hid ci;have CM:=Lib.hid cm;have CT:=Lib.hid ct;have HE:=Lib.hid hE
 clear b0 ci cm ct hE hg hrn hrs hLB hrl hls
 by_cases hc:c=0
 · by_cases hL:L=S.data.toList
   · rw[ok hc hL];subst hc
     obtain rfl:LB=S:=by rw[qBt (s:=LB) rfl,hLl,hL]
     clear ok no hL hLl hN
     go_enter Tryz.func127,Tryz.ntmps127
     go_wp2_with fail
     refine(CM.out _).mono ?_;rintro en w1 ⟨rfl,b1⟩;have x1:=HB0.out.step b1;obtain⟨c1,c2,c3,c4,c5⟩:=x1.tc;have X1:=Lib.hid x1;clear x1 b1
     go_wp2_with fail
     refine(of_2 tn _).mono ?_;rintro en w2 ⟨a,b,rfl,hp,b2⟩;have x2:=X1.out.step b2;clear c1 c2 c3 c4 c5
     go_wp2_with fail
     refine(CI.out _ (HE.out.below x2.bel)).mono ?_;rintro en w3 ⟨rfl,b3⟩;have x3:=x2.step b3;obtain⟨c1,c2,c3,c4,c5⟩:=x3.tc;have bA:=rral w3 (.cells #[.bool false,.int .i64 rn,.string ⟨rs.toArray⟩] 43);have x4:=x3.step bA
     have X3:=Lib.hid x3;have X4:=Lib.hid x4;have hl3:=x3.lt
     obtain⟨a1,a2,a3,a4,a5⟩:=x4.tc
     have n1:w.heap.size<w3.heap.size:=by omega
     have n2:w.heap.size+1<w3.heap.size:=by omega
     clear x2 b2 b3 x3 x4 bA
     go_wp2_with fail
     refine(CT.out _ (HE.out.below X4.out.bel)).mono ?_;rintro en w5 ⟨rfl,b5⟩;have x5:=X4.out.step b5;clear c1 c2 c3 c4 c5 a1 a2 a3 a4 a5;obtain⟨c1,c2,c3,c4,c5⟩:=x5.tc;have hblk:=rblk b5;have g3:=qAl 0 hblk rfl;have g4:=qAl 1 hblk rfl;have g5:=qAl 2 hblk rfl;have f3:=Lib.frozen_of_heap x5.b2 0;have f4:=Lib.frozen_of_heap x5.b2 1;have f5:=Lib.frozen_of_heap x5.b2 2;have HB:=Lib.hid x5.bel;clear x5 b5 hblk
     go_wp2_with fail
     exact bodyPost_ret (v:=.tuple #[.agg #[.bool false,.int .i64 rn,.string ⟨rs.toArray⟩],.int .i64 0]) (by simp[results,Tryz.results127,go_sem,c3,c4,c5]) rfl ⟨rfl,qB8 HB.out⟩
   · rw[no (fun h=>hL h.2)];subst hc
     have q1:(LB.toList==S.toList)=false:=by rw[Lib.toList_data,Lib.toList_data,hLl];rw[beq_eq_false_iff_ne];exact hL
     have q2:¬LB.toList=S.toList:=by rw[Lib.toList_data,Lib.toList_data,hLl];exact hL
     clear ok no hL hLl hN
     go_enter Tryz.func127,Tryz.ntmps127
     go_wp2_with fail
     refine(CM.out _).mono ?_;rintro en w1 ⟨rfl,b1⟩;have x1:=HB0.out.step b1;obtain⟨c1,c2,c3,c4,c5⟩:=x1.tc;have X1:=Lib.hid x1;clear x1 b1
     go_wp2_with fail
     refine(of_2 tn _).mono ?_;rintro en w2 ⟨a,b,rfl,hp,b2⟩;have x2:=X1.out.step b2;clear c1 c2 c3 c4 c5
     go_wp2_with fail
     refine(CI.out _ (HE.out.below x2.bel)).mono ?_;rintro en w3 ⟨rfl,b3⟩;have x3:=x2.step b3;obtain⟨c1,c2,c3,c4,c5⟩:=x3.tc;have bA:=rral w3 (.cells #[.bool false,.int .i64 rn,.string ⟨rs.toArray⟩] 43);have x4:=x3.step bA
     have X3:=Lib.hid x3;have X4:=Lib.hid x4;have hl3:=x3.lt
     obtain⟨a1,a2,a3,a4,a5⟩:=x4.tc
     have n1:w.heap.size<w3.heap.size:=by omega
     have n2:w.heap.size+1<w3.heap.size:=by omega
     clear x2 b2 b3 x3 x4 bA
     go_wp2_with fail
     refine(CT.out _ (HE.out.below X4.out.bel)).mono ?_;rintro en w5 ⟨rfl,b5⟩;have x5:=X4.out.step b5;clear c1 c2 c3 c4 c5 a1 a2 a3 a4 a5;obtain⟨c1,c2,c3,c4,c5⟩:=x5.tc;have hblk:=rblk b5;have g3:=qAl 0 hblk rfl;have g4:=qAl 1 hblk rfl;have g5:=qAl 2 hblk rfl;have f3:=Lib.frozen_of_heap x5.b2 0;have f4:=Lib.frozen_of_heap x5.b2 1;have f5:=Lib.frozen_of_heap x5.b2 2;have HB:=Lib.hid x5.bel;clear x5 b5 hblk
     go_wp2_with fail
     exact bodyPost_ret (v:=.tuple #[.agg #[.bool false,.int .i64 0,.string ⟨#[]⟩],.int .i64 4]) (by simp[results,Tryz.results127,go_sem,c3,c4,c5]) rfl ⟨rfl,qB8 HB.out⟩
 · rw[no (fun h=>hc h.1)]
   have q1:(c != 0)=true:=by simpa using hc
   clear ok no hLl hN
   go_enter Tryz.func127,Tryz.ntmps127
   go_wp2_with fail
   refine(CM.out _).mono ?_;rintro en w1 ⟨rfl,b1⟩;have x1:=HB0.out.step b1;obtain⟨c1,c2,c3,c4,c5⟩:=x1.tc;have X1:=Lib.hid x1;clear x1 b1
   go_wp2_with fail
   refine(of_2 tn _).mono ?_;rintro en w2 ⟨a,b,rfl,hp,b2⟩;have x2:=X1.out.step b2;clear c1 c2 c3 c4 c5
   go_wp2_with fail
   refine(CI.out _ (HE.out.below x2.bel)).mono ?_;rintro en w3 ⟨rfl,b3⟩;have x3:=x2.step b3;obtain⟨c1,c2,c3,c4,c5⟩:=x3.tc;have bA:=rral w3 (.cells #[.bool false,.int .i64 rn,.string ⟨rs.toArray⟩] 43);have x4:=x3.step bA
   have X3:=Lib.hid x3;have X4:=Lib.hid x4;have hl3:=x3.lt
   obtain⟨a1,a2,a3,a4,a5⟩:=x4.tc
   have n1:w.heap.size<w3.heap.size:=by omega
   have n2:w.heap.size+1<w3.heap.size:=by omega
   clear x2 b2 b3 x3 x4 bA
   go_wp2_with fail
   refine(CT.out _ (HE.out.below X4.out.bel)).mono ?_;rintro en w5 ⟨rfl,b5⟩;have x5:=X4.out.step b5;clear c1 c2 c3 c4 c5 a1 a2 a3 a4 a5;obtain⟨c1,c2,c3,c4,c5⟩:=x5.tc;have hblk:=rblk b5;have g3:=qAl 0 hblk rfl;have g4:=qAl 1 hblk rfl;have g5:=qAl 2 hblk rfl;have f3:=Lib.frozen_of_heap x5.b2 0;have f4:=Lib.frozen_of_heap x5.b2 1;have f5:=Lib.frozen_of_heap x5.b2 2;have HB:=Lib.hid x5.bel;clear x5 b5 hblk
   go_wp2_with fail
   exact bodyPost_ret (v:=.tuple #[.agg #[.bool false,.int .i64 0,.string ⟨#[]⟩],.int .i64 4]) (by simp[results,Tryz.results127,go_sem,c3,c4,c5]) rfl ⟨rfl,qB8 HB.out⟩
set_option maxRecDepth 100000 in
set_option maxHeartbeats 4000000 in
theorem qRu (tn:Bool) (w:World) (hE:Env w) :
    Calls Tryz.prog 127 #[.agg #[.int .i64 3,.bool tn],.string (⟨#[110,117,108,108]⟩:ByteArray)] w fun e w'=>e=.returned (qE3 (qBg 3 tn (⟨#[110,117,108,108]⟩:ByteArray).data.toList))∧Below w.heap.size w w':=by
 have hs:(⟨#[110,117,108,108]⟩:ByteArray).size≤100000:=by decide
 have ci:=fun w' (hE:Env w')=>qSx (⟨#[110,117,108,108]⟩:ByteArray) w' hs hE
 have cm:=fun w'=>qBr 3 tn w'
 rw[show kMay 3=true from rfl] at cm;have hrl:=trivial;obtain⟨rn,hrn⟩:∃rn,(qBy 3 (⟨#[110,117,108,108]⟩:ByteArray).data.toList).1=rn:=⟨_,rfl⟩;obtain⟨rs,hrs⟩:∃rs,(qBy 3 (⟨#[110,117,108,108]⟩:ByteArray).data.toList).2=rs:=⟨_,rfl⟩;rw[hrn,hrs] at ci
 have hg:qBh 3 (⟨#[110,117,108,108]⟩:ByteArray).data.toList=(true,0,[]):=by
  unfold qBh;exact if_pos rfl
 have ct:∀w',Env w'→Calls Tryz.prog 174 #[.agg #[.int .i64 3,.bool tn],.agg #[.bool true,.int .i64 0,.string ⟨#[]⟩]] w' fun e w''=>e=.returned (.tuple #[.string ⟨(qBk 3 tn true 0 []).toArray⟩,.int .i64 (qAt 3 tn true 0 [])])∧Below w'.heap.size w' w'':=fun w' (hE':Env w')=>qB6 3 tn true 0 ⟨#[]⟩ w' (by decide) hE'
 have ok:=qCq 3 tn (⟨#[110,117,108,108]⟩:ByteArray).data.toList rfl hg;have no:=qCr 3 tn (⟨#[110,117,108,108]⟩:ByteArray).data.toList rfl hg
 generalize qAt 3 tn true 0 []=c at *
 generalize qBk 3 tn true 0 []=L at *
 obtain⟨LB,hLB⟩:∃LB:ByteArray,(⟨L.toArray⟩:ByteArray)=LB:=⟨_,rfl⟩
 have hLl:LB.data.toList=L:=by rw[←hLB]
 rw[hLB] at ct;have b0:=Box2.start w #[.int .i64 3,.bool tn] #[.bool false,.int .i64 0,.string ⟨#[]⟩] 41 43;have kf:=qDg
 have HB0:=Lib.hid b0;have CI:=Lib.hid ci;have CM:=Lib.hid cm;have CT:=Lib.hid ct;have HE:=Lib.hid hE
 clear b0 ci cm ct hE hg hrn hrs hLB hrl
 by_cases hc:c=0
 · by_cases hL:L=(⟨#[110,117,108,108]⟩:ByteArray).data.toList
   · rw[ok hc hL];subst hc
     obtain rfl:LB=(⟨#[110,117,108,108]⟩:ByteArray):=by rw[qBt (s:=LB) rfl,hLl,hL]
     clear ok no hL hLl
     go_enter Tryz.func127,Tryz.ntmps127
     go_wp2_with fail
     refine(CM.out _).mono ?_;rintro en w1 ⟨rfl,b1⟩;have x1:=HB0.out.step b1;obtain⟨c1,c2,c3,c4,c5⟩:=x1.tc;have X1:=Lib.hid x1;clear x1 b1
     go_wp2_with fail
     refine(of_3 tn _).mono ?_;rintro en w2 ⟨a,b,rfl,hp,b2⟩;have x2:=X1.out.step b2;clear c1 c2 c3 c4 c5
     go_wp2_with fail
     refine(CI.out _ (HE.out.below x2.bel)).mono ?_;rintro en w3 ⟨rfl,b3⟩;have x3:=x2.step b3;obtain⟨c1,c2,c3,c4,c5⟩:=x3.tc;have bA:=rral w3 (.cells #[.bool true,.int .i64 0,.string ⟨#[]⟩] 43);have x4:=x3.step bA
     have X3:=Lib.hid x3;have X4:=Lib.hid x4;have hl3:=x3.lt
     obtain⟨a1,a2,a3,a4,a5⟩:=x4.tc
     have n1:w.heap.size<w3.heap.size:=by omega
     have n2:w.heap.size+1<w3.heap.size:=by omega
     clear x2 b2 b3 x3 x4 bA
     go_wp2_with fail
     refine(CT.out _ (HE.out.below X4.out.bel)).mono ?_;rintro en w5 ⟨rfl,b5⟩;have x5:=X4.out.step b5;clear c1 c2 c3 c4 c5 a1 a2 a3 a4 a5;obtain⟨c1,c2,c3,c4,c5⟩:=x5.tc;have hblk:=rblk b5;have g3:=qAl 0 hblk rfl;have g4:=qAl 1 hblk rfl;have g5:=qAl 2 hblk rfl;have f3:=Lib.frozen_of_heap x5.b2 0;have f4:=Lib.frozen_of_heap x5.b2 1;have f5:=Lib.frozen_of_heap x5.b2 2;have HB:=Lib.hid x5.bel;clear x5 b5 hblk
     go_wp2_with fail
     exact bodyPost_ret (v:=.tuple #[.agg #[.bool true,.int .i64 0,.string ⟨#[]⟩],.int .i64 0]) (by simp[results,Tryz.results127,go_sem,c3,c4,c5]) rfl ⟨rfl,qB8 HB.out⟩
   · rw[no (fun h=>hL h.2)];subst hc
     have q1:(LB.toList==(⟨#[110,117,108,108]⟩:ByteArray).toList)=false:=by rw[Lib.toList_data,Lib.toList_data,hLl];rw[beq_eq_false_iff_ne];exact hL
     have q2:¬LB.toList=(⟨#[110,117,108,108]⟩:ByteArray).toList:=by rw[Lib.toList_data,Lib.toList_data,hLl];exact hL
     have q3:(LB.toList==[110,117,108,108])=false:=by rw[Lib.toList_data,hLl];rw[beq_eq_false_iff_ne];exact hL
     clear ok no hL hLl
     go_enter Tryz.func127,Tryz.ntmps127
     go_wp2_with fail
     refine(CM.out _).mono ?_;rintro en w1 ⟨rfl,b1⟩;have x1:=HB0.out.step b1;obtain⟨c1,c2,c3,c4,c5⟩:=x1.tc;have X1:=Lib.hid x1;clear x1 b1
     go_wp2_with fail
     refine(of_3 tn _).mono ?_;rintro en w2 ⟨a,b,rfl,hp,b2⟩;have x2:=X1.out.step b2;clear c1 c2 c3 c4 c5
     go_wp2_with fail
     refine(CI.out _ (HE.out.below x2.bel)).mono ?_;rintro en w3 ⟨rfl,b3⟩;have x3:=x2.step b3;obtain⟨c1,c2,c3,c4,c5⟩:=x3.tc;have bA:=rral w3 (.cells #[.bool true,.int .i64 0,.string ⟨#[]⟩] 43);have x4:=x3.step bA
     have X3:=Lib.hid x3;have X4:=Lib.hid x4;have hl3:=x3.lt
     obtain⟨a1,a2,a3,a4,a5⟩:=x4.tc
     have n1:w.heap.size<w3.heap.size:=by omega
     have n2:w.heap.size+1<w3.heap.size:=by omega
     clear x2 b2 b3 x3 x4 bA
     go_wp2_with fail
     refine(CT.out _ (HE.out.below X4.out.bel)).mono ?_;rintro en w5 ⟨rfl,b5⟩;have x5:=X4.out.step b5;clear c1 c2 c3 c4 c5 a1 a2 a3 a4 a5;obtain⟨c1,c2,c3,c4,c5⟩:=x5.tc;have hblk:=rblk b5;have g3:=qAl 0 hblk rfl;have g4:=qAl 1 hblk rfl;have g5:=qAl 2 hblk rfl;have f3:=Lib.frozen_of_heap x5.b2 0;have f4:=Lib.frozen_of_heap x5.b2 1;have f5:=Lib.frozen_of_heap x5.b2 2;have HB:=Lib.hid x5.bel;clear x5 b5 hblk
     go_wp2_with fail
     exact bodyPost_ret (v:=.tuple #[.agg #[.bool false,.int .i64 0,.string ⟨#[]⟩],.int .i64 4]) (by simp[results,Tryz.results127,go_sem,c3,c4,c5]) rfl ⟨rfl,qB8 HB.out⟩
 · rw[no (fun h=>hc h.1)]
   have q1:(c != 0)=true:=by simpa using hc
   clear ok no hLl
   go_enter Tryz.func127,Tryz.ntmps127
   go_wp2_with fail
   refine(CM.out _).mono ?_;rintro en w1 ⟨rfl,b1⟩;have x1:=HB0.out.step b1;obtain⟨c1,c2,c3,c4,c5⟩:=x1.tc;have X1:=Lib.hid x1;clear x1 b1
   go_wp2_with fail
   refine(of_3 tn _).mono ?_;rintro en w2 ⟨a,b,rfl,hp,b2⟩;have x2:=X1.out.step b2;clear c1 c2 c3 c4 c5
   go_wp2_with fail
   refine(CI.out _ (HE.out.below x2.bel)).mono ?_;rintro en w3 ⟨rfl,b3⟩;have x3:=x2.step b3;obtain⟨c1,c2,c3,c4,c5⟩:=x3.tc;have bA:=rral w3 (.cells #[.bool true,.int .i64 0,.string ⟨#[]⟩] 43);have x4:=x3.step bA
   have X3:=Lib.hid x3;have X4:=Lib.hid x4;have hl3:=x3.lt
   obtain⟨a1,a2,a3,a4,a5⟩:=x4.tc
   have n1:w.heap.size<w3.heap.size:=by omega
   have n2:w.heap.size+1<w3.heap.size:=by omega
   clear x2 b2 b3 x3 x4 bA
   go_wp2_with fail
   refine(CT.out _ (HE.out.below X4.out.bel)).mono ?_;rintro en w5 ⟨rfl,b5⟩;have x5:=X4.out.step b5;clear c1 c2 c3 c4 c5 a1 a2 a3 a4 a5;obtain⟨c1,c2,c3,c4,c5⟩:=x5.tc;have hblk:=rblk b5;have g3:=qAl 0 hblk rfl;have g4:=qAl 1 hblk rfl;have g5:=qAl 2 hblk rfl;have f3:=Lib.frozen_of_heap x5.b2 0;have f4:=Lib.frozen_of_heap x5.b2 1;have f5:=Lib.frozen_of_heap x5.b2 2;have HB:=Lib.hid x5.bel;clear x5 b5 hblk
   go_wp2_with fail
   exact bodyPost_ret (v:=.tuple #[.agg #[.bool false,.int .i64 0,.string ⟨#[]⟩],.int .i64 4]) (by simp[results,Tryz.results127,go_sem,c3,c4,c5]) rfl ⟨rfl,qB8 HB.out⟩
set_option maxRecDepth 100000 in
set_option maxHeartbeats 4000000 in
theorem qQx (tn:Bool) (S:ByteArray) (w:World) (hs0:S.size≤20000) (hE:Env w) (hN:¬S.data.toList=qLd) :
    Calls Tryz.prog 127 #[.agg #[.int .i64 3,.bool tn],.string S] w fun e w'=>e=.returned (qE3 (qBg 3 tn S.data.toList))∧Below w.heap.size w w':=by
 have hs:S.size≤100000:=by omega
 have ci:=fun w' (hE:Env w')=>qSx S w' hs hE
 have cm:=fun w'=>qBr 3 tn w'
 rw[show kMay 3=true from rfl] at cm;have hrl:=qD5 3 S.data.toList;obtain⟨rn,hrn⟩:∃rn,(qBy 3 S.data.toList).1=rn:=⟨_,rfl⟩;obtain⟨rs,hrs⟩:∃rs,(qBy 3 S.data.toList).2=rs:=⟨_,rfl⟩;rw[hrn,hrs] at ci
 have hg:qBh 3 S.data.toList=(false,rn,rs):=by
  unfold qBh;rw[if_neg hN,hrn,hrs]
 rw[hrs,lenS] at hrl;have hls:(⟨rs.toArray⟩:ByteArray).size=rs.length:=List.size_toArray
 have ct:∀w',Env w'→Calls Tryz.prog 174 #[.agg #[.int .i64 3,.bool tn],.agg #[.bool false,.int .i64 rn,.string ⟨rs.toArray⟩]] w' fun e w''=>e=.returned (.tuple #[.string ⟨(qBk 3 tn false rn rs).toArray⟩,.int .i64 (qAt 3 tn false rn rs)])∧Below w'.heap.size w' w'':=fun w' (hE':Env w')=>qB6 3 tn false rn ⟨rs.toArray⟩ w' (by rw[hls];omega) hE'
 have ok:=qCq 3 tn S.data.toList rfl hg;have no:=qCr 3 tn S.data.toList rfl hg
 have e1:(S.toList==[110,117,108,108])=false:=by rw[Lib.toList_data];rw[beq_eq_false_iff_ne];exact hN
 have e2:¬S.toList=[110,117,108,108]:=by rw[Lib.toList_data];exact hN
 generalize qAt 3 tn false rn rs=c at *
 generalize qBk 3 tn false rn rs=L at *
 obtain⟨LB,hLB⟩:∃LB:ByteArray,(⟨L.toArray⟩:ByteArray)=LB:=⟨_,rfl⟩
 have hLl:LB.data.toList=L:=by rw[←hLB]
 rw[hLB] at ct;have b0:=Box2.start w #[.int .i64 3,.bool tn] #[.bool false,.int .i64 0,.string ⟨#[]⟩] 41 43;have kf:=qDg
 have HB0:=Lib.hid b0;have CI:=Lib.hid ci;have CM:=Lib.hid cm;have CT:=Lib.hid ct;have HE:=Lib.hid hE
 clear b0 ci cm ct hE hg hrn hrs hLB hrl hls
 by_cases hc:c=0
 · by_cases hL:L=S.data.toList
   · rw[ok hc hL];subst hc
     obtain rfl:LB=S:=by rw[qBt (s:=LB) rfl,hLl,hL]
     clear ok no hL hLl hN
     go_enter Tryz.func127,Tryz.ntmps127
     go_wp2_with fail
     refine(CM.out _).mono ?_;rintro en w1 ⟨rfl,b1⟩;have x1:=HB0.out.step b1;obtain⟨c1,c2,c3,c4,c5⟩:=x1.tc;have X1:=Lib.hid x1;clear x1 b1
     go_wp2_with fail
     refine(of_3 tn _).mono ?_;rintro en w2 ⟨a,b,rfl,hp,b2⟩;have x2:=X1.out.step b2;clear c1 c2 c3 c4 c5
     go_wp2_with fail
     refine(CI.out _ (HE.out.below x2.bel)).mono ?_;rintro en w3 ⟨rfl,b3⟩;have x3:=x2.step b3;obtain⟨c1,c2,c3,c4,c5⟩:=x3.tc;have bA:=rral w3 (.cells #[.bool false,.int .i64 rn,.string ⟨rs.toArray⟩] 43);have x4:=x3.step bA
     have X3:=Lib.hid x3;have X4:=Lib.hid x4;have hl3:=x3.lt
     obtain⟨a1,a2,a3,a4,a5⟩:=x4.tc
     have n1:w.heap.size<w3.heap.size:=by omega
     have n2:w.heap.size+1<w3.heap.size:=by omega
     clear x2 b2 b3 x3 x4 bA
     go_wp2_with fail
     refine(CT.out _ (HE.out.below X4.out.bel)).mono ?_;rintro en w5 ⟨rfl,b5⟩;have x5:=X4.out.step b5;clear c1 c2 c3 c4 c5 a1 a2 a3 a4 a5;obtain⟨c1,c2,c3,c4,c5⟩:=x5.tc;have hblk:=rblk b5;have g3:=qAl 0 hblk rfl;have g4:=qAl 1 hblk rfl;have g5:=qAl 2 hblk rfl;have f3:=Lib.frozen_of_heap x5.b2 0;have f4:=Lib.frozen_of_heap x5.b2 1;have f5:=Lib.frozen_of_heap x5.b2 2;have HB:=Lib.hid x5.bel;clear x5 b5 hblk
     go_wp2_with fail
     exact bodyPost_ret (v:=.tuple #[.agg #[.bool false,.int .i64 rn,.string ⟨rs.toArray⟩],.int .i64 0]) (by simp[results,Tryz.results127,go_sem,c3,c4,c5]) rfl ⟨rfl,qB8 HB.out⟩
   · rw[no (fun h=>hL h.2)];subst hc
     have q1:(LB.toList==S.toList)=false:=by rw[Lib.toList_data,Lib.toList_data,hLl];rw[beq_eq_false_iff_ne];exact hL
     have q2:¬LB.toList=S.toList:=by rw[Lib.toList_data,Lib.toList_data,hLl];exact hL
     clear ok no hL hLl hN
     go_enter Tryz.func127,Tryz.ntmps127
     go_wp2_with fail
     refine(CM.out _).mono ?_;rintro en w1 ⟨rfl,b1⟩;have x1:=HB0.out.step b1;obtain⟨c1,c2,c3,c4,c5⟩:=x1.tc;have X1:=Lib.hid x1;clear x1 b1
     go_wp2_with fail
     refine(of_3 tn _).mono ?_;rintro en w2 ⟨a,b,rfl,hp,b2⟩;have x2:=X1.out.step b2;clear c1 c2 c3 c4 c5
     go_wp2_with fail
     refine(CI.out _ (HE.out.below x2.bel)).mono ?_;rintro en w3 ⟨rfl,b3⟩;have x3:=x2.step b3;obtain⟨c1,c2,c3,c4,c5⟩:=x3.tc;have bA:=rral w3 (.cells #[.bool false,.int .i64 rn,.string ⟨rs.toArray⟩] 43);have x4:=x3.step bA
     have X3:=Lib.hid x3;have X4:=Lib.hid x4;have hl3:=x3.lt
     obtain⟨a1,a2,a3,a4,a5⟩:=x4.tc
     have n1:w.heap.size<w3.heap.size:=by omega
     have n2:w.heap.size+1<w3.heap.size:=by omega
     clear x2 b2 b3 x3 x4 bA
     go_wp2_with fail
     refine(CT.out _ (HE.out.below X4.out.bel)).mono ?_;rintro en w5 ⟨rfl,b5⟩;have x5:=X4.out.step b5;clear c1 c2 c3 c4 c5 a1 a2 a3 a4 a5;obtain⟨c1,c2,c3,c4,c5⟩:=x5.tc;have hblk:=rblk b5;have g3:=qAl 0 hblk rfl;have g4:=qAl 1 hblk rfl;have g5:=qAl 2 hblk rfl;have f3:=Lib.frozen_of_heap x5.b2 0;have f4:=Lib.frozen_of_heap x5.b2 1;have f5:=Lib.frozen_of_heap x5.b2 2;have HB:=Lib.hid x5.bel;clear x5 b5 hblk
     go_wp2_with fail
     exact bodyPost_ret (v:=.tuple #[.agg #[.bool false,.int .i64 0,.string ⟨#[]⟩],.int .i64 4]) (by simp[results,Tryz.results127,go_sem,c3,c4,c5]) rfl ⟨rfl,qB8 HB.out⟩
 · rw[no (fun h=>hc h.1)]
   have q1:(c != 0)=true:=by simpa using hc
   clear ok no hLl hN
   go_enter Tryz.func127,Tryz.ntmps127
   go_wp2_with fail
   refine(CM.out _).mono ?_;rintro en w1 ⟨rfl,b1⟩;have x1:=HB0.out.step b1;obtain⟨c1,c2,c3,c4,c5⟩:=x1.tc;have X1:=Lib.hid x1;clear x1 b1
   go_wp2_with fail
   refine(of_3 tn _).mono ?_;rintro en w2 ⟨a,b,rfl,hp,b2⟩;have x2:=X1.out.step b2;clear c1 c2 c3 c4 c5
   go_wp2_with fail
   refine(CI.out _ (HE.out.below x2.bel)).mono ?_;rintro en w3 ⟨rfl,b3⟩;have x3:=x2.step b3;obtain⟨c1,c2,c3,c4,c5⟩:=x3.tc;have bA:=rral w3 (.cells #[.bool false,.int .i64 rn,.string ⟨rs.toArray⟩] 43);have x4:=x3.step bA
   have X3:=Lib.hid x3;have X4:=Lib.hid x4;have hl3:=x3.lt
   obtain⟨a1,a2,a3,a4,a5⟩:=x4.tc
   have n1:w.heap.size<w3.heap.size:=by omega
   have n2:w.heap.size+1<w3.heap.size:=by omega
   clear x2 b2 b3 x3 x4 bA
   go_wp2_with fail
   refine(CT.out _ (HE.out.below X4.out.bel)).mono ?_;rintro en w5 ⟨rfl,b5⟩;have x5:=X4.out.step b5;clear c1 c2 c3 c4 c5 a1 a2 a3 a4 a5;obtain⟨c1,c2,c3,c4,c5⟩:=x5.tc;have hblk:=rblk b5;have g3:=qAl 0 hblk rfl;have g4:=qAl 1 hblk rfl;have g5:=qAl 2 hblk rfl;have f3:=Lib.frozen_of_heap x5.b2 0;have f4:=Lib.frozen_of_heap x5.b2 1;have f5:=Lib.frozen_of_heap x5.b2 2;have HB:=Lib.hid x5.bel;clear x5 b5 hblk
   go_wp2_with fail
   exact bodyPost_ret (v:=.tuple #[.agg #[.bool false,.int .i64 0,.string ⟨#[]⟩],.int .i64 4]) (by simp[results,Tryz.results127,go_sem,c3,c4,c5]) rfl ⟨rfl,qB8 HB.out⟩
set_option maxRecDepth 100000 in
set_option maxHeartbeats 4000000 in
theorem qQ4 (tn:Bool) (w:World) (hE:Env w) :
    Calls Tryz.prog 127 #[.agg #[.int .i64 4,.bool tn],.string (⟨#[110,117,108,108]⟩:ByteArray)] w fun e w'=>e=.returned (qE3 (qBg 4 tn (⟨#[110,117,108,108]⟩:ByteArray).data.toList))∧Below w.heap.size w w':=by
 have hs:(⟨#[110,117,108,108]⟩:ByteArray).size≤100000:=by decide
 have ci:=fun w' (hE:Env w')=>qS0 (⟨#[110,117,108,108]⟩:ByteArray) w' hs hE
 have cm:=fun w'=>qBr 4 tn w'
 rw[show kMay 4=true from rfl] at cm;have hrl:=trivial;obtain⟨rn,hrn⟩:∃rn,(qBy 4 (⟨#[110,117,108,108]⟩:ByteArray).data.toList).1=rn:=⟨_,rfl⟩;obtain⟨rs,hrs⟩:∃rs,(qBy 4 (⟨#[110,117,108,108]⟩:ByteArray).data.toList).2=rs:=⟨_,rfl⟩;rw[hrn,hrs] at ci
 have hg:qBh 4 (⟨#[110,117,108,108]⟩:ByteArray).data.toList=(true,0,[]):=by
  unfold qBh;exact if_pos rfl
 have ct:∀w',Env w'→Calls Tryz.prog 174 #[.agg #[.int .i64 4,.bool tn],.agg #[.bool true,.int .i64 0,.string ⟨#[]⟩]] w' fun e w''=>e=.returned (.tuple #[.string ⟨(qBk 4 tn true 0 []).toArray⟩,.int .i64 (qAt 4 tn true 0 [])])∧Below w'.heap.size w' w'':=fun w' (hE':Env w')=>qB6 4 tn true 0 ⟨#[]⟩ w' (by decide) hE'
 have ok:=qCq 4 tn (⟨#[110,117,108,108]⟩:ByteArray).data.toList rfl hg;have no:=qCr 4 tn (⟨#[110,117,108,108]⟩:ByteArray).data.toList rfl hg
 generalize qAt 4 tn true 0 []=c at *
 generalize qBk 4 tn true 0 []=L at *
 obtain⟨LB,hLB⟩:∃LB:ByteArray,(⟨L.toArray⟩:ByteArray)=LB:=⟨_,rfl⟩
 have hLl:LB.data.toList=L:=by rw[←hLB]
 rw[hLB] at ct;have b0:=Box2.start w #[.int .i64 4,.bool tn] #[.bool false,.int .i64 0,.string ⟨#[]⟩] 41 43;have kf:=qDg
 have HB0:=Lib.hid b0;have CI:=Lib.hid ci;have CM:=Lib.hid cm;have CT:=Lib.hid ct;have HE:=Lib.hid hE
 clear b0 ci cm ct hE hg hrn hrs hLB hrl
 by_cases hc:c=0
 · by_cases hL:L=(⟨#[110,117,108,108]⟩:ByteArray).data.toList
   · rw[ok hc hL];subst hc
     obtain rfl:LB=(⟨#[110,117,108,108]⟩:ByteArray):=by rw[qBt (s:=LB) rfl,hLl,hL]
     clear ok no hL hLl
     go_enter Tryz.func127,Tryz.ntmps127
     go_wp2_with fail
     refine(CM.out _).mono ?_;rintro en w1 ⟨rfl,b1⟩;have x1:=HB0.out.step b1;obtain⟨c1,c2,c3,c4,c5⟩:=x1.tc;have X1:=Lib.hid x1;clear x1 b1
     go_wp2_with fail
     refine(of_4 tn _).mono ?_;rintro en w2 ⟨a,rfl,hp,b2⟩;have x2:=X1.out.step b2;clear c1 c2 c3 c4 c5
     go_wp2_with fail
     refine(CI.out _ (HE.out.below x2.bel)).mono ?_;rintro en w3 ⟨rfl,b3⟩;have x3:=x2.step b3;obtain⟨c1,c2,c3,c4,c5⟩:=x3.tc;have bA:=rral w3 (.cells #[.bool true,.int .i64 0,.string ⟨#[]⟩] 43);have x4:=x3.step bA
     have X3:=Lib.hid x3;have X4:=Lib.hid x4;have hl3:=x3.lt
     obtain⟨a1,a2,a3,a4,a5⟩:=x4.tc
     have n1:w.heap.size<w3.heap.size:=by omega
     have n2:w.heap.size+1<w3.heap.size:=by omega
     clear x2 b2 b3 x3 x4 bA
     go_wp2_with fail
     refine(CT.out _ (HE.out.below X4.out.bel)).mono ?_;rintro en w5 ⟨rfl,b5⟩;have x5:=X4.out.step b5;clear c1 c2 c3 c4 c5 a1 a2 a3 a4 a5;obtain⟨c1,c2,c3,c4,c5⟩:=x5.tc;have hblk:=rblk b5;have g3:=qAl 0 hblk rfl;have g4:=qAl 1 hblk rfl;have g5:=qAl 2 hblk rfl;have f3:=Lib.frozen_of_heap x5.b2 0;have f4:=Lib.frozen_of_heap x5.b2 1;have f5:=Lib.frozen_of_heap x5.b2 2;have HB:=Lib.hid x5.bel;clear x5 b5 hblk
     go_wp2_with fail
     exact bodyPost_ret (v:=.tuple #[.agg #[.bool true,.int .i64 0,.string ⟨#[]⟩],.int .i64 0]) (by simp[results,Tryz.results127,go_sem,c3,c4,c5]) rfl ⟨rfl,qB8 HB.out⟩
   · rw[no (fun h=>hL h.2)];subst hc
     have q1:(LB.toList==(⟨#[110,117,108,108]⟩:ByteArray).toList)=false:=by rw[Lib.toList_data,Lib.toList_data,hLl];rw[beq_eq_false_iff_ne];exact hL
     have q2:¬LB.toList=(⟨#[110,117,108,108]⟩:ByteArray).toList:=by rw[Lib.toList_data,Lib.toList_data,hLl];exact hL
     have q3:(LB.toList==[110,117,108,108])=false:=by rw[Lib.toList_data,hLl];rw[beq_eq_false_iff_ne];exact hL
     clear ok no hL hLl
     go_enter Tryz.func127,Tryz.ntmps127
     go_wp2_with fail
     refine(CM.out _).mono ?_;rintro en w1 ⟨rfl,b1⟩;have x1:=HB0.out.step b1;obtain⟨c1,c2,c3,c4,c5⟩:=x1.tc;have X1:=Lib.hid x1;clear x1 b1
     go_wp2_with fail
     refine(of_4 tn _).mono ?_;rintro en w2 ⟨a,rfl,hp,b2⟩;have x2:=X1.out.step b2;clear c1 c2 c3 c4 c5
     go_wp2_with fail
     refine(CI.out _ (HE.out.below x2.bel)).mono ?_;rintro en w3 ⟨rfl,b3⟩;have x3:=x2.step b3;obtain⟨c1,c2,c3,c4,c5⟩:=x3.tc;have bA:=rral w3 (.cells #[.bool true,.int .i64 0,.string ⟨#[]⟩] 43);have x4:=x3.step bA
     have X3:=Lib.hid x3;have X4:=Lib.hid x4;have hl3:=x3.lt
     obtain⟨a1,a2,a3,a4,a5⟩:=x4.tc
     have n1:w.heap.size<w3.heap.size:=by omega
     have n2:w.heap.size+1<w3.heap.size:=by omega
     clear x2 b2 b3 x3 x4 bA
     go_wp2_with fail
     refine(CT.out _ (HE.out.below X4.out.bel)).mono ?_;rintro en w5 ⟨rfl,b5⟩;have x5:=X4.out.step b5;clear c1 c2 c3 c4 c5 a1 a2 a3 a4 a5;obtain⟨c1,c2,c3,c4,c5⟩:=x5.tc;have hblk:=rblk b5;have g3:=qAl 0 hblk rfl;have g4:=qAl 1 hblk rfl;have g5:=qAl 2 hblk rfl;have f3:=Lib.frozen_of_heap x5.b2 0;have f4:=Lib.frozen_of_heap x5.b2 1;have f5:=Lib.frozen_of_heap x5.b2 2;have HB:=Lib.hid x5.bel;clear x5 b5 hblk
     go_wp2_with fail
     exact bodyPost_ret (v:=.tuple #[.agg #[.bool false,.int .i64 0,.string ⟨#[]⟩],.int .i64 4]) (by simp[results,Tryz.results127,go_sem,c3,c4,c5]) rfl ⟨rfl,qB8 HB.out⟩
 · rw[no (fun h=>hc h.1)]
   have q1:(c != 0)=true:=by simpa using hc
   clear ok no hLl
   go_enter Tryz.func127,Tryz.ntmps127
   go_wp2_with fail
   refine(CM.out _).mono ?_;rintro en w1 ⟨rfl,b1⟩;have x1:=HB0.out.step b1;obtain⟨c1,c2,c3,c4,c5⟩:=x1.tc;have X1:=Lib.hid x1;clear x1 b1
   go_wp2_with fail
   refine(of_4 tn _).mono ?_;rintro en w2 ⟨a,rfl,hp,b2⟩;have x2:=X1.out.step b2;clear c1 c2 c3 c4 c5
   go_wp2_with fail
   refine(CI.out _ (HE.out.below x2.bel)).mono ?_;rintro en w3 ⟨rfl,b3⟩;have x3:=x2.step b3;obtain⟨c1,c2,c3,c4,c5⟩:=x3.tc;have bA:=rral w3 (.cells #[.bool true,.int .i64 0,.string ⟨#[]⟩] 43);have x4:=x3.step bA
   have X3:=Lib.hid x3;have X4:=Lib.hid x4;have hl3:=x3.lt
   obtain⟨a1,a2,a3,a4,a5⟩:=x4.tc
   have n1:w.heap.size<w3.heap.size:=by omega
   have n2:w.heap.size+1<w3.heap.size:=by omega
   clear x2 b2 b3 x3 x4 bA
   go_wp2_with fail
   refine(CT.out _ (HE.out.below X4.out.bel)).mono ?_;rintro en w5 ⟨rfl,b5⟩;have x5:=X4.out.step b5;clear c1 c2 c3 c4 c5 a1 a2 a3 a4 a5;obtain⟨c1,c2,c3,c4,c5⟩:=x5.tc;have hblk:=rblk b5;have g3:=qAl 0 hblk rfl;have g4:=qAl 1 hblk rfl;have g5:=qAl 2 hblk rfl;have f3:=Lib.frozen_of_heap x5.b2 0;have f4:=Lib.frozen_of_heap x5.b2 1;have f5:=Lib.frozen_of_heap x5.b2 2;have HB:=Lib.hid x5.bel;clear x5 b5 hblk
   go_wp2_with fail
   exact bodyPost_ret (v:=.tuple #[.agg #[.bool false,.int .i64 0,.string ⟨#[]⟩],.int .i64 4]) (by simp[results,Tryz.results127,go_sem,c3,c4,c5]) rfl ⟨rfl,qB8 HB.out⟩
set_option maxRecDepth 100000 in
set_option maxHeartbeats 4000000 in
theorem qQ2 (tn:Bool) (S:ByteArray) (w:World) (hs0:S.size≤20000) (hE:Env w) (hN:¬S.data.toList=qLd) :
    Calls Tryz.prog 127 #[.agg #[.int .i64 4,.bool tn],.string S] w fun e w'=>e=.returned (qE3 (qBg 4 tn S.data.toList))∧Below w.heap.size w w':=by
 have hs:S.size≤100000:=by omega
 have ci:=fun w' (hE:Env w')=>qS0 S w' hs hE
 have cm:=fun w'=>qBr 4 tn w'
 rw[show kMay 4=true from rfl] at cm;have hrl:=qD5 4 S.data.toList;obtain⟨rn,hrn⟩:∃rn,(qBy 4 S.data.toList).1=rn:=⟨_,rfl⟩;obtain⟨rs,hrs⟩:∃rs,(qBy 4 S.data.toList).2=rs:=⟨_,rfl⟩;rw[hrn,hrs] at ci
 have hg:qBh 4 S.data.toList=(false,rn,rs):=by
  unfold qBh;rw[if_neg hN,hrn,hrs]
 rw[hrs,lenS] at hrl;have hls:(⟨rs.toArray⟩:ByteArray).size=rs.length:=List.size_toArray
 have ct:∀w',Env w'→Calls Tryz.prog 174 #[.agg #[.int .i64 4,.bool tn],.agg #[.bool false,.int .i64 rn,.string ⟨rs.toArray⟩]] w' fun e w''=>e=.returned (.tuple #[.string ⟨(qBk 4 tn false rn rs).toArray⟩,.int .i64 (qAt 4 tn false rn rs)])∧Below w'.heap.size w' w'':=fun w' (hE':Env w')=>qB6 4 tn false rn ⟨rs.toArray⟩ w' (by rw[hls];omega) hE'
 have ok:=qCq 4 tn S.data.toList rfl hg;have no:=qCr 4 tn S.data.toList rfl hg
 have e1:(S.toList==[110,117,108,108])=false:=by rw[Lib.toList_data];rw[beq_eq_false_iff_ne];exact hN
 have e2:¬S.toList=[110,117,108,108]:=by rw[Lib.toList_data];exact hN
 generalize qAt 4 tn false rn rs=c at *
 generalize qBk 4 tn false rn rs=L at *
 obtain⟨LB,hLB⟩:∃LB:ByteArray,(⟨L.toArray⟩:ByteArray)=LB:=⟨_,rfl⟩
 have hLl:LB.data.toList=L:=by rw[←hLB]
 rw[hLB] at ct;have b0:=Box2.start w #[.int .i64 4,.bool tn] #[.bool false,.int .i64 0,.string ⟨#[]⟩] 41 43;have kf:=qDg
 have HB0:=Lib.hid b0;have CI:=Lib.hid ci;have CM:=Lib.hid cm;have CT:=Lib.hid ct;have HE:=Lib.hid hE
 clear b0 ci cm ct hE hg hrn hrs hLB hrl hls
 by_cases hc:c=0
 · by_cases hL:L=S.data.toList
   · rw[ok hc hL];subst hc
     obtain rfl:LB=S:=by rw[qBt (s:=LB) rfl,hLl,hL]
     clear ok no hL hLl hN
     go_enter Tryz.func127,Tryz.ntmps127
     go_wp2_with fail
     refine(CM.out _).mono ?_;rintro en w1 ⟨rfl,b1⟩;have x1:=HB0.out.step b1;obtain⟨c1,c2,c3,c4,c5⟩:=x1.tc;have X1:=Lib.hid x1;clear x1 b1
     go_wp2_with fail
     refine(of_4 tn _).mono ?_;rintro en w2 ⟨a,rfl,hp,b2⟩;have x2:=X1.out.step b2;clear c1 c2 c3 c4 c5
     go_wp2_with fail
     refine(CI.out _ (HE.out.below x2.bel)).mono ?_;rintro en w3 ⟨rfl,b3⟩;have x3:=x2.step b3;obtain⟨c1,c2,c3,c4,c5⟩:=x3.tc;have bA:=rral w3 (.cells #[.bool false,.int .i64 rn,.string ⟨rs.toArray⟩] 43);have x4:=x3.step bA
     have X3:=Lib.hid x3;have X4:=Lib.hid x4;have hl3:=x3.lt
     obtain⟨a1,a2,a3,a4,a5⟩:=x4.tc
     have n1:w.heap.size<w3.heap.size:=by omega
     have n2:w.heap.size+1<w3.heap.size:=by omega
     clear x2 b2 b3 x3 x4 bA
     go_wp2_with fail
     refine(CT.out _ (HE.out.below X4.out.bel)).mono ?_;rintro en w5 ⟨rfl,b5⟩;have x5:=X4.out.step b5;clear c1 c2 c3 c4 c5 a1 a2 a3 a4 a5;obtain⟨c1,c2,c3,c4,c5⟩:=x5.tc;have hblk:=rblk b5;have g3:=qAl 0 hblk rfl;have g4:=qAl 1 hblk rfl;have g5:=qAl 2 hblk rfl;have f3:=Lib.frozen_of_heap x5.b2 0;have f4:=Lib.frozen_of_heap x5.b2 1;have f5:=Lib.frozen_of_heap x5.b2 2;have HB:=Lib.hid x5.bel;clear x5 b5 hblk
     go_wp2_with fail
     exact bodyPost_ret (v:=.tuple #[.agg #[.bool false,.int .i64 rn,.string ⟨rs.toArray⟩],.int .i64 0]) (by simp[results,Tryz.results127,go_sem,c3,c4,c5]) rfl ⟨rfl,qB8 HB.out⟩
   · rw[no (fun h=>hL h.2)];subst hc
     have q1:(LB.toList==S.toList)=false:=by rw[Lib.toList_data,Lib.toList_data,hLl];rw[beq_eq_false_iff_ne];exact hL
     have q2:¬LB.toList=S.toList:=by rw[Lib.toList_data,Lib.toList_data,hLl];exact hL
     clear ok no hL hLl hN
     go_enter Tryz.func127,Tryz.ntmps127
     go_wp2_with fail
     refine(CM.out _).mono ?_;rintro en w1 ⟨rfl,b1⟩;have x1:=HB0.out.step b1;obtain⟨c1,c2,c3,c4,c5⟩:=x1.tc;have X1:=Lib.hid x1;clear x1 b1
     go_wp2_with fail
     refine(of_4 tn _).mono ?_;rintro en w2 ⟨a,rfl,hp,b2⟩;have x2:=X1.out.step b2;clear c1 c2 c3 c4 c5
     go_wp2_with fail
     refine(CI.out _ (HE.out.below x2.bel)).mono ?_;rintro en w3 ⟨rfl,b3⟩;have x3:=x2.step b3;obtain⟨c1,c2,c3,c4,c5⟩:=x3.tc;have bA:=rral w3 (.cells #[.bool false,.int .i64 rn,.string ⟨rs.toArray⟩] 43);have x4:=x3.step bA
     have X3:=Lib.hid x3;have X4:=Lib.hid x4;have hl3:=x3.lt
     obtain⟨a1,a2,a3,a4,a5⟩:=x4.tc
     have n1:w.heap.size<w3.heap.size:=by omega
     have n2:w.heap.size+1<w3.heap.size:=by omega
     clear x2 b2 b3 x3 x4 bA
     go_wp2_with fail
     refine(CT.out _ (HE.out.below X4.out.bel)).mono ?_;rintro en w5 ⟨rfl,b5⟩;have x5:=X4.out.step b5;clear c1 c2 c3 c4 c5 a1 a2 a3 a4 a5;obtain⟨c1,c2,c3,c4,c5⟩:=x5.tc;have hblk:=rblk b5;have g3:=qAl 0 hblk rfl;have g4:=qAl 1 hblk rfl;have g5:=qAl 2 hblk rfl;have f3:=Lib.frozen_of_heap x5.b2 0;have f4:=Lib.frozen_of_heap x5.b2 1;have f5:=Lib.frozen_of_heap x5.b2 2;have HB:=Lib.hid x5.bel;clear x5 b5 hblk
     go_wp2_with fail
     exact bodyPost_ret (v:=.tuple #[.agg #[.bool false,.int .i64 0,.string ⟨#[]⟩],.int .i64 4]) (by simp[results,Tryz.results127,go_sem,c3,c4,c5]) rfl ⟨rfl,qB8 HB.out⟩
 · rw[no (fun h=>hc h.1)]
   have q1:(c != 0)=true:=by simpa using hc
   clear ok no hLl hN
   go_enter Tryz.func127,Tryz.ntmps127
   go_wp2_with fail
   refine(CM.out _).mono ?_;rintro en w1 ⟨rfl,b1⟩;have x1:=HB0.out.step b1;obtain⟨c1,c2,c3,c4,c5⟩:=x1.tc;have X1:=Lib.hid x1;clear x1 b1
   go_wp2_with fail
   refine(of_4 tn _).mono ?_;rintro en w2 ⟨a,rfl,hp,b2⟩;have x2:=X1.out.step b2;clear c1 c2 c3 c4 c5
   go_wp2_with fail
   refine(CI.out _ (HE.out.below x2.bel)).mono ?_;rintro en w3 ⟨rfl,b3⟩;have x3:=x2.step b3;obtain⟨c1,c2,c3,c4,c5⟩:=x3.tc;have bA:=rral w3 (.cells #[.bool false,.int .i64 rn,.string ⟨rs.toArray⟩] 43);have x4:=x3.step bA
   have X3:=Lib.hid x3;have X4:=Lib.hid x4;have hl3:=x3.lt
   obtain⟨a1,a2,a3,a4,a5⟩:=x4.tc
   have n1:w.heap.size<w3.heap.size:=by omega
   have n2:w.heap.size+1<w3.heap.size:=by omega
   clear x2 b2 b3 x3 x4 bA
   go_wp2_with fail
   refine(CT.out _ (HE.out.below X4.out.bel)).mono ?_;rintro en w5 ⟨rfl,b5⟩;have x5:=X4.out.step b5;clear c1 c2 c3 c4 c5 a1 a2 a3 a4 a5;obtain⟨c1,c2,c3,c4,c5⟩:=x5.tc;have hblk:=rblk b5;have g3:=qAl 0 hblk rfl;have g4:=qAl 1 hblk rfl;have g5:=qAl 2 hblk rfl;have f3:=Lib.frozen_of_heap x5.b2 0;have f4:=Lib.frozen_of_heap x5.b2 1;have f5:=Lib.frozen_of_heap x5.b2 2;have HB:=Lib.hid x5.bel;clear x5 b5 hblk
   go_wp2_with fail
   exact bodyPost_ret (v:=.tuple #[.agg #[.bool false,.int .i64 0,.string ⟨#[]⟩],.int .i64 4]) (by simp[results,Tryz.results127,go_sem,c3,c4,c5]) rfl ⟨rfl,qB8 HB.out⟩
set_option maxRecDepth 100000 in
set_option maxHeartbeats 4000000 in
theorem qRv (tn:Bool) (w:World) (hE:Env w) :
    Calls Tryz.prog 127 #[.agg #[.int .i64 5,.bool tn],.string (⟨#[110,117,108,108]⟩:ByteArray)] w fun e w'=>e=.returned (qE3 (qBg 5 tn (⟨#[110,117,108,108]⟩:ByteArray).data.toList))∧Below w.heap.size w w':=by
 have hs:(⟨#[110,117,108,108]⟩:ByteArray).size≤100000:=by decide
 have ci:=fun w'=>qS6 (⟨#[110,117,108,108]⟩:ByteArray) w' hs
 have cm:=fun w'=>qBr 5 tn w'
 rw[show kMay 5=true from rfl] at cm;have hrl:=trivial;obtain⟨rn,hrn⟩:∃rn,(qBy 5 (⟨#[110,117,108,108]⟩:ByteArray).data.toList).1=rn:=⟨_,rfl⟩;obtain⟨rs,hrs⟩:∃rs,(qBy 5 (⟨#[110,117,108,108]⟩:ByteArray).data.toList).2=rs:=⟨_,rfl⟩;rw[hrn,hrs] at ci
 have hg:qBh 5 (⟨#[110,117,108,108]⟩:ByteArray).data.toList=(true,0,[]):=by
  unfold qBh;exact if_pos rfl
 have ct:∀w',Env w'→Calls Tryz.prog 174 #[.agg #[.int .i64 5,.bool tn],.agg #[.bool true,.int .i64 0,.string ⟨#[]⟩]] w' fun e w''=>e=.returned (.tuple #[.string ⟨(qBk 5 tn true 0 []).toArray⟩,.int .i64 (qAt 5 tn true 0 [])])∧Below w'.heap.size w' w'':=fun w' (hE':Env w')=>qB6 5 tn true 0 ⟨#[]⟩ w' (by decide) hE'
 have ok:=qCq 5 tn (⟨#[110,117,108,108]⟩:ByteArray).data.toList rfl hg;have no:=qCr 5 tn (⟨#[110,117,108,108]⟩:ByteArray).data.toList rfl hg
 generalize qAt 5 tn true 0 []=c at *
 generalize qBk 5 tn true 0 []=L at *
 obtain⟨LB,hLB⟩:∃LB:ByteArray,(⟨L.toArray⟩:ByteArray)=LB:=⟨_,rfl⟩
 have hLl:LB.data.toList=L:=by rw[←hLB]
 rw[hLB] at ct;have b0:=Box2.start w #[.int .i64 5,.bool tn] #[.bool false,.int .i64 0,.string ⟨#[]⟩] 41 43;have kf:=qDg
 have HB0:=Lib.hid b0;have CI:=Lib.hid ci;have CM:=Lib.hid cm;have CT:=Lib.hid ct;have HE:=Lib.hid hE
 clear b0 ci cm ct hE hg hrn hrs hLB hrl
 by_cases hc:c=0
 · by_cases hL:L=(⟨#[110,117,108,108]⟩:ByteArray).data.toList
   · rw[ok hc hL];subst hc
     obtain rfl:LB=(⟨#[110,117,108,108]⟩:ByteArray):=by rw[qBt (s:=LB) rfl,hLl,hL]
     clear ok no hL hLl
     go_enter Tryz.func127,Tryz.ntmps127
     go_wp2_with fail
     refine(CM.out _).mono ?_;rintro en w1 ⟨rfl,b1⟩;have x1:=HB0.out.step b1;obtain⟨c1,c2,c3,c4,c5⟩:=x1.tc;have X1:=Lib.hid x1;clear x1 b1
     go_wp2_with fail
     refine(of_5 tn _).mono ?_;rintro en w2 ⟨rfl,b2⟩;have x2:=X1.out.step b2;clear c1 c2 c3 c4 c5
     go_wp2_with fail
     refine(CI.out _).mono ?_;rintro en w3 ⟨rfl,b3⟩;have x3:=x2.step b3;obtain⟨c1,c2,c3,c4,c5⟩:=x3.tc;have bA:=rral w3 (.cells #[.bool true,.int .i64 0,.string ⟨#[]⟩] 43);have x4:=x3.step bA
     have X3:=Lib.hid x3;have X4:=Lib.hid x4;have hl3:=x3.lt
     obtain⟨a1,a2,a3,a4,a5⟩:=x4.tc
     have n1:w.heap.size<w3.heap.size:=by omega
     have n2:w.heap.size+1<w3.heap.size:=by omega
     clear x2 b2 b3 x3 x4 bA
     go_wp2_with fail
     refine(CT.out _ (HE.out.below X4.out.bel)).mono ?_;rintro en w5 ⟨rfl,b5⟩;have x5:=X4.out.step b5;clear c1 c2 c3 c4 c5 a1 a2 a3 a4 a5;obtain⟨c1,c2,c3,c4,c5⟩:=x5.tc;have hblk:=rblk b5;have g3:=qAl 0 hblk rfl;have g4:=qAl 1 hblk rfl;have g5:=qAl 2 hblk rfl;have f3:=Lib.frozen_of_heap x5.b2 0;have f4:=Lib.frozen_of_heap x5.b2 1;have f5:=Lib.frozen_of_heap x5.b2 2;have HB:=Lib.hid x5.bel;clear x5 b5 hblk
     go_wp2_with fail
     exact bodyPost_ret (v:=.tuple #[.agg #[.bool true,.int .i64 0,.string ⟨#[]⟩],.int .i64 0]) (by simp[results,Tryz.results127,go_sem,c3,c4,c5]) rfl ⟨rfl,qB8 HB.out⟩
   · rw[no (fun h=>hL h.2)];subst hc
     have q1:(LB.toList==(⟨#[110,117,108,108]⟩:ByteArray).toList)=false:=by rw[Lib.toList_data,Lib.toList_data,hLl];rw[beq_eq_false_iff_ne];exact hL
     have q2:¬LB.toList=(⟨#[110,117,108,108]⟩:ByteArray).toList:=by rw[Lib.toList_data,Lib.toList_data,hLl];exact hL
     have q3:(LB.toList==[110,117,108,108])=false:=by rw[Lib.toList_data,hLl];rw[beq_eq_false_iff_ne];exact hL
     clear ok no hL hLl
     go_enter Tryz.func127,Tryz.ntmps127
     go_wp2_with fail
     refine(CM.out _).mono ?_;rintro en w1 ⟨rfl,b1⟩;have x1:=HB0.out.step b1;obtain⟨c1,c2,c3,c4,c5⟩:=x1.tc;have X1:=Lib.hid x1;clear x1 b1
     go_wp2_with fail
     refine(of_5 tn _).mono ?_;rintro en w2 ⟨rfl,b2⟩;have x2:=X1.out.step b2;clear c1 c2 c3 c4 c5
     go_wp2_with fail
     refine(CI.out _).mono ?_;rintro en w3 ⟨rfl,b3⟩;have x3:=x2.step b3;obtain⟨c1,c2,c3,c4,c5⟩:=x3.tc;have bA:=rral w3 (.cells #[.bool true,.int .i64 0,.string ⟨#[]⟩] 43);have x4:=x3.step bA
     have X3:=Lib.hid x3;have X4:=Lib.hid x4;have hl3:=x3.lt
     obtain⟨a1,a2,a3,a4,a5⟩:=x4.tc
     have n1:w.heap.size<w3.heap.size:=by omega
     have n2:w.heap.size+1<w3.heap.size:=by omega
     clear x2 b2 b3 x3 x4 bA
     go_wp2_with fail
     refine(CT.out _ (HE.out.below X4.out.bel)).mono ?_;rintro en w5 ⟨rfl,b5⟩;have x5:=X4.out.step b5;clear c1 c2 c3 c4 c5 a1 a2 a3 a4 a5;obtain⟨c1,c2,c3,c4,c5⟩:=x5.tc;have hblk:=rblk b5;have g3:=qAl 0 hblk rfl;have g4:=qAl 1 hblk rfl;have g5:=qAl 2 hblk rfl;have f3:=Lib.frozen_of_heap x5.b2 0;have f4:=Lib.frozen_of_heap x5.b2 1;have f5:=Lib.frozen_of_heap x5.b2 2;have HB:=Lib.hid x5.bel;clear x5 b5 hblk
     go_wp2_with fail
     exact bodyPost_ret (v:=.tuple #[.agg #[.bool false,.int .i64 0,.string ⟨#[]⟩],.int .i64 4]) (by simp[results,Tryz.results127,go_sem,c3,c4,c5]) rfl ⟨rfl,qB8 HB.out⟩
 · rw[no (fun h=>hc h.1)]
   have q1:(c != 0)=true:=by simpa using hc
   clear ok no hLl
   go_enter Tryz.func127,Tryz.ntmps127
   go_wp2_with fail
   refine(CM.out _).mono ?_;rintro en w1 ⟨rfl,b1⟩;have x1:=HB0.out.step b1;obtain⟨c1,c2,c3,c4,c5⟩:=x1.tc;have X1:=Lib.hid x1;clear x1 b1
   go_wp2_with fail
   refine(of_5 tn _).mono ?_;rintro en w2 ⟨rfl,b2⟩;have x2:=X1.out.step b2;clear c1 c2 c3 c4 c5
   go_wp2_with fail
   refine(CI.out _).mono ?_;rintro en w3 ⟨rfl,b3⟩;have x3:=x2.step b3;obtain⟨c1,c2,c3,c4,c5⟩:=x3.tc;have bA:=rral w3 (.cells #[.bool true,.int .i64 0,.string ⟨#[]⟩] 43);have x4:=x3.step bA
   have X3:=Lib.hid x3;have X4:=Lib.hid x4;have hl3:=x3.lt
   obtain⟨a1,a2,a3,a4,a5⟩:=x4.tc
   have n1:w.heap.size<w3.heap.size:=by omega
   have n2:w.heap.size+1<w3.heap.size:=by omega
   clear x2 b2 b3 x3 x4 bA
   go_wp2_with fail
   refine(CT.out _ (HE.out.below X4.out.bel)).mono ?_;rintro en w5 ⟨rfl,b5⟩;have x5:=X4.out.step b5;clear c1 c2 c3 c4 c5 a1 a2 a3 a4 a5;obtain⟨c1,c2,c3,c4,c5⟩:=x5.tc;have hblk:=rblk b5;have g3:=qAl 0 hblk rfl;have g4:=qAl 1 hblk rfl;have g5:=qAl 2 hblk rfl;have f3:=Lib.frozen_of_heap x5.b2 0;have f4:=Lib.frozen_of_heap x5.b2 1;have f5:=Lib.frozen_of_heap x5.b2 2;have HB:=Lib.hid x5.bel;clear x5 b5 hblk
   go_wp2_with fail
   exact bodyPost_ret (v:=.tuple #[.agg #[.bool false,.int .i64 0,.string ⟨#[]⟩],.int .i64 4]) (by simp[results,Tryz.results127,go_sem,c3,c4,c5]) rfl ⟨rfl,qB8 HB.out⟩
set_option maxRecDepth 100000 in
set_option maxHeartbeats 4000000 in
theorem qSi (tn:Bool) (S:ByteArray) (w:World) (hs0:S.size≤20000) (hE:Env w) (hN:¬S.data.toList=qLd) :
    Calls Tryz.prog 127 #[.agg #[.int .i64 5,.bool tn],.string S] w fun e w'=>e=.returned (qE3 (qBg 5 tn S.data.toList))∧Below w.heap.size w w':=by
 have hs:S.size≤100000:=by omega
 have ci:=fun w'=>qS6 S w' hs
 have cm:=fun w'=>qBr 5 tn w'
 rw[show kMay 5=true from rfl] at cm;have hrl:=qD5 5 S.data.toList;obtain⟨rn,hrn⟩:∃rn,(qBy 5 S.data.toList).1=rn:=⟨_,rfl⟩;obtain⟨rs,hrs⟩:∃rs,(qBy 5 S.data.toList).2=rs:=⟨_,rfl⟩;rw[hrn,hrs] at ci
 have hg:qBh 5 S.data.toList=(false,rn,rs):=by
  unfold qBh;rw[if_neg hN,hrn,hrs]
 rw[hrs,lenS] at hrl;have hls:(⟨rs.toArray⟩:ByteArray).size=rs.length:=List.size_toArray
 have ct:∀w',Env w'→Calls Tryz.prog 174 #[.agg #[.int .i64 5,.bool tn],.agg #[.bool false,.int .i64 rn,.string ⟨rs.toArray⟩]] w' fun e w''=>e=.returned (.tuple #[.string ⟨(qBk 5 tn false rn rs).toArray⟩,.int .i64 (qAt 5 tn false rn rs)])∧Below w'.heap.size w' w'':=fun w' (hE':Env w')=>qB6 5 tn false rn ⟨rs.toArray⟩ w' (by rw[hls];omega) hE'
 have ok:=qCq 5 tn S.data.toList rfl hg;have no:=qCr 5 tn S.data.toList rfl hg
 have e1:(S.toList==[110,117,108,108])=false:=by rw[Lib.toList_data];rw[beq_eq_false_iff_ne];exact hN
 have e2:¬S.toList=[110,117,108,108]:=by rw[Lib.toList_data];exact hN
 generalize qAt 5 tn false rn rs=c at *
 generalize qBk 5 tn false rn rs=L at *
 obtain⟨LB,hLB⟩:∃LB:ByteArray,(⟨L.toArray⟩:ByteArray)=LB:=⟨_,rfl⟩
 have hLl:LB.data.toList=L:=by rw[←hLB]
 rw[hLB] at ct;have b0:=Box2.start w #[.int .i64 5,.bool tn] #[.bool false,.int .i64 0,.string ⟨#[]⟩] 41 43;have kf:=qDg
 have HB0:=Lib.hid b0;have CI:=Lib.hid ci;have CM:=Lib.hid cm;have CT:=Lib.hid ct;have HE:=Lib.hid hE
 clear b0 ci cm ct hE hg hrn hrs hLB hrl hls
 by_cases hc:c=0
 · by_cases hL:L=S.data.toList
   · rw[ok hc hL];subst hc
     obtain rfl:LB=S:=by rw[qBt (s:=LB) rfl,hLl,hL]
     clear ok no hL hLl hN
     go_enter Tryz.func127,Tryz.ntmps127
     go_wp2_with fail
     refine(CM.out _).mono ?_;rintro en w1 ⟨rfl,b1⟩;have x1:=HB0.out.step b1;obtain⟨c1,c2,c3,c4,c5⟩:=x1.tc;have X1:=Lib.hid x1;clear x1 b1
     go_wp2_with fail
     refine(of_5 tn _).mono ?_;rintro en w2 ⟨rfl,b2⟩;have x2:=X1.out.step b2;clear c1 c2 c3 c4 c5
     go_wp2_with fail
     refine(CI.out _).mono ?_;rintro en w3 ⟨rfl,b3⟩;have x3:=x2.step b3;obtain⟨c1,c2,c3,c4,c5⟩:=x3.tc;have bA:=rral w3 (.cells #[.bool false,.int .i64 rn,.string ⟨rs.toArray⟩] 43);have x4:=x3.step bA
     have X3:=Lib.hid x3;have X4:=Lib.hid x4;have hl3:=x3.lt
     obtain⟨a1,a2,a3,a4,a5⟩:=x4.tc
     have n1:w.heap.size<w3.heap.size:=by omega
     have n2:w.heap.size+1<w3.heap.size:=by omega
     clear x2 b2 b3 x3 x4 bA
     go_wp2_with fail
     refine(CT.out _ (HE.out.below X4.out.bel)).mono ?_;rintro en w5 ⟨rfl,b5⟩;have x5:=X4.out.step b5;clear c1 c2 c3 c4 c5 a1 a2 a3 a4 a5;obtain⟨c1,c2,c3,c4,c5⟩:=x5.tc;have hblk:=rblk b5;have g3:=qAl 0 hblk rfl;have g4:=qAl 1 hblk rfl;have g5:=qAl 2 hblk rfl;have f3:=Lib.frozen_of_heap x5.b2 0;have f4:=Lib.frozen_of_heap x5.b2 1;have f5:=Lib.frozen_of_heap x5.b2 2;have HB:=Lib.hid x5.bel;clear x5 b5 hblk
     go_wp2_with fail
     exact bodyPost_ret (v:=.tuple #[.agg #[.bool false,.int .i64 rn,.string ⟨rs.toArray⟩],.int .i64 0]) (by simp[results,Tryz.results127,go_sem,c3,c4,c5]) rfl ⟨rfl,qB8 HB.out⟩
   · rw[no (fun h=>hL h.2)];subst hc
     have q1:(LB.toList==S.toList)=false:=by rw[Lib.toList_data,Lib.toList_data,hLl];rw[beq_eq_false_iff_ne];exact hL
     have q2:¬LB.toList=S.toList:=by rw[Lib.toList_data,Lib.toList_data,hLl];exact hL
     clear ok no hL hLl hN
     go_enter Tryz.func127,Tryz.ntmps127
     go_wp2_with fail
     refine(CM.out _).mono ?_;rintro en w1 ⟨rfl,b1⟩;have x1:=HB0.out.step b1;obtain⟨c1,c2,c3,c4,c5⟩:=x1.tc;have X1:=Lib.hid x1;clear x1 b1
     go_wp2_with fail
     refine(of_5 tn _).mono ?_;rintro en w2 ⟨rfl,b2⟩;have x2:=X1.out.step b2;clear c1 c2 c3 c4 c5
     go_wp2_with fail
     refine(CI.out _).mono ?_;rintro en w3 ⟨rfl,b3⟩;have x3:=x2.step b3;obtain⟨c1,c2,c3,c4,c5⟩:=x3.tc;have bA:=rral w3 (.cells #[.bool false,.int .i64 rn,.string ⟨rs.toArray⟩] 43);have x4:=x3.step bA
     have X3:=Lib.hid x3;have X4:=Lib.hid x4;have hl3:=x3.lt
     obtain⟨a1,a2,a3,a4,a5⟩:=x4.tc
     have n1:w.heap.size<w3.heap.size:=by omega
     have n2:w.heap.size+1<w3.heap.size:=by omega
     clear x2 b2 b3 x3 x4 bA
     go_wp2_with fail
     refine(CT.out _ (HE.out.below X4.out.bel)).mono ?_;rintro en w5 ⟨rfl,b5⟩;have x5:=X4.out.step b5;clear c1 c2 c3 c4 c5 a1 a2 a3 a4 a5;obtain⟨c1,c2,c3,c4,c5⟩:=x5.tc;have hblk:=rblk b5;have g3:=qAl 0 hblk rfl;have g4:=qAl 1 hblk rfl;have g5:=qAl 2 hblk rfl;have f3:=Lib.frozen_of_heap x5.b2 0;have f4:=Lib.frozen_of_heap x5.b2 1;have f5:=Lib.frozen_of_heap x5.b2 2;have HB:=Lib.hid x5.bel;clear x5 b5 hblk
     go_wp2_with fail
     exact bodyPost_ret (v:=.tuple #[.agg #[.bool false,.int .i64 0,.string ⟨#[]⟩],.int .i64 4]) (by simp[results,Tryz.results127,go_sem,c3,c4,c5]) rfl ⟨rfl,qB8 HB.out⟩
 · rw[no (fun h=>hc h.1)]
   have q1:(c != 0)=true:=by simpa using hc
   clear ok no hLl hN
   go_enter Tryz.func127,Tryz.ntmps127
   go_wp2_with fail
   refine(CM.out _).mono ?_;rintro en w1 ⟨rfl,b1⟩;have x1:=HB0.out.step b1;obtain⟨c1,c2,c3,c4,c5⟩:=x1.tc;have X1:=Lib.hid x1;clear x1 b1
   go_wp2_with fail
   refine(of_5 tn _).mono ?_;rintro en w2 ⟨rfl,b2⟩;have x2:=X1.out.step b2;clear c1 c2 c3 c4 c5
   go_wp2_with fail
   refine(CI.out _).mono ?_;rintro en w3 ⟨rfl,b3⟩;have x3:=x2.step b3;obtain⟨c1,c2,c3,c4,c5⟩:=x3.tc;have bA:=rral w3 (.cells #[.bool false,.int .i64 rn,.string ⟨rs.toArray⟩] 43);have x4:=x3.step bA
   have X3:=Lib.hid x3;have X4:=Lib.hid x4;have hl3:=x3.lt
   obtain⟨a1,a2,a3,a4,a5⟩:=x4.tc
   have n1:w.heap.size<w3.heap.size:=by omega
   have n2:w.heap.size+1<w3.heap.size:=by omega
   clear x2 b2 b3 x3 x4 bA
   go_wp2_with fail
   refine(CT.out _ (HE.out.below X4.out.bel)).mono ?_;rintro en w5 ⟨rfl,b5⟩;have x5:=X4.out.step b5;clear c1 c2 c3 c4 c5 a1 a2 a3 a4 a5;obtain⟨c1,c2,c3,c4,c5⟩:=x5.tc;have hblk:=rblk b5;have g3:=qAl 0 hblk rfl;have g4:=qAl 1 hblk rfl;have g5:=qAl 2 hblk rfl;have f3:=Lib.frozen_of_heap x5.b2 0;have f4:=Lib.frozen_of_heap x5.b2 1;have f5:=Lib.frozen_of_heap x5.b2 2;have HB:=Lib.hid x5.bel;clear x5 b5 hblk
   go_wp2_with fail
   exact bodyPost_ret (v:=.tuple #[.agg #[.bool false,.int .i64 0,.string ⟨#[]⟩],.int .i64 4]) (by simp[results,Tryz.results127,go_sem,c3,c4,c5]) rfl ⟨rfl,qB8 HB.out⟩
theorem qKr (k:Int) (tn:Bool) (S:ByteArray) (w:World) (hs:S.size≤20000) (hE:Env w) :
    Calls Tryz.prog 127 #[.agg #[.int .i64 k,.bool tn],.string S] w fun e w'=>e=.returned (qE3 (qBg k tn S.data.toList))∧Below w.heap.size w w':=by
 cases hk:kMay k with
 |false=>
  have:qE3 (qBg k tn S.data.toList)=.tuple #[.agg #[.bool false,.int .i64 0,.string ⟨#[]⟩],.int .i64 2]:=by unfold qBg;rw[if_neg (by simp[hk])];rfl
  rw[this];exact qN7 k tn S w hk
 |true=>
  by_cases hN:S.data.toList=qLd
  · obtain rfl:S=⟨#[110,117,108,108]⟩:=qBt hN
    rcases qFm hk with rfl|rfl|rfl|rfl|rfl
    · exact qRm tn w hE
    · exact qRw tn w hE
    · exact qRu tn w hE
    · exact qQ4 tn w hE
    · exact qRv tn w hE
  · rcases qFm hk with rfl|rfl|rfl|rfl|rfl
    · exact qR7 tn S w hs hE hN
    · exact qRd tn S w hs hE hN
    · exact qQx tn S w hs hE hN
    · exact qQ2 tn S w hs hE hN
    · exact qSi tn S w hs hE hN
end Go.Proofs.YtainiaighnjpfaaGreatDoor
