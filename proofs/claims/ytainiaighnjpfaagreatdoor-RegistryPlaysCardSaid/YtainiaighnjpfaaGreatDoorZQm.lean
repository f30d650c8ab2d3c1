/- Cells: what is read. -/
import Derived.Test.YtainiaighnjpfaaGreatDoorZQl
set_option maxHeartbeats 4000000
set_option maxRecDepth 100000
set_option linter.unusedVariables false
namespace Go.Proofs.YtainiaighnjpfaaGreatDoor
open Go.RowKit Go.Ms Go.Lib
def qGl (D:(Bool×Int×Bs)×Int):Value:=.tuple #[.agg #[.bool D.1.1,.int .i64 D.1.2.1,.string ⟨D.1.2.2.toArray⟩],.int .i64 D.2]
theorem qDb (k:Int) (tn:Bool) (l:Bs) (hk:kMay k=true) {g:Bool} {n:Int} {s:Bs} (hg:qBt k l=(g,n,s)) (hc:qA1 k tn g n s=0) (ht:qBy k tn g n s=l):qGl (qBr k tn l)=.tuple #[.agg #[.bool g,.int .i64 n,.string ⟨s.toArray⟩],.int .i64 0]:=by
 have:qBr k tn l=((g,n,s),0):=by
  unfold qBr;rw[if_pos hk,hg];exact if_pos ⟨hc,ht⟩
 rw[this];rfl
theorem qC9 (k:Int) (tn:Bool) (l:Bs) (hk:kMay k=true) {g:Bool} {n:Int} {s:Bs} (hg:qBt k l=(g,n,s)) (hc:¬(qA1 k tn g n s=0∧qBy k tn g n s=l)):qGl (qBr k tn l)=.tuple #[.agg #[.bool false,.int .i64 0,.string ⟨#[]⟩],.int .i64 4]:=by
 have:qBr k tn l=((false,0,[]),4):=by
  unfold qBr;rw[if_pos hk,hg];exact if_neg hc
 rw[this];rfl
theorem qX2 (l:Bs):∀(n:Nat) (acc:Bs) (p:Nat) (e:Int),(uqGo l n acc p e).1.length≤acc.length+4*n
  |0,acc,p,e=>by simp[uqGo]
  | n+1,acc,p,e=>by
   rw[qBp];have hp:=qGk l p e;repeat' split
   all_goals first|(simp;done)|(simp;omega)|skip
   all_goals
    refine Nat.le_trans (qX2 l n _ _ _) ?_;have h1:=qFf l (p+1) 0;have h2:=qGk l p 0;have h3:=qFf l (p+1) e;simp only[List.length_append];omega
theorem qK9:∀(n:Nat) (l:Bs),l.length≤n→(qG7 l).length≤n
  |0,l,h=>by rw[qH6 (by omega)];simp
  | n+1,l,h=>by
   match l,h with
   |[],_=>simp[qG7]
   |[a],_=>simp[qG7]
   |a::b::t,h=>
    rw[qG7,List.length_cons];have:=qK9 n t (by simp at h;omega);omega
theorem qFc (k:Int) (l:Bs):(qCf k l).2.length≤4*(l.length+2):=by
 unfold qCf;split
 · simp
 · split
   · simp
   · split
     · have:=qX2 l (l.length+2) [] (qBd l 34 0 0).1 (qBd l 34 0 0).2
       simpa[qDm] using this
     · have:(trimPrefix l [120]).length≤l.length:=by
         unfold trimPrefix;split
         · rw[List.length_drop];omega
         · omega
       have h2:=qK9 _ _ this;show(qLg l).length≤_
       unfold qLg;omega
theorem qRm (k:Int) (tn:Bool) (S:ByteArray) (w:World) (hk:kMay k=false) :
    Calls Tryz.prog 127 #[.agg #[.int .i64 k,.bool tn],.string S] w fun e w'=>e=.returned (.tuple #[.agg #[.bool false,.int .i64 0,.string ⟨#[]⟩],.int .i64 2])∧Below w.heap.size w w':=by
 have cm:=fun w'=>qB5 k tn w'
 rw[hk] at cm;have b0:=Box2.start w #[.int .i64 k,.bool tn] #[.bool false,.int .i64 0,.string ⟨#[]⟩] 41 43;have HB0:=hh_ b0;have CM:=hh_ cm;clear b0 cm hk;go_enter Tryz.func127,Tryz.ntmps127;go_wp2_with fail
 refine(CM.out _).mono ?_;rintro en w1 ⟨rfl,b1⟩;have x1:=HB0.out.step b1;obtain⟨c1,c2,c3,c4,c5⟩:=x1.tc;have f3:=Lib.frozen_of_heap x1.b2 0;have f4:=Lib.frozen_of_heap x1.b2 1;have f5:=Lib.frozen_of_heap x1.b2 2;have HB:=hh_ x1.bel;clear x1 b1;go_wp2_with fail
 exact bodyPost_ret (v:=.tuple #[.agg #[.bool false,.int .i64 0,.string ⟨#[]⟩],.int .i64 2]) (by simp[results,Tryz.results127,go_sem,c3,c4,c5]) rfl ⟨rfl,((HB.out.setCell (p:=⟨_,_,_⟩) (by simp) _).setCell (p:=⟨_,_,_⟩) (by simp) _).setCell (p:=⟨_,_,_⟩) (by simp) _⟩
theorem qV2 (tn:Bool) (w:World) (hE:Env w) :
    Calls Tryz.prog 127 #[.agg #[.int .i64 1,.bool tn],.string (⟨#[110,117,108,108]⟩:ByteArray)] w fun e w'=>e=.returned (qGl (qBr 1 tn (⟨#[110,117,108,108]⟩:ByteArray).data.toList))∧Below w.heap.size w w':=by
 have hs:(⟨#[110,117,108,108]⟩:ByteArray).size≤100000:=by decide
 have ci:=fun w'=>qYh (⟨#[110,117,108,108]⟩:ByteArray) w'
 have cm:=fun w'=>qB5 1 tn w'
 rw[show kMay 1=true from rfl] at cm;have hrl:=trivial;obtain⟨rn,hrn⟩:∃rn,(qCf 1 (⟨#[110,117,108,108]⟩:ByteArray).data.toList).1=rn:=⟨_,rfl⟩;obtain⟨rs,hrs⟩:∃rs,(qCf 1 (⟨#[110,117,108,108]⟩:ByteArray).data.toList).2=rs:=⟨_,rfl⟩;rw[hrn,hrs] at ci
 have hg:qBt 1 (⟨#[110,117,108,108]⟩:ByteArray).data.toList=(true,0,[]):=by
  unfold qBt;exact if_pos rfl
 have ct:∀w',Env w'→Calls Tryz.prog 174 #[.agg #[.int .i64 1,.bool tn],.agg #[.bool true,.int .i64 0,.string ⟨#[]⟩]] w' fun e w''=>e=.returned (.tuple #[.string ⟨(qBy 1 tn true 0 []).toArray⟩,.int .i64 (qA1 1 tn true 0 [])])∧Below w'.heap.size w' w'':=fun w' (hE':Env w')=>qCi 1 tn true 0 ⟨#[]⟩ w' (by decide) hE'
 have ok:=qDb 1 tn (⟨#[110,117,108,108]⟩:ByteArray).data.toList rfl hg;have no:=qC9 1 tn (⟨#[110,117,108,108]⟩:ByteArray).data.toList rfl hg;generalize qA1 1 tn true 0 []=c at *; generalize qBy 1 tn true 0 []=L at *; obtain⟨LB,hLB⟩:∃LB:ByteArray,(⟨L.toArray⟩:ByteArray)=LB:=⟨_,rfl⟩;have hLl:LB.data.toList=L:=by rw[←hLB]
 rw[hLB] at ct;have b0:=Box2.start w #[.int .i64 1,.bool tn] #[.bool false,.int .i64 0,.string ⟨#[]⟩] 41 43;have kf:=qD8;have HB0:=hh_ b0;have CI:=hh_ ci;have CM:=hh_ cm;have CT:=hh_ ct;have HE:=hh_ hE;clear b0 ci cm ct hE hg hrn hrs hLB hrl;have OK:=hh_ ok;have NO:=hh_ no;have HLL:=hh_ hLl;clear ok no hLl;go_enter Tryz.func127,Tryz.ntmps127;go_wp2_with fail
 refine(CM.out _).mono ?_;rintro en w1 ⟨rfl,b1⟩;have x1:=HB0.out.step b1;obtain⟨c1,c2,c3,c4,c5⟩:=x1.tc;have X1:=hh_ x1;clear x1 b1;go_wp2_with fail
 refine(of_1 tn _).mono ?_;rintro en w2 ⟨a,b,rfl,hp,b2⟩;have x2:=X1.out.step b2;clear c1 c2 c3 c4 c5;go_wp2_with fail
 refine(CI.out _).mono ?_;rintro en w3 ⟨rfl,b3⟩;have x3:=x2.step b3;obtain⟨c1,c2,c3,c4,c5⟩:=x3.tc;have bA:Below w3.heap.size w3 (w3.alloc (.cells #[.bool true,.int .i64 0,.string ⟨#[]⟩] 43)):=br_.alloc le_ _;have x4:=x3.step bA;have X3:=hh_ x3;have X4:=hh_ x4;have hl3:=x3.lt;obtain⟨a1,a2,a3,a4,a5⟩:=x4.tc;have n1:w.heap.size<w3.heap.size:=by omega
 have n2:w.heap.size+1<w3.heap.size:=by omega
 clear x2 b2 b3 x3 x4 bA;go_wp2_with fail
 refine(CT.out _ (HE.out.below X4.out.bel)).mono ?_;rintro en w5 ⟨rfl,b5⟩;have x5:=X4.out.step b5;clear c1 c2 c3 c4 c5 a1 a2 a3 a4 a5;obtain⟨c1,c2,c3,c4,c5⟩:=x5.tc;have hblk:w5.heap[w3.heap.size]?=some (.cells #[.bool true,.int .i64 0,.string ⟨#[]⟩] 43 (0,0)):=by rw[b5.block _ (by simp)];exact heap_alloc_new w3 _
 have g3:w5.cell? ⟨w3.heap.size,0,none⟩=some (.bool true):=by rw[Lib.cell_of_heap hblk];rfl
 have g4:w5.cell? ⟨w3.heap.size,1,none⟩=some (.int .i64 0):=by rw[Lib.cell_of_heap hblk];rfl
 have g5:w5.cell? ⟨w3.heap.size,2,none⟩=some (.string ⟨#[]⟩):=by rw[Lib.cell_of_heap hblk];rfl
 have f3:=Lib.frozen_of_heap x5.b2 0;have f4:=Lib.frozen_of_heap x5.b2 1;have f5:=Lib.frozen_of_heap x5.b2 2;have HB:=hh_ x5.bel;clear x5 b5 hblk;by_cases hc:c=0
 · by_cases hL:L=(⟨#[110,117,108,108]⟩:ByteArray).data.toList
   · have HR:=hh_ (OK.out hc hL);subst hc;obtain rfl:LB=(⟨#[110,117,108,108]⟩:ByteArray):=by rw[qBu (s:=LB) rfl,HLL.out,hL]
     clear OK NO hL HLL;go_wp2_with fail
     exact bodyPost_ret (v:=.tuple #[.agg #[.bool true,.int .i64 0,.string ⟨#[]⟩],.int .i64 0]) (by simp[results,Tryz.results127,go_sem,c3,c4,c5]) rfl ⟨congrArg Ending.returned HR.out.symm,((HB.out.setCell (p:=⟨_,_,_⟩) (by simp) _).setCell (p:=⟨_,_,_⟩) (by simp) _).setCell (p:=⟨_,_,_⟩) (by simp) _⟩
   · have HR:=hh_ (NO.out (fun h=>hL h.2));subst hc;have q1:(LB.toList==(⟨#[110,117,108,108]⟩:ByteArray).toList)=false:=by rw[Lib.toList_data,Lib.toList_data,HLL.out];rw[beq_eq_false_iff_ne];exact hL
     have q2:¬LB.toList=(⟨#[110,117,108,108]⟩:ByteArray).toList:=by rw[Lib.toList_data,Lib.toList_data,HLL.out];exact hL
     have q3:(LB.toList==[110,117,108,108])=false:=by rw[Lib.toList_data,HLL.out];rw[beq_eq_false_iff_ne];exact hL
     clear OK NO hL HLL;go_wp2_with fail
     exact bodyPost_ret (v:=.tuple #[.agg #[.bool false,.int .i64 0,.string ⟨#[]⟩],.int .i64 4]) (by simp[results,Tryz.results127,go_sem,c3,c4,c5]) rfl ⟨congrArg Ending.returned HR.out.symm,((HB.out.setCell (p:=⟨_,_,_⟩) (by simp) _).setCell (p:=⟨_,_,_⟩) (by simp) _).setCell (p:=⟨_,_,_⟩) (by simp) _⟩
 · have HR:=hh_ (NO.out (fun h=>hc h.1));have q1:(c != 0)=true:=by simpa using hc
   clear OK NO HLL;go_wp2_with fail
   exact bodyPost_ret (v:=.tuple #[.agg #[.bool false,.int .i64 0,.string ⟨#[]⟩],.int .i64 4]) (by simp[results,Tryz.results127,go_sem,c3,c4,c5]) rfl ⟨congrArg Ending.returned HR.out.symm,((HB.out.setCell (p:=⟨_,_,_⟩) (by simp) _).setCell (p:=⟨_,_,_⟩) (by simp) _).setCell (p:=⟨_,_,_⟩) (by simp) _⟩
theorem qWx (tn:Bool) (S:ByteArray) (w:World) (hs0:S.size≤20000) (hE:Env w) (hN:¬S.data.toList=qNb) :
    Calls Tryz.prog 127 #[.agg #[.int .i64 1,.bool tn],.string S] w fun e w'=>e=.returned (qGl (qBr 1 tn S.data.toList))∧Below w.heap.size w w':=by
 have hs:S.size≤100000:=by omega
 have ci:=fun w'=>qYh S w'
 have cm:=fun w'=>qB5 1 tn w'
 rw[show kMay 1=true from rfl] at cm;have hrl:=qFc 1 S.data.toList;obtain⟨rn,hrn⟩:∃rn,(qCf 1 S.data.toList).1=rn:=⟨_,rfl⟩;obtain⟨rs,hrs⟩:∃rs,(qCf 1 S.data.toList).2=rs:=⟨_,rfl⟩;rw[hrn,hrs] at ci
 have hg:qBt 1 S.data.toList=(false,rn,rs):=by
  unfold qBt;rw[if_neg hN,hrn,hrs]
 rw[hrs,lenS] at hrl;have hls:(⟨rs.toArray⟩:ByteArray).size=rs.length:=List.size_toArray;have ct:∀w',Env w'→Calls Tryz.prog 174 #[.agg #[.int .i64 1,.bool tn],.agg #[.bool false,.int .i64 rn,.string ⟨rs.toArray⟩]] w' fun e w''=>e=.returned (.tuple #[.string ⟨(qBy 1 tn false rn rs).toArray⟩,.int .i64 (qA1 1 tn false rn rs)])∧Below w'.heap.size w' w'':=fun w' (hE':Env w')=>qCi 1 tn false rn ⟨rs.toArray⟩ w' (by rw[hls];omega) hE'
 have ok:=qDb 1 tn S.data.toList rfl hg;have no:=qC9 1 tn S.data.toList rfl hg;have e1:(S.toList==[110,117,108,108])=false:=by rw[Lib.toList_data];rw[beq_eq_false_iff_ne];exact hN
 have e2:¬S.toList=[110,117,108,108]:=by rw[Lib.toList_data];exact hN
 generalize qA1 1 tn false rn rs=c at *; generalize qBy 1 tn false rn rs=L at *; obtain⟨LB,hLB⟩:∃LB:ByteArray,(⟨L.toArray⟩:ByteArray)=LB:=⟨_,rfl⟩;have hLl:LB.data.toList=L:=by rw[←hLB]
 rw[hLB] at ct;have b0:=Box2.start w #[.int .i64 1,.bool tn] #[.bool false,.int .i64 0,.string ⟨#[]⟩] 41 43;have kf:=qD8;have HB0:=hh_ b0;have CI:=hh_ ci;have CM:=hh_ cm;have CT:=hh_ ct;have HE:=hh_ hE;clear b0 ci cm ct hE hg hrn hrs hLB hrl hls;have OK:=hh_ ok;have NO:=hh_ no;have HLL:=hh_ hLl;clear ok no hLl hN;go_enter Tryz.func127,Tryz.ntmps127;go_wp2_with fail
 refine(CM.out _).mono ?_;rintro en w1 ⟨rfl,b1⟩;have x1:=HB0.out.step b1;obtain⟨c1,c2,c3,c4,c5⟩:=x1.tc;have X1:=hh_ x1;clear x1 b1;go_wp2_with fail
 refine(of_1 tn _).mono ?_;rintro en w2 ⟨a,b,rfl,hp,b2⟩;have x2:=X1.out.step b2;clear c1 c2 c3 c4 c5;go_wp2_with fail
 refine(CI.out _).mono ?_;rintro en w3 ⟨rfl,b3⟩;have x3:=x2.step b3;obtain⟨c1,c2,c3,c4,c5⟩:=x3.tc;have bA:Below w3.heap.size w3 (w3.alloc (.cells #[.bool false,.int .i64 rn,.string ⟨rs.toArray⟩] 43)):=br_.alloc le_ _;have x4:=x3.step bA;have X3:=hh_ x3;have X4:=hh_ x4;have hl3:=x3.lt;obtain⟨a1,a2,a3,a4,a5⟩:=x4.tc;have n1:w.heap.size<w3.heap.size:=by omega
 have n2:w.heap.size+1<w3.heap.size:=by omega
 clear x2 b2 b3 x3 x4 bA;go_wp2_with fail
 refine(CT.out _ (HE.out.below X4.out.bel)).mono ?_;rintro en w5 ⟨rfl,b5⟩;have x5:=X4.out.step b5;clear c1 c2 c3 c4 c5 a1 a2 a3 a4 a5;obtain⟨c1,c2,c3,c4,c5⟩:=x5.tc;have hblk:w5.heap[w3.heap.size]?=some (.cells #[.bool false,.int .i64 rn,.string ⟨rs.toArray⟩] 43 (0,0)):=by rw[b5.block _ (by simp)];exact heap_alloc_new w3 _
 have g3:w5.cell? ⟨w3.heap.size,0,none⟩=some (.bool false):=by rw[Lib.cell_of_heap hblk];rfl
 have g4:w5.cell? ⟨w3.heap.size,1,none⟩=some (.int .i64 rn):=by rw[Lib.cell_of_heap hblk];rfl
 have g5:w5.cell? ⟨w3.heap.size,2,none⟩=some (.string ⟨rs.toArray⟩):=by rw[Lib.cell_of_heap hblk];rfl
 have f3:=Lib.frozen_of_heap x5.b2 0;have f4:=Lib.frozen_of_heap x5.b2 1;have f5:=Lib.frozen_of_heap x5.b2 2;have HB:=hh_ x5.bel;clear x5 b5 hblk;by_cases hc:c=0
 · by_cases hL:L=S.data.toList
   · have HR:=hh_ (OK.out hc hL);subst hc;obtain rfl:LB=S:=by rw[qBu (s:=LB) rfl,HLL.out,hL]
     clear OK NO hL HLL;go_wp2_with fail
     exact bodyPost_ret (v:=.tuple #[.agg #[.bool false,.int .i64 rn,.string ⟨rs.toArray⟩],.int .i64 0]) (by simp[results,Tryz.results127,go_sem,c3,c4,c5]) rfl ⟨congrArg Ending.returned HR.out.symm,((HB.out.setCell (p:=⟨_,_,_⟩) (by simp) _).setCell (p:=⟨_,_,_⟩) (by simp) _).setCell (p:=⟨_,_,_⟩) (by simp) _⟩
   · have HR:=hh_ (NO.out (fun h=>hL h.2));subst hc;have q1:(LB.toList==S.toList)=false:=by rw[Lib.toList_data,Lib.toList_data,HLL.out];rw[beq_eq_false_iff_ne];exact hL
     have q2:¬LB.toList=S.toList:=by rw[Lib.toList_data,Lib.toList_data,HLL.out];exact hL
     clear OK NO hL HLL;go_wp2_with fail
     exact bodyPost_ret (v:=.tuple #[.agg #[.bool false,.int .i64 0,.string ⟨#[]⟩],.int .i64 4]) (by simp[results,Tryz.results127,go_sem,c3,c4,c5]) rfl ⟨congrArg Ending.returned HR.out.symm,((HB.out.setCell (p:=⟨_,_,_⟩) (by simp) _).setCell (p:=⟨_,_,_⟩) (by simp) _).setCell (p:=⟨_,_,_⟩) (by simp) _⟩
 · have HR:=hh_ (NO.out (fun h=>hc h.1));have q1:(c != 0)=true:=by simpa using hc
   clear OK NO HLL;go_wp2_with fail
   exact bodyPost_ret (v:=.tuple #[.agg #[.bool false,.int .i64 0,.string ⟨#[]⟩],.int .i64 4]) (by simp[results,Tryz.results127,go_sem,c3,c4,c5]) rfl ⟨congrArg Ending.returned HR.out.symm,((HB.out.setCell (p:=⟨_,_,_⟩) (by simp) _).setCell (p:=⟨_,_,_⟩) (by simp) _).setCell (p:=⟨_,_,_⟩) (by simp) _⟩
theorem qXe (tn:Bool) (w:World) (hE:Env w) :
    Calls Tryz.prog 127 #[.agg #[.int .i64 2,.bool tn],.string (⟨#[110,117,108,108]⟩:ByteArray)] w fun e w'=>e=.returned (qGl (qBr 2 tn (⟨#[110,117,108,108]⟩:ByteArray).data.toList))∧Below w.heap.size w w':=by
 have hs:(⟨#[110,117,108,108]⟩:ByteArray).size≤100000:=by decide
 have ci:=fun w' (hE:Env w')=>qYb (⟨#[110,117,108,108]⟩:ByteArray) w' hs hE
 have cm:=fun w'=>qB5 2 tn w'
 rw[show kMay 2=true from rfl] at cm;have hrl:=trivial;obtain⟨rn,hrn⟩:∃rn,(qCf 2 (⟨#[110,117,108,108]⟩:ByteArray).data.toList).1=rn:=⟨_,rfl⟩;obtain⟨rs,hrs⟩:∃rs,(qCf 2 (⟨#[110,117,108,108]⟩:ByteArray).data.toList).2=rs:=⟨_,rfl⟩;rw[hrn,hrs] at ci
 have hg:qBt 2 (⟨#[110,117,108,108]⟩:ByteArray).data.toList=(true,0,[]):=by
  unfold qBt;exact if_pos rfl
 have ct:∀w',Env w'→Calls Tryz.prog 174 #[.agg #[.int .i64 2,.bool tn],.agg #[.bool true,.int .i64 0,.string ⟨#[]⟩]] w' fun e w''=>e=.returned (.tuple #[.string ⟨(qBy 2 tn true 0 []).toArray⟩,.int .i64 (qA1 2 tn true 0 [])])∧Below w'.heap.size w' w'':=fun w' (hE':Env w')=>qCi 2 tn true 0 ⟨#[]⟩ w' (by decide) hE'
 have ok:=qDb 2 tn (⟨#[110,117,108,108]⟩:ByteArray).data.toList rfl hg;have no:=qC9 2 tn (⟨#[110,117,108,108]⟩:ByteArray).data.toList rfl hg;generalize qA1 2 tn true 0 []=c at *; generalize qBy 2 tn true 0 []=L at *; obtain⟨LB,hLB⟩:∃LB:ByteArray,(⟨L.toArray⟩:ByteArray)=LB:=⟨_,rfl⟩;have hLl:LB.data.toList=L:=by rw[←hLB]
 rw[hLB] at ct;have b0:=Box2.start w #[.int .i64 2,.bool tn] #[.bool false,.int .i64 0,.string ⟨#[]⟩] 41 43;have kf:=qD8;have HB0:=hh_ b0;have CI:=hh_ ci;have CM:=hh_ cm;have CT:=hh_ ct;have HE:=hh_ hE;clear b0 ci cm ct hE hg hrn hrs hLB hrl;have OK:=hh_ ok;have NO:=hh_ no;have HLL:=hh_ hLl;clear ok no hLl;go_enter Tryz.func127,Tryz.ntmps127;go_wp2_with fail
 refine(CM.out _).mono ?_;rintro en w1 ⟨rfl,b1⟩;have x1:=HB0.out.step b1;obtain⟨c1,c2,c3,c4,c5⟩:=x1.tc;have X1:=hh_ x1;clear x1 b1;go_wp2_with fail
 refine(of_2 tn _).mono ?_;rintro en w2 ⟨a,b,rfl,hp,b2⟩;have x2:=X1.out.step b2;clear c1 c2 c3 c4 c5;go_wp2_with fail
 refine(CI.out _ (HE.out.below x2.bel)).mono ?_;rintro en w3 ⟨rfl,b3⟩;have x3:=x2.step b3;obtain⟨c1,c2,c3,c4,c5⟩:=x3.tc;have bA:Below w3.heap.size w3 (w3.alloc (.cells #[.bool true,.int .i64 0,.string ⟨#[]⟩] 43)):=br_.alloc le_ _;have x4:=x3.step bA;have X3:=hh_ x3;have X4:=hh_ x4;have hl3:=x3.lt;obtain⟨a1,a2,a3,a4,a5⟩:=x4.tc;have n1:w.heap.size<w3.heap.size:=by omega
 have n2:w.heap.size+1<w3.heap.size:=by omega
 clear x2 b2 b3 x3 x4 bA;go_wp2_with fail
 refine(CT.out _ (HE.out.below X4.out.bel)).mono ?_;rintro en w5 ⟨rfl,b5⟩;have x5:=X4.out.step b5;clear c1 c2 c3 c4 c5 a1 a2 a3 a4 a5;obtain⟨c1,c2,c3,c4,c5⟩:=x5.tc;have hblk:w5.heap[w3.heap.size]?=some (.cells #[.bool true,.int .i64 0,.string ⟨#[]⟩] 43 (0,0)):=by rw[b5.block _ (by simp)];exact heap_alloc_new w3 _
 have g3:w5.cell? ⟨w3.heap.size,0,none⟩=some (.bool true):=by rw[Lib.cell_of_heap hblk];rfl
 have g4:w5.cell? ⟨w3.heap.size,1,none⟩=some (.int .i64 0):=by rw[Lib.cell_of_heap hblk];rfl
 have g5:w5.cell? ⟨w3.heap.size,2,none⟩=some (.string ⟨#[]⟩):=by rw[Lib.cell_of_heap hblk];rfl
 have f3:=Lib.frozen_of_heap x5.b2 0;have f4:=Lib.frozen_of_heap x5.b2 1;have f5:=Lib.frozen_of_heap x5.b2 2;have HB:=hh_ x5.bel;clear x5 b5 hblk;by_cases hc:c=0
 · by_cases hL:L=(⟨#[110,117,108,108]⟩:ByteArray).data.toList
   · have HR:=hh_ (OK.out hc hL);subst hc;obtain rfl:LB=(⟨#[110,117,108,108]⟩:ByteArray):=by rw[qBu (s:=LB) rfl,HLL.out,hL]
     clear OK NO hL HLL;go_wp2_with fail
     exact bodyPost_ret (v:=.tuple #[.agg #[.bool true,.int .i64 0,.string ⟨#[]⟩],.int .i64 0]) (by simp[results,Tryz.results127,go_sem,c3,c4,c5]) rfl ⟨congrArg Ending.returned HR.out.symm,((HB.out.setCell (p:=⟨_,_,_⟩) (by simp) _).setCell (p:=⟨_,_,_⟩) (by simp) _).setCell (p:=⟨_,_,_⟩) (by simp) _⟩
   · have HR:=hh_ (NO.out (fun h=>hL h.2));subst hc;have q1:(LB.toList==(⟨#[110,117,108,108]⟩:ByteArray).toList)=false:=by rw[Lib.toList_data,Lib.toList_data,HLL.out];rw[beq_eq_false_iff_ne];exact hL
     have q2:¬LB.toList=(⟨#[110,117,108,108]⟩:ByteArray).toList:=by rw[Lib.toList_data,Lib.toList_data,HLL.out];exact hL
     have q3:(LB.toList==[110,117,108,108])=false:=by rw[Lib.toList_data,HLL.out];rw[beq_eq_false_iff_ne];exact hL
     clear OK NO hL HLL;go_wp2_with fail
     exact bodyPost_ret (v:=.tuple #[.agg #[.bool false,.int .i64 0,.string ⟨#[]⟩],.int .i64 4]) (by simp[results,Tryz.results127,go_sem,c3,c4,c5]) rfl ⟨congrArg Ending.returned HR.out.symm,((HB.out.setCell (p:=⟨_,_,_⟩) (by simp) _).setCell (p:=⟨_,_,_⟩) (by simp) _).setCell (p:=⟨_,_,_⟩) (by simp) _⟩
 · have HR:=hh_ (NO.out (fun h=>hc h.1));have q1:(c != 0)=true:=by simpa using hc
   clear OK NO HLL;go_wp2_with fail
   exact bodyPost_ret (v:=.tuple #[.agg #[.bool false,.int .i64 0,.string ⟨#[]⟩],.int .i64 4]) (by simp[results,Tryz.results127,go_sem,c3,c4,c5]) rfl ⟨congrArg Ending.returned HR.out.symm,((HB.out.setCell (p:=⟨_,_,_⟩) (by simp) _).setCell (p:=⟨_,_,_⟩) (by simp) _).setCell (p:=⟨_,_,_⟩) (by simp) _⟩
theorem qW1 (tn:Bool) (S:ByteArray) (w:World) (hs0:S.size≤20000) (hE:Env w) (hN:¬S.data.toList=qNb) :
    Calls Tryz.prog 127 #[.agg #[.int .i64 2,.bool tn],.string S] w fun e w'=>e=.returned (qGl (qBr 2 tn S.data.toList))∧Below w.heap.size w w':=by
 have hs:S.size≤100000:=by omega
 have ci:=fun w' (hE:Env w')=>qYb S w' hs hE
 have cm:=fun w'=>qB5 2 tn w'
 rw[show kMay 2=true from rfl] at cm;have hrl:=qFc 2 S.data.toList;obtain⟨rn,hrn⟩:∃rn,(qCf 2 S.data.toList).1=rn:=⟨_,rfl⟩;obtain⟨rs,hrs⟩:∃rs,(qCf 2 S.data.toList).2=rs:=⟨_,rfl⟩;rw[hrn,hrs] at ci
 have hg:qBt 2 S.data.toList=(false,rn,rs):=by
  unfold qBt;rw[if_neg hN,hrn,hrs]
 rw[hrs,lenS] at hrl;have hls:(⟨rs.toArray⟩:ByteArray).size=rs.length:=List.size_toArray;have ct:∀w',Env w'→Calls Tryz.prog 174 #[.agg #[.int .i64 2,.bool tn],.agg #[.bool false,.int .i64 rn,.string ⟨rs.toArray⟩]] w' fun e w''=>e=.returned (.tuple #[.string ⟨(qBy 2 tn false rn rs).toArray⟩,.int .i64 (qA1 2 tn false rn rs)])∧Below w'.heap.size w' w'':=fun w' (hE':Env w')=>qCi 2 tn false rn ⟨rs.toArray⟩ w' (by rw[hls];omega) hE'
 have ok:=qDb 2 tn S.data.toList rfl hg;have no:=qC9 2 tn S.data.toList rfl hg;have e1:(S.toList==[110,117,108,108])=false:=by rw[Lib.toList_data];rw[beq_eq_false_iff_ne];exact hN
 have e2:¬S.toList=[110,117,108,108]:=by rw[Lib.toList_data];exact hN
 generalize qA1 2 tn false rn rs=c at *; generalize qBy 2 tn false rn rs=L at *; obtain⟨LB,hLB⟩:∃LB:ByteArray,(⟨L.toArray⟩:ByteArray)=LB:=⟨_,rfl⟩;have hLl:LB.data.toList=L:=by rw[←hLB]
 rw[hLB] at ct;have b0:=Box2.start w #[.int .i64 2,.bool tn] #[.bool false,.int .i64 0,.string ⟨#[]⟩] 41 43;have kf:=qD8;have HB0:=hh_ b0;have CI:=hh_ ci;have CM:=hh_ cm;have CT:=hh_ ct;have HE:=hh_ hE;clear b0 ci cm ct hE hg hrn hrs hLB hrl hls;have OK:=hh_ ok;have NO:=hh_ no;have HLL:=hh_ hLl;clear ok no hLl hN;go_enter Tryz.func127,Tryz.ntmps127;go_wp2_with fail
 refine(CM.out _).mono ?_;rintro en w1 ⟨rfl,b1⟩;have x1:=HB0.out.step b1;obtain⟨c1,c2,c3,c4,c5⟩:=x1.tc;have X1:=hh_ x1;clear x1 b1;go_wp2_with fail
 refine(of_2 tn _).mono ?_;rintro en w2 ⟨a,b,rfl,hp,b2⟩;have x2:=X1.out.step b2;clear c1 c2 c3 c4 c5;go_wp2_with fail
 refine(CI.out _ (HE.out.below x2.bel)).mono ?_;rintro en w3 ⟨rfl,b3⟩;have x3:=x2.step b3;obtain⟨c1,c2,c3,c4,c5⟩:=x3.tc;have bA:Below w3.heap.size w3 (w3.alloc (.cells #[.bool false,.int .i64 rn,.string ⟨rs.toArray⟩] 43)):=br_.alloc le_ _;have x4:=x3.step bA;have X3:=hh_ x3;have X4:=hh_ x4;have hl3:=x3.lt;obtain⟨a1,a2,a3,a4,a5⟩:=x4.tc;have n1:w.heap.size<w3.heap.size:=by omega
 have n2:w.heap.size+1<w3.heap.size:=by omega
 clear x2 b2 b3 x3 x4 bA;go_wp2_with fail
 refine(CT.out _ (HE.out.below X4.out.bel)).mono ?_;rintro en w5 ⟨rfl,b5⟩;have x5:=X4.out.step b5;clear c1 c2 c3 c4 c5 a1 a2 a3 a4 a5;obtain⟨c1,c2,c3,c4,c5⟩:=x5.tc;have hblk:w5.heap[w3.heap.size]?=some (.cells #[.bool false,.int .i64 rn,.string ⟨rs.toArray⟩] 43 (0,0)):=by rw[b5.block _ (by simp)];exact heap_alloc_new w3 _
 have g3:w5.cell? ⟨w3.heap.size,0,none⟩=some (.bool false):=by rw[Lib.cell_of_heap hblk];rfl
 have g4:w5.cell? ⟨w3.heap.size,1,none⟩=some (.int .i64 rn):=by rw[Lib.cell_of_heap hblk];rfl
 have g5:w5.cell? ⟨w3.heap.size,2,none⟩=some (.string ⟨rs.toArray⟩):=by rw[Lib.cell_of_heap hblk];rfl
 have f3:=Lib.frozen_of_heap x5.b2 0;have f4:=Lib.frozen_of_heap x5.b2 1;have f5:=Lib.frozen_of_heap x5.b2 2;have HB:=hh_ x5.bel;clear x5 b5 hblk;by_cases hc:c=0
 · by_cases hL:L=S.data.toList
   · have HR:=hh_ (OK.out hc hL);subst hc;obtain rfl:LB=S:=by rw[qBu (s:=LB) rfl,HLL.out,hL]
     clear OK NO hL HLL;go_wp2_with fail
     exact bodyPost_ret (v:=.tuple #[.agg #[.bool false,.int .i64 rn,.string ⟨rs.toArray⟩],.int .i64 0]) (by simp[results,Tryz.results127,go_sem,c3,c4,c5]) rfl ⟨congrArg Ending.returned HR.out.symm,((HB.out.setCell (p:=⟨_,_,_⟩) (by simp) _).setCell (p:=⟨_,_,_⟩) (by simp) _).setCell (p:=⟨_,_,_⟩) (by simp) _⟩
   · have HR:=hh_ (NO.out (fun h=>hL h.2));subst hc;have q1:(LB.toList==S.toList)=false:=by rw[Lib.toList_data,Lib.toList_data,HLL.out];rw[beq_eq_false_iff_ne];exact hL
     have q2:¬LB.toList=S.toList:=by rw[Lib.toList_data,Lib.toList_data,HLL.out];exact hL
     clear OK NO hL HLL;go_wp2_with fail
     exact bodyPost_ret (v:=.tuple #[.agg #[.bool false,.int .i64 0,.string ⟨#[]⟩],.int .i64 4]) (by simp[results,Tryz.results127,go_sem,c3,c4,c5]) rfl ⟨congrArg Ending.returned HR.out.symm,((HB.out.setCell (p:=⟨_,_,_⟩) (by simp) _).setCell (p:=⟨_,_,_⟩) (by simp) _).setCell (p:=⟨_,_,_⟩) (by simp) _⟩
 · have HR:=hh_ (NO.out (fun h=>hc h.1));have q1:(c != 0)=true:=by simpa using hc
   clear OK NO HLL;go_wp2_with fail
   exact bodyPost_ret (v:=.tuple #[.agg #[.bool false,.int .i64 0,.string ⟨#[]⟩],.int .i64 4]) (by simp[results,Tryz.results127,go_sem,c3,c4,c5]) rfl ⟨congrArg Ending.returned HR.out.symm,((HB.out.setCell (p:=⟨_,_,_⟩) (by simp) _).setCell (p:=⟨_,_,_⟩) (by simp) _).setCell (p:=⟨_,_,_⟩) (by simp) _⟩
theorem qXj (tn:Bool) (w:World) (hE:Env w) :
    Calls Tryz.prog 127 #[.agg #[.int .i64 3,.bool tn],.string (⟨#[110,117,108,108]⟩:ByteArray)] w fun e w'=>e=.returned (qGl (qBr 3 tn (⟨#[110,117,108,108]⟩:ByteArray).data.toList))∧Below w.heap.size w w':=by
 have hs:(⟨#[110,117,108,108]⟩:ByteArray).size≤100000:=by decide
 have ci:=fun w' (hE:Env w')=>qX9 (⟨#[110,117,108,108]⟩:ByteArray) w' hs hE
 have cm:=fun w'=>qB5 3 tn w'
 rw[show kMay 3=true from rfl] at cm;have hrl:=trivial;obtain⟨rn,hrn⟩:∃rn,(qCf 3 (⟨#[110,117,108,108]⟩:ByteArray).data.toList).1=rn:=⟨_,rfl⟩;obtain⟨rs,hrs⟩:∃rs,(qCf 3 (⟨#[110,117,108,108]⟩:ByteArray).data.toList).2=rs:=⟨_,rfl⟩;rw[hrn,hrs] at ci
 have hg:qBt 3 (⟨#[110,117,108,108]⟩:ByteArray).data.toList=(true,0,[]):=by
  unfold qBt;exact if_pos rfl
 have ct:∀w',Env w'→Calls Tryz.prog 174 #[.agg #[.int .i64 3,.bool tn],.agg #[.bool true,.int .i64 0,.string ⟨#[]⟩]] w' fun e w''=>e=.returned (.tuple #[.string ⟨(qBy 3 tn true 0 []).toArray⟩,.int .i64 (qA1 3 tn true 0 [])])∧Below w'.heap.size w' w'':=fun w' (hE':Env w')=>qCi 3 tn true 0 ⟨#[]⟩ w' (by decide) hE'
 have ok:=qDb 3 tn (⟨#[110,117,108,108]⟩:ByteArray).data.toList rfl hg;have no:=qC9 3 tn (⟨#[110,117,108,108]⟩:ByteArray).data.toList rfl hg;generalize qA1 3 tn true 0 []=c at *; generalize qBy 3 tn true 0 []=L at *; obtain⟨LB,hLB⟩:∃LB:ByteArray,(⟨L.toArray⟩:ByteArray)=LB:=⟨_,rfl⟩;have hLl:LB.data.toList=L:=by rw[←hLB]
 rw[hLB] at ct;have b0:=Box2.start w #[.int .i64 3,.bool tn] #[.bool false,.int .i64 0,.string ⟨#[]⟩] 41 43;have kf:=qD8;have HB0:=hh_ b0;have CI:=hh_ ci;have CM:=hh_ cm;have CT:=hh_ ct;have HE:=hh_ hE;clear b0 ci cm ct hE hg hrn hrs hLB hrl;have OK:=hh_ ok;have NO:=hh_ no;have HLL:=hh_ hLl;clear ok no hLl;go_enter Tryz.func127,Tryz.ntmps127;go_wp2_with fail
 refine(CM.out _).mono ?_;rintro en w1 ⟨rfl,b1⟩;have x1:=HB0.out.step b1;obtain⟨c1,c2,c3,c4,c5⟩:=x1.tc;have X1:=hh_ x1;clear x1 b1;go_wp2_with fail
 refine(of_3 tn _).mono ?_;rintro en w2 ⟨a,b,rfl,hp,b2⟩;have x2:=X1.out.step b2;clear c1 c2 c3 c4 c5;go_wp2_with fail
 refine(CI.out _ (HE.out.below x2.bel)).mono ?_;rintro en w3 ⟨rfl,b3⟩;have x3:=x2.step b3;obtain⟨c1,c2,c3,c4,c5⟩:=x3.tc;have bA:Below w3.heap.size w3 (w3.alloc (.cells #[.bool true,.int .i64 0,.string ⟨#[]⟩] 43)):=br_.alloc le_ _;have x4:=x3.step bA;have X3:=hh_ x3;have X4:=hh_ x4;have hl3:=x3.lt;obtain⟨a1,a2,a3,a4,a5⟩:=x4.tc;have n1:w.heap.size<w3.heap.size:=by omega
 have n2:w.heap.size+1<w3.heap.size:=by omega
 clear x2 b2 b3 x3 x4 bA;go_wp2_with fail
 refine(CT.out _ (HE.out.below X4.out.bel)).mono ?_;rintro en w5 ⟨rfl,b5⟩;have x5:=X4.out.step b5;clear c1 c2 c3 c4 c5 a1 a2 a3 a4 a5;obtain⟨c1,c2,c3,c4,c5⟩:=x5.tc;have hblk:w5.heap[w3.heap.size]?=some (.cells #[.bool true,.int .i64 0,.string ⟨#[]⟩] 43 (0,0)):=by rw[b5.block _ (by simp)];exact heap_alloc_new w3 _
 have g3:w5.cell? ⟨w3.heap.size,0,none⟩=some (.bool true):=by rw[Lib.cell_of_heap hblk];rfl
 have g4:w5.cell? ⟨w3.heap.size,1,none⟩=some (.int .i64 0):=by rw[Lib.cell_of_heap hblk];rfl
 have g5:w5.cell? ⟨w3.heap.size,2,none⟩=some (.string ⟨#[]⟩):=by rw[Lib.cell_of_heap hblk];rfl
 have f3:=Lib.frozen_of_heap x5.b2 0;have f4:=Lib.frozen_of_heap x5.b2 1;have f5:=Lib.frozen_of_heap x5.b2 2;have HB:=hh_ x5.bel;clear x5 b5 hblk;by_cases hc:c=0
 · by_cases hL:L=(⟨#[110,117,108,108]⟩:ByteArray).data.toList
   · have HR:=hh_ (OK.out hc hL);subst hc;obtain rfl:LB=(⟨#[110,117,108,108]⟩:ByteArray):=by rw[qBu (s:=LB) rfl,HLL.out,hL]
     clear OK NO hL HLL;go_wp2_with fail
     exact bodyPost_ret (v:=.tuple #[.agg #[.bool true,.int .i64 0,.string ⟨#[]⟩],.int .i64 0]) (by simp[results,Tryz.results127,go_sem,c3,c4,c5]) rfl ⟨congrArg Ending.returned HR.out.symm,((HB.out.setCell (p:=⟨_,_,_⟩) (by simp) _).setCell (p:=⟨_,_,_⟩) (by simp) _).setCell (p:=⟨_,_,_⟩) (by simp) _⟩
   · have HR:=hh_ (NO.out (fun h=>hL h.2));subst hc;have q1:(LB.toList==(⟨#[110,117,108,108]⟩:ByteArray).toList)=false:=by rw[Lib.toList_data,Lib.toList_data,HLL.out];rw[beq_eq_false_iff_ne];exact hL
     have q2:¬LB.toList=(⟨#[110,117,108,108]⟩:ByteArray).toList:=by rw[Lib.toList_data,Lib.toList_data,HLL.out];exact hL
     have q3:(LB.toList==[110,117,108,108])=false:=by rw[Lib.toList_data,HLL.out];rw[beq_eq_false_iff_ne];exact hL
     clear OK NO hL HLL;go_wp2_with fail
     exact bodyPost_ret (v:=.tuple #[.agg #[.bool false,.int .i64 0,.string ⟨#[]⟩],.int .i64 4]) (by simp[results,Tryz.results127,go_sem,c3,c4,c5]) rfl ⟨congrArg Ending.returned HR.out.symm,((HB.out.setCell (p:=⟨_,_,_⟩) (by simp) _).setCell (p:=⟨_,_,_⟩) (by simp) _).setCell (p:=⟨_,_,_⟩) (by simp) _⟩
 · have HR:=hh_ (NO.out (fun h=>hc h.1));have q1:(c != 0)=true:=by simpa using hc
   clear OK NO HLL;go_wp2_with fail
   exact bodyPost_ret (v:=.tuple #[.agg #[.bool false,.int .i64 0,.string ⟨#[]⟩],.int .i64 4]) (by simp[results,Tryz.results127,go_sem,c3,c4,c5]) rfl ⟨congrArg Ending.returned HR.out.symm,((HB.out.setCell (p:=⟨_,_,_⟩) (by simp) _).setCell (p:=⟨_,_,_⟩) (by simp) _).setCell (p:=⟨_,_,_⟩) (by simp) _⟩
theorem qV7 (tn:Bool) (S:ByteArray) (w:World) (hs0:S.size≤20000) (hE:Env w) (hN:¬S.data.toList=qNb) :
    Calls Tryz.prog 127 #[.agg #[.int .i64 3,.bool tn],.string S] w fun e w'=>e=.returned (qGl (qBr 3 tn S.data.toList))∧Below w.heap.size w w':=by
 have hs:S.size≤100000:=by omega
 have ci:=fun w' (hE:Env w')=>qX9 S w' hs hE
 have cm:=fun w'=>qB5 3 tn w'
 rw[show kMay 3=true from rfl] at cm;have hrl:=qFc 3 S.data.toList;obtain⟨rn,hrn⟩:∃rn,(qCf 3 S.data.toList).1=rn:=⟨_,rfl⟩;obtain⟨rs,hrs⟩:∃rs,(qCf 3 S.data.toList).2=rs:=⟨_,rfl⟩;rw[hrn,hrs] at ci
 have hg:qBt 3 S.data.toList=(false,rn,rs):=by
  unfold qBt;rw[if_neg hN,hrn,hrs]
 rw[hrs,lenS] at hrl;have hls:(⟨rs.toArray⟩:ByteArray).size=rs.length:=List.size_toArray;have ct:∀w',Env w'→Calls Tryz.prog 174 #[.agg #[.int .i64 3,.bool tn],.agg #[.bool false,.int .i64 rn,.string ⟨rs.toArray⟩]] w' fun e w''=>e=.returned (.tuple #[.string ⟨(qBy 3 tn false rn rs).toArray⟩,.int .i64 (qA1 3 tn false rn rs)])∧Below w'.heap.size w' w'':=fun w' (hE':Env w')=>qCi 3 tn false rn ⟨rs.toArray⟩ w' (by rw[hls];omega) hE'
 have ok:=qDb 3 tn S.data.toList rfl hg;have no:=qC9 3 tn S.data.toList rfl hg;have e1:(S.toList==[110,117,108,108])=false:=by rw[Lib.toList_data];rw[beq_eq_false_iff_ne];exact hN
 have e2:¬S.toList=[110,117,108,108]:=by rw[Lib.toList_data];exact hN
 generalize qA1 3 tn false rn rs=c at *; generalize qBy 3 tn false rn rs=L at *; obtain⟨LB,hLB⟩:∃LB:ByteArray,(⟨L.toArray⟩:ByteArray)=LB:=⟨_,rfl⟩;have hLl:LB.data.toList=L:=by rw[←hLB]
 rw[hLB] at ct;have b0:=Box2.start w #[.int .i64 3,.bool tn] #[.bool false,.int .i64 0,.string ⟨#[]⟩] 41 43;have kf:=qD8;have HB0:=hh_ b0;have CI:=hh_ ci;have CM:=hh_ cm;have CT:=hh_ ct;have HE:=hh_ hE;clear b0 ci cm ct hE hg hrn hrs hLB hrl hls;have OK:=hh_ ok;have NO:=hh_ no;have HLL:=hh_ hLl;clear ok no hLl hN;go_enter Tryz.func127,Tryz.ntmps127;go_wp2_with fail
 refine(CM.out _).mono ?_;rintro en w1 ⟨rfl,b1⟩;have x1:=HB0.out.step b1;obtain⟨c1,c2,c3,c4,c5⟩:=x1.tc;have X1:=hh_ x1;clear x1 b1;go_wp2_with fail
 refine(of_3 tn _).mono ?_;rintro en w2 ⟨a,b,rfl,hp,b2⟩;have x2:=X1.out.step b2;clear c1 c2 c3 c4 c5;go_wp2_with fail
 refine(CI.out _ (HE.out.below x2.bel)).mono ?_;rintro en w3 ⟨rfl,b3⟩;have x3:=x2.step b3;obtain⟨c1,c2,c3,c4,c5⟩:=x3.tc;have bA:Below w3.heap.size w3 (w3.alloc (.cells #[.bool false,.int .i64 rn,.string ⟨rs.toArray⟩] 43)):=br_.alloc le_ _;have x4:=x3.step bA;have X3:=hh_ x3;have X4:=hh_ x4;have hl3:=x3.lt;obtain⟨a1,a2,a3,a4,a5⟩:=x4.tc;have n1:w.heap.size<w3.heap.size:=by omega
 have n2:w.heap.size+1<w3.heap.size:=by omega
 clear x2 b2 b3 x3 x4 bA;go_wp2_with fail
 refine(CT.out _ (HE.out.below X4.out.bel)).mono ?_;rintro en w5 ⟨rfl,b5⟩;have x5:=X4.out.step b5;clear c1 c2 c3 c4 c5 a1 a2 a3 a4 a5;obtain⟨c1,c2,c3,c4,c5⟩:=x5.tc;have hblk:w5.heap[w3.heap.size]?=some (.cells #[.bool false,.int .i64 rn,.string ⟨rs.toArray⟩] 43 (0,0)):=by rw[b5.block _ (by simp)];exact heap_alloc_new w3 _
 have g3:w5.cell? ⟨w3.heap.size,0,none⟩=some (.bool false):=by rw[Lib.cell_of_heap hblk];rfl
 have g4:w5.cell? ⟨w3.heap.size,1,none⟩=some (.int .i64 rn):=by rw[Lib.cell_of_heap hblk];rfl
 have g5:w5.cell? ⟨w3.heap.size,2,none⟩=some (.string ⟨rs.toArray⟩):=by rw[Lib.cell_of_heap hblk];rfl
 have f3:=Lib.frozen_of_heap x5.b2 0;have f4:=Lib.frozen_of_heap x5.b2 1;have f5:=Lib.frozen_of_heap x5.b2 2;have HB:=hh_ x5.bel;clear x5 b5 hblk;by_cases hc:c=0
 · by_cases hL:L=S.data.toList
   · have HR:=hh_ (OK.out hc hL);subst hc;obtain rfl:LB=S:=by rw[qBu (s:=LB) rfl,HLL.out,hL]
     clear OK NO hL HLL;go_wp2_with fail
     exact bodyPost_ret (v:=.tuple #[.agg #[.bool false,.int .i64 rn,.string ⟨rs.toArray⟩],.int .i64 0]) (by simp[results,Tryz.results127,go_sem,c3,c4,c5]) rfl ⟨congrArg Ending.returned HR.out.symm,((HB.out.setCell (p:=⟨_,_,_⟩) (by simp) _).setCell (p:=⟨_,_,_⟩) (by simp) _).setCell (p:=⟨_,_,_⟩) (by simp) _⟩
   · have HR:=hh_ (NO.out (fun h=>hL h.2));subst hc;have q1:(LB.toList==S.toList)=false:=by rw[Lib.toList_data,Lib.toList_data,HLL.out];rw[beq_eq_false_iff_ne];exact hL
     have q2:¬LB.toList=S.toList:=by rw[Lib.toList_data,Lib.toList_data,HLL.out];exact hL
     clear OK NO hL HLL;go_wp2_with fail
     exact bodyPost_ret (v:=.tuple #[.agg #[.bool false,.int .i64 0,.string ⟨#[]⟩],.int .i64 4]) (by simp[results,Tryz.results127,go_sem,c3,c4,c5]) rfl ⟨congrArg Ending.returned HR.out.symm,((HB.out.setCell (p:=⟨_,_,_⟩) (by simp) _).setCell (p:=⟨_,_,_⟩) (by simp) _).setCell (p:=⟨_,_,_⟩) (by simp) _⟩
 · have HR:=hh_ (NO.out (fun h=>hc h.1));have q1:(c != 0)=true:=by simpa using hc
   clear OK NO HLL;go_wp2_with fail
   exact bodyPost_ret (v:=.tuple #[.agg #[.bool false,.int .i64 0,.string ⟨#[]⟩],.int .i64 4]) (by simp[results,Tryz.results127,go_sem,c3,c4,c5]) rfl ⟨congrArg Ending.returned HR.out.symm,((HB.out.setCell (p:=⟨_,_,_⟩) (by simp) _).setCell (p:=⟨_,_,_⟩) (by simp) _).setCell (p:=⟨_,_,_⟩) (by simp) _⟩
theorem qXo (tn:Bool) (w:World) (hE:Env w) :
    Calls Tryz.prog 127 #[.agg #[.int .i64 4,.bool tn],.string (⟨#[110,117,108,108]⟩:ByteArray)] w fun e w'=>e=.returned (qGl (qBr 4 tn (⟨#[110,117,108,108]⟩:ByteArray).data.toList))∧Below w.heap.size w w':=by
 have hs:(⟨#[110,117,108,108]⟩:ByteArray).size≤100000:=by decide
 have ci:=fun w' (hE:Env w')=>qXy (⟨#[110,117,108,108]⟩:ByteArray) w' hs hE
 have cm:=fun w'=>qB5 4 tn w'
 rw[show kMay 4=true from rfl] at cm;have hrl:=trivial;obtain⟨rn,hrn⟩:∃rn,(qCf 4 (⟨#[110,117,108,108]⟩:ByteArray).data.toList).1=rn:=⟨_,rfl⟩;obtain⟨rs,hrs⟩:∃rs,(qCf 4 (⟨#[110,117,108,108]⟩:ByteArray).data.toList).2=rs:=⟨_,rfl⟩;rw[hrn,hrs] at ci
 have hg:qBt 4 (⟨#[110,117,108,108]⟩:ByteArray).data.toList=(true,0,[]):=by
  unfold qBt;exact if_pos rfl
 have ct:∀w',Env w'→Calls Tryz.prog 174 #[.agg #[.int .i64 4,.bool tn],.agg #[.bool true,.int .i64 0,.string ⟨#[]⟩]] w' fun e w''=>e=.returned (.tuple #[.string ⟨(qBy 4 tn true 0 []).toArray⟩,.int .i64 (qA1 4 tn true 0 [])])∧Below w'.heap.size w' w'':=fun w' (hE':Env w')=>qCi 4 tn true 0 ⟨#[]⟩ w' (by decide) hE'
 have ok:=qDb 4 tn (⟨#[110,117,108,108]⟩:ByteArray).data.toList rfl hg;have no:=qC9 4 tn (⟨#[110,117,108,108]⟩:ByteArray).data.toList rfl hg;generalize qA1 4 tn true 0 []=c at *; generalize qBy 4 tn true 0 []=L at *; obtain⟨LB,hLB⟩:∃LB:ByteArray,(⟨L.toArray⟩:ByteArray)=LB:=⟨_,rfl⟩;have hLl:LB.data.toList=L:=by rw[←hLB]
 rw[hLB] at ct;have b0:=Box2.start w #[.int .i64 4,.bool tn] #[.bool false,.int .i64 0,.string ⟨#[]⟩] 41 43;have kf:=qD8;have HB0:=hh_ b0;have CI:=hh_ ci;have CM:=hh_ cm;have CT:=hh_ ct;have HE:=hh_ hE;clear b0 ci cm ct hE hg hrn hrs hLB hrl;have OK:=hh_ ok;have NO:=hh_ no;have HLL:=hh_ hLl;clear ok no hLl;go_enter Tryz.func127,Tryz.ntmps127;go_wp2_with fail
 refine(CM.out _).mono ?_;rintro en w1 ⟨rfl,b1⟩;have x1:=HB0.out.step b1;obtain⟨c1,c2,c3,c4,c5⟩:=x1.tc;have X1:=hh_ x1;clear x1 b1;go_wp2_with fail
 refine(of_4 tn _).mono ?_;rintro en w2 ⟨a,rfl,hp,b2⟩;have x2:=X1.out.step b2;clear c1 c2 c3 c4 c5;go_wp2_with fail
 refine(CI.out _ (HE.out.below x2.bel)).mono ?_;rintro en w3 ⟨rfl,b3⟩;have x3:=x2.step b3;obtain⟨c1,c2,c3,c4,c5⟩:=x3.tc;have bA:Below w3.heap.size w3 (w3.alloc (.cells #[.bool true,.int .i64 0,.string ⟨#[]⟩] 43)):=br_.alloc le_ _;have x4:=x3.step bA;have X3:=hh_ x3;have X4:=hh_ x4;have hl3:=x3.lt;obtain⟨a1,a2,a3,a4,a5⟩:=x4.tc;have n1:w.heap.size<w3.heap.size:=by omega
 have n2:w.heap.size+1<w3.heap.size:=by omega
 clear x2 b2 b3 x3 x4 bA;go_wp2_with fail
 refine(CT.out _ (HE.out.below X4.out.bel)).mono ?_;rintro en w5 ⟨rfl,b5⟩;have x5:=X4.out.step b5;clear c1 c2 c3 c4 c5 a1 a2 a3 a4 a5;obtain⟨c1,c2,c3,c4,c5⟩:=x5.tc;have hblk:w5.heap[w3.heap.size]?=some (.cells #[.bool true,.int .i64 0,.string ⟨#[]⟩] 43 (0,0)):=by rw[b5.block _ (by simp)];exact heap_alloc_new w3 _
 have g3:w5.cell? ⟨w3.heap.size,0,none⟩=some (.bool true):=by rw[Lib.cell_of_heap hblk];rfl
 have g4:w5.cell? ⟨w3.heap.size,1,none⟩=some (.int .i64 0):=by rw[Lib.cell_of_heap hblk];rfl
 have g5:w5.cell? ⟨w3.heap.size,2,none⟩=some (.string ⟨#[]⟩):=by rw[Lib.cell_of_heap hblk];rfl
 have f3:=Lib.frozen_of_heap x5.b2 0;have f4:=Lib.frozen_of_heap x5.b2 1;have f5:=Lib.frozen_of_heap x5.b2 2;have HB:=hh_ x5.bel;clear x5 b5 hblk;by_cases hc:c=0
 · by_cases hL:L=(⟨#[110,117,108,108]⟩:ByteArray).data.toList
   · have HR:=hh_ (OK.out hc hL);subst hc;obtain rfl:LB=(⟨#[110,117,108,108]⟩:ByteArray):=by rw[qBu (s:=LB) rfl,HLL.out,hL]
     clear OK NO hL HLL;go_wp2_with fail
     exact bodyPost_ret (v:=.tuple #[.agg #[.bool true,.int .i64 0,.string ⟨#[]⟩],.int .i64 0]) (by simp[results,Tryz.results127,go_sem,c3,c4,c5]) rfl ⟨congrArg Ending.returned HR.out.symm,((HB.out.setCell (p:=⟨_,_,_⟩) (by simp) _).setCell (p:=⟨_,_,_⟩) (by simp) _).setCell (p:=⟨_,_,_⟩) (by simp) _⟩
   · have HR:=hh_ (NO.out (fun h=>hL h.2));subst hc;have q1:(LB.toList==(⟨#[110,117,108,108]⟩:ByteArray).toList)=false:=by rw[Lib.toList_data,Lib.toList_data,HLL.out];rw[beq_eq_false_iff_ne];exact hL
     have q2:¬LB.toList=(⟨#[110,117,108,108]⟩:ByteArray).toList:=by rw[Lib.toList_data,Lib.toList_data,HLL.out];exact hL
     have q3:(LB.toList==[110,117,108,108])=false:=by rw[Lib.toList_data,HLL.out];rw[beq_eq_false_iff_ne];exact hL
     clear OK NO hL HLL;go_wp2_with fail
     exact bodyPost_ret (v:=.tuple #[.agg #[.bool false,.int .i64 0,.string ⟨#[]⟩],.int .i64 4]) (by simp[results,Tryz.results127,go_sem,c3,c4,c5]) rfl ⟨congrArg Ending.returned HR.out.symm,((HB.out.setCell (p:=⟨_,_,_⟩) (by simp) _).setCell (p:=⟨_,_,_⟩) (by simp) _).setCell (p:=⟨_,_,_⟩) (by simp) _⟩
 · have HR:=hh_ (NO.out (fun h=>hc h.1));have q1:(c != 0)=true:=by simpa using hc
   clear OK NO HLL;go_wp2_with fail
   exact bodyPost_ret (v:=.tuple #[.agg #[.bool false,.int .i64 0,.string ⟨#[]⟩],.int .i64 4]) (by simp[results,Tryz.results127,go_sem,c3,c4,c5]) rfl ⟨congrArg Ending.returned HR.out.symm,((HB.out.setCell (p:=⟨_,_,_⟩) (by simp) _).setCell (p:=⟨_,_,_⟩) (by simp) _).setCell (p:=⟨_,_,_⟩) (by simp) _⟩
theorem qWt (tn:Bool) (S:ByteArray) (w:World) (hs0:S.size≤20000) (hE:Env w) (hN:¬S.data.toList=qNb) :
    Calls Tryz.prog 127 #[.agg #[.int .i64 4,.bool tn],.string S] w fun e w'=>e=.returned (qGl (qBr 4 tn S.data.toList))∧Below w.heap.size w w':=by
 have hs:S.size≤100000:=by omega
 have ci:=fun w' (hE:Env w')=>qXy S w' hs hE
 have cm:=fun w'=>qB5 4 tn w'
 rw[show kMay 4=true from rfl] at cm;have hrl:=qFc 4 S.data.toList;obtain⟨rn,hrn⟩:∃rn,(qCf 4 S.data.toList).1=rn:=⟨_,rfl⟩;obtain⟨rs,hrs⟩:∃rs,(qCf 4 S.data.toList).2=rs:=⟨_,rfl⟩;rw[hrn,hrs] at ci
 have hg:qBt 4 S.data.toList=(false,rn,rs):=by
  unfold qBt;rw[if_neg hN,hrn,hrs]
 rw[hrs,lenS] at hrl;have hls:(⟨rs.toArray⟩:ByteArray).size=rs.length:=List.size_toArray;have ct:∀w',Env w'→Calls Tryz.prog 174 #[.agg #[.int .i64 4,.bool tn],.agg #[.bool false,.int .i64 rn,.string ⟨rs.toArray⟩]] w' fun e w''=>e=.returned (.tuple #[.string ⟨(qBy 4 tn false rn rs).toArray⟩,.int .i64 (qA1 4 tn false rn rs)])∧Below w'.heap.size w' w'':=fun w' (hE':Env w')=>qCi 4 tn false rn ⟨rs.toArray⟩ w' (by rw[hls];omega) hE'
 have ok:=qDb 4 tn S.data.toList rfl hg;have no:=qC9 4 tn S.data.toList rfl hg;have e1:(S.toList==[110,117,108,108])=false:=by rw[Lib.toList_data];rw[beq_eq_false_iff_ne];exact hN
 have e2:¬S.toList=[110,117,108,108]:=by rw[Lib.toList_data];exact hN
 generalize qA1 4 tn false rn rs=c at *; generalize qBy 4 tn false rn rs=L at *; obtain⟨LB,hLB⟩:∃LB:ByteArray,(⟨L.toArray⟩:ByteArray)=LB:=⟨_,rfl⟩;have hLl:LB.data.toList=L:=by rw[←hLB]
 rw[hLB] at ct;have b0:=Box2.start w #[.int .i64 4,.bool tn] #[.bool false,.int .i64 0,.string ⟨#[]⟩] 41 43;have kf:=qD8;have HB0:=hh_ b0;have CI:=hh_ ci;have CM:=hh_ cm;have CT:=hh_ ct;have HE:=hh_ hE;clear b0 ci cm ct hE hg hrn hrs hLB hrl hls;have OK:=hh_ ok;have NO:=hh_ no;have HLL:=hh_ hLl;clear ok no hLl hN;go_enter Tryz.func127,Tryz.ntmps127;go_wp2_with fail
 refine(CM.out _).mono ?_;rintro en w1 ⟨rfl,b1⟩;have x1:=HB0.out.step b1;obtain⟨c1,c2,c3,c4,c5⟩:=x1.tc;have X1:=hh_ x1;clear x1 b1;go_wp2_with fail
 refine(of_4 tn _).mono ?_;rintro en w2 ⟨a,rfl,hp,b2⟩;have x2:=X1.out.step b2;clear c1 c2 c3 c4 c5;go_wp2_with fail
 refine(CI.out _ (HE.out.below x2.bel)).mono ?_;rintro en w3 ⟨rfl,b3⟩;have x3:=x2.step b3;obtain⟨c1,c2,c3,c4,c5⟩:=x3.tc;have bA:Below w3.heap.size w3 (w3.alloc (.cells #[.bool false,.int .i64 rn,.string ⟨rs.toArray⟩] 43)):=br_.alloc le_ _;have x4:=x3.step bA;have X3:=hh_ x3;have X4:=hh_ x4;have hl3:=x3.lt;obtain⟨a1,a2,a3,a4,a5⟩:=x4.tc;have n1:w.heap.size<w3.heap.size:=by omega
 have n2:w.heap.size+1<w3.heap.size:=by omega
 clear x2 b2 b3 x3 x4 bA;go_wp2_with fail
 refine(CT.out _ (HE.out.below X4.out.bel)).mono ?_;rintro en w5 ⟨rfl,b5⟩;have x5:=X4.out.step b5;clear c1 c2 c3 c4 c5 a1 a2 a3 a4 a5;obtain⟨c1,c2,c3,c4,c5⟩:=x5.tc;have hblk:w5.heap[w3.heap.size]?=some (.cells #[.bool false,.int .i64 rn,.string ⟨rs.toArray⟩] 43 (0,0)):=by rw[b5.block _ (by simp)];exact heap_alloc_new w3 _
 have g3:w5.cell? ⟨w3.heap.size,0,none⟩=some (.bool false):=by rw[Lib.cell_of_heap hblk];rfl
 have g4:w5.cell? ⟨w3.heap.size,1,none⟩=some (.int .i64 rn):=by rw[Lib.cell_of_heap hblk];rfl
 have g5:w5.cell? ⟨w3.heap.size,2,none⟩=some (.string ⟨rs.toArray⟩):=by rw[Lib.cell_of_heap hblk];rfl
 have f3:=Lib.frozen_of_heap x5.b2 0;have f4:=Lib.frozen_of_heap x5.b2 1;have f5:=Lib.frozen_of_heap x5.b2 2;have HB:=hh_ x5.bel;clear x5 b5 hblk;by_cases hc:c=0
 · by_cases hL:L=S.data.toList
   · have HR:=hh_ (OK.out hc hL);subst hc;obtain rfl:LB=S:=by rw[qBu (s:=LB) rfl,HLL.out,hL]
     clear OK NO hL HLL;go_wp2_with fail
     exact bodyPost_ret (v:=.tuple #[.agg #[.bool false,.int .i64 rn,.string ⟨rs.toArray⟩],.int .i64 0]) (by simp[results,Tryz.results127,go_sem,c3,c4,c5]) rfl ⟨congrArg Ending.returned HR.out.symm,((HB.out.setCell (p:=⟨_,_,_⟩) (by simp) _).setCell (p:=⟨_,_,_⟩) (by simp) _).setCell (p:=⟨_,_,_⟩) (by simp) _⟩
   · have HR:=hh_ (NO.out (fun h=>hL h.2));subst hc;have q1:(LB.toList==S.toList)=false:=by rw[Lib.toList_data,Lib.toList_data,HLL.out];rw[beq_eq_false_iff_ne];exact hL
     have q2:¬LB.toList=S.toList:=by rw[Lib.toList_data,Lib.toList_data,HLL.out];exact hL
     clear OK NO hL HLL;go_wp2_with fail
     exact bodyPost_ret (v:=.tuple #[.agg #[.bool false,.int .i64 0,.string ⟨#[]⟩],.int .i64 4]) (by simp[results,Tryz.results127,go_sem,c3,c4,c5]) rfl ⟨congrArg Ending.returned HR.out.symm,((HB.out.setCell (p:=⟨_,_,_⟩) (by simp) _).setCell (p:=⟨_,_,_⟩) (by simp) _).setCell (p:=⟨_,_,_⟩) (by simp) _⟩
 · have HR:=hh_ (NO.out (fun h=>hc h.1));have q1:(c != 0)=true:=by simpa using hc
   clear OK NO HLL;go_wp2_with fail
   exact bodyPost_ret (v:=.tuple #[.agg #[.bool false,.int .i64 0,.string ⟨#[]⟩],.int .i64 4]) (by simp[results,Tryz.results127,go_sem,c3,c4,c5]) rfl ⟨congrArg Ending.returned HR.out.symm,((HB.out.setCell (p:=⟨_,_,_⟩) (by simp) _).setCell (p:=⟨_,_,_⟩) (by simp) _).setCell (p:=⟨_,_,_⟩) (by simp) _⟩
theorem qXq (tn:Bool) (w:World) (hE:Env w) :
    Calls Tryz.prog 127 #[.agg #[.int .i64 5,.bool tn],.string (⟨#[110,117,108,108]⟩:ByteArray)] w fun e w'=>e=.returned (qGl (qBr 5 tn (⟨#[110,117,108,108]⟩:ByteArray).data.toList))∧Below w.heap.size w w':=by
 have hs:(⟨#[110,117,108,108]⟩:ByteArray).size≤100000:=by decide
 have ci:=fun w'=>qX3 (⟨#[110,117,108,108]⟩:ByteArray) w' hs
 have cm:=fun w'=>qB5 5 tn w'
 rw[show kMay 5=true from rfl] at cm;have hrl:=trivial;obtain⟨rn,hrn⟩:∃rn,(qCf 5 (⟨#[110,117,108,108]⟩:ByteArray).data.toList).1=rn:=⟨_,rfl⟩;obtain⟨rs,hrs⟩:∃rs,(qCf 5 (⟨#[110,117,108,108]⟩:ByteArray).data.toList).2=rs:=⟨_,rfl⟩;rw[hrn,hrs] at ci
 have hg:qBt 5 (⟨#[110,117,108,108]⟩:ByteArray).data.toList=(true,0,[]):=by
  unfold qBt;exact if_pos rfl
 have ct:∀w',Env w'→Calls Tryz.prog 174 #[.agg #[.int .i64 5,.bool tn],.agg #[.bool true,.int .i64 0,.string ⟨#[]⟩]] w' fun e w''=>e=.returned (.tuple #[.string ⟨(qBy 5 tn true 0 []).toArray⟩,.int .i64 (qA1 5 tn true 0 [])])∧Below w'.heap.size w' w'':=fun w' (hE':Env w')=>qCi 5 tn true 0 ⟨#[]⟩ w' (by decide) hE'
 have ok:=qDb 5 tn (⟨#[110,117,108,108]⟩:ByteArray).data.toList rfl hg;have no:=qC9 5 tn (⟨#[110,117,108,108]⟩:ByteArray).data.toList rfl hg;generalize qA1 5 tn true 0 []=c at *; generalize qBy 5 tn true 0 []=L at *; obtain⟨LB,hLB⟩:∃LB:ByteArray,(⟨L.toArray⟩:ByteArray)=LB:=⟨_,rfl⟩;have hLl:LB.data.toList=L:=by rw[←hLB]
 rw[hLB] at ct;have b0:=Box2.start w #[.int .i64 5,.bool tn] #[.bool false,.int .i64 0,.string ⟨#[]⟩] 41 43;have kf:=qD8;have HB0:=hh_ b0;have CI:=hh_ ci;have CM:=hh_ cm;have CT:=hh_ ct;have HE:=hh_ hE;clear b0 ci cm ct hE hg hrn hrs hLB hrl;have OK:=hh_ ok;have NO:=hh_ no;have HLL:=hh_ hLl;clear ok no hLl;go_enter Tryz.func127,Tryz.ntmps127;go_wp2_with fail
 refine(CM.out _).mono ?_;rintro en w1 ⟨rfl,b1⟩;have x1:=HB0.out.step b1;obtain⟨c1,c2,c3,c4,c5⟩:=x1.tc;have X1:=hh_ x1;clear x1 b1;go_wp2_with fail
 refine(of_5 tn _).mono ?_;rintro en w2 ⟨rfl,b2⟩;have x2:=X1.out.step b2;clear c1 c2 c3 c4 c5;go_wp2_with fail
 refine(CI.out _).mono ?_;rintro en w3 ⟨rfl,b3⟩;have x3:=x2.step b3;obtain⟨c1,c2,c3,c4,c5⟩:=x3.tc;have bA:Below w3.heap.size w3 (w3.alloc (.cells #[.bool true,.int .i64 0,.string ⟨#[]⟩] 43)):=br_.alloc le_ _;have x4:=x3.step bA;have X3:=hh_ x3;have X4:=hh_ x4;have hl3:=x3.lt;obtain⟨a1,a2,a3,a4,a5⟩:=x4.tc;have n1:w.heap.size<w3.heap.size:=by omega
 have n2:w.heap.size+1<w3.heap.size:=by omega
 clear x2 b2 b3 x3 x4 bA;go_wp2_with fail
 refine(CT.out _ (HE.out.below X4.out.bel)).mono ?_;rintro en w5 ⟨rfl,b5⟩;have x5:=X4.out.step b5;clear c1 c2 c3 c4 c5 a1 a2 a3 a4 a5;obtain⟨c1,c2,c3,c4,c5⟩:=x5.tc;have hblk:w5.heap[w3.heap.size]?=some (.cells #[.bool true,.int .i64 0,.string ⟨#[]⟩] 43 (0,0)):=by rw[b5.block _ (by simp)];exact heap_alloc_new w3 _
 have g3:w5.cell? ⟨w3.heap.size,0,none⟩=some (.bool true):=by rw[Lib.cell_of_heap hblk];rfl
 have g4:w5.cell? ⟨w3.heap.size,1,none⟩=some (.int .i64 0):=by rw[Lib.cell_of_heap hblk];rfl
 have g5:w5.cell? ⟨w3.heap.size,2,none⟩=some (.string ⟨#[]⟩):=by rw[Lib.cell_of_heap hblk];rfl
 have f3:=Lib.frozen_of_heap x5.b2 0;have f4:=Lib.frozen_of_heap x5.b2 1;have f5:=Lib.frozen_of_heap x5.b2 2;have HB:=hh_ x5.bel;clear x5 b5 hblk;by_cases hc:c=0
 · by_cases hL:L=(⟨#[110,117,108,108]⟩:ByteArray).data.toList
   · have HR:=hh_ (OK.out hc hL);subst hc;obtain rfl:LB=(⟨#[110,117,108,108]⟩:ByteArray):=by rw[qBu (s:=LB) rfl,HLL.out,hL]
     clear OK NO hL HLL;go_wp2_with fail
     exact bodyPost_ret (v:=.tuple #[.agg #[.bool true,.int .i64 0,.string ⟨#[]⟩],.int .i64 0]) (by simp[results,Tryz.results127,go_sem,c3,c4,c5]) rfl ⟨congrArg Ending.returned HR.out.symm,((HB.out.setCell (p:=⟨_,_,_⟩) (by simp) _).setCell (p:=⟨_,_,_⟩) (by simp) _).setCell (p:=⟨_,_,_⟩) (by simp) _⟩
   · have HR:=hh_ (NO.out (fun h=>hL h.2));subst hc;have q1:(LB.toList==(⟨#[110,117,108,108]⟩:ByteArray).toList)=false:=by rw[Lib.toList_data,Lib.toList_data,HLL.out];rw[beq_eq_false_iff_ne];exact hL
     have q2:¬LB.toList=(⟨#[110,117,108,108]⟩:ByteArray).toList:=by rw[Lib.toList_data,Lib.toList_data,HLL.out];exact hL
     have q3:(LB.toList==[110,117,108,108])=false:=by rw[Lib.toList_data,HLL.out];rw[beq_eq_false_iff_ne];exact hL
     clear OK NO hL HLL;go_wp2_with fail
     exact bodyPost_ret (v:=.tuple #[.agg #[.bool false,.int .i64 0,.string ⟨#[]⟩],.int .i64 4]) (by simp[results,Tryz.results127,go_sem,c3,c4,c5]) rfl ⟨congrArg Ending.returned HR.out.symm,((HB.out.setCell (p:=⟨_,_,_⟩) (by simp) _).setCell (p:=⟨_,_,_⟩) (by simp) _).setCell (p:=⟨_,_,_⟩) (by simp) _⟩
 · have HR:=hh_ (NO.out (fun h=>hc h.1));have q1:(c != 0)=true:=by simpa using hc
   clear OK NO HLL;go_wp2_with fail
   exact bodyPost_ret (v:=.tuple #[.agg #[.bool false,.int .i64 0,.string ⟨#[]⟩],.int .i64 4]) (by simp[results,Tryz.results127,go_sem,c3,c4,c5]) rfl ⟨congrArg Ending.returned HR.out.symm,((HB.out.setCell (p:=⟨_,_,_⟩) (by simp) _).setCell (p:=⟨_,_,_⟩) (by simp) _).setCell (p:=⟨_,_,_⟩) (by simp) _⟩
theorem qWz (tn:Bool) (S:ByteArray) (w:World) (hs0:S.size≤20000) (hE:Env w) (hN:¬S.data.toList=qNb) :
    Calls Tryz.prog 127 #[.agg #[.int .i64 5,.bool tn],.string S] w fun e w'=>e=.returned (qGl (qBr 5 tn S.data.toList))∧Below w.heap.size w w':=by
 have hs:S.size≤100000:=by omega
 have ci:=fun w'=>qX3 S w' hs
 have cm:=fun w'=>qB5 5 tn w'
 rw[show kMay 5=true from rfl] at cm;have hrl:=qFc 5 S.data.toList;obtain⟨rn,hrn⟩:∃rn,(qCf 5 S.data.toList).1=rn:=⟨_,rfl⟩;obtain⟨rs,hrs⟩:∃rs,(qCf 5 S.data.toList).2=rs:=⟨_,rfl⟩;rw[hrn,hrs] at ci
 have hg:qBt 5 S.data.toList=(false,rn,rs):=by
  unfold qBt;rw[if_neg hN,hrn,hrs]
 rw[hrs,lenS] at hrl;have hls:(⟨rs.toArray⟩:ByteArray).size=rs.length:=List.size_toArray;have ct:∀w',Env w'→Calls Tryz.prog 174 #[.agg #[.int .i64 5,.bool tn],.agg #[.bool false,.int .i64 rn,.string ⟨rs.toArray⟩]] w' fun e w''=>e=.returned (.tuple #[.string ⟨(qBy 5 tn false rn rs).toArray⟩,.int .i64 (qA1 5 tn false rn rs)])∧Below w'.heap.size w' w'':=fun w' (hE':Env w')=>qCi 5 tn false rn ⟨rs.toArray⟩ w' (by rw[hls];omega) hE'
 have ok:=qDb 5 tn S.data.toList rfl hg;have no:=qC9 5 tn S.data.toList rfl hg;have e1:(S.toList==[110,117,108,108])=false:=by rw[Lib.toList_data];rw[beq_eq_false_iff_ne];exact hN
 have e2:¬S.toList=[110,117,108,108]:=by rw[Lib.toList_data];exact hN
 generalize qA1 5 tn false rn rs=c at *; generalize qBy 5 tn false rn rs=L at *; obtain⟨LB,hLB⟩:∃LB:ByteArray,(⟨L.toArray⟩:ByteArray)=LB:=⟨_,rfl⟩;have hLl:LB.data.toList=L:=by rw[←hLB]
 rw[hLB] at ct;have b0:=Box2.start w #[.int .i64 5,.bool tn] #[.bool false,.int .i64 0,.string ⟨#[]⟩] 41 43;have kf:=qD8;have HB0:=hh_ b0;have CI:=hh_ ci;have CM:=hh_ cm;have CT:=hh_ ct;have HE:=hh_ hE;clear b0 ci cm ct hE hg hrn hrs hLB hrl hls;have OK:=hh_ ok;have NO:=hh_ no;have HLL:=hh_ hLl;clear ok no hLl hN;go_enter Tryz.func127,Tryz.ntmps127;go_wp2_with fail
 refine(CM.out _).mono ?_;rintro en w1 ⟨rfl,b1⟩;have x1:=HB0.out.step b1;obtain⟨c1,c2,c3,c4,c5⟩:=x1.tc;have X1:=hh_ x1;clear x1 b1;go_wp2_with fail
 refine(of_5 tn _).mono ?_;rintro en w2 ⟨rfl,b2⟩;have x2:=X1.out.step b2;clear c1 c2 c3 c4 c5;go_wp2_with fail
 refine(CI.out _).mono ?_;rintro en w3 ⟨rfl,b3⟩;have x3:=x2.step b3;obtain⟨c1,c2,c3,c4,c5⟩:=x3.tc;have bA:Below w3.heap.size w3 (w3.alloc (.cells #[.bool false,.int .i64 rn,.string ⟨rs.toArray⟩] 43)):=br_.alloc le_ _;have x4:=x3.step bA;have X3:=hh_ x3;have X4:=hh_ x4;have hl3:=x3.lt;obtain⟨a1,a2,a3,a4,a5⟩:=x4.tc;have n1:w.heap.size<w3.heap.size:=by omega
 have n2:w.heap.size+1<w3.heap.size:=by omega
 clear x2 b2 b3 x3 x4 bA;go_wp2_with fail
 refine(CT.out _ (HE.out.below X4.out.bel)).mono ?_;rintro en w5 ⟨rfl,b5⟩;have x5:=X4.out.step b5;clear c1 c2 c3 c4 c5 a1 a2 a3 a4 a5;obtain⟨c1,c2,c3,c4,c5⟩:=x5.tc;have hblk:w5.heap[w3.heap.size]?=some (.cells #[.bool false,.int .i64 rn,.string ⟨rs.toArray⟩] 43 (0,0)):=by rw[b5.block _ (by simp)];exact heap_alloc_new w3 _
 have g3:w5.cell? ⟨w3.heap.size,0,none⟩=some (.bool false):=by rw[Lib.cell_of_heap hblk];rfl
 have g4:w5.cell? ⟨w3.heap.size,1,none⟩=some (.int .i64 rn):=by rw[Lib.cell_of_heap hblk];rfl
 have g5:w5.cell? ⟨w3.heap.size,2,none⟩=some (.string ⟨rs.toArray⟩):=by rw[Lib.cell_of_heap hblk];rfl
 have f3:=Lib.frozen_of_heap x5.b2 0;have f4:=Lib.frozen_of_heap x5.b2 1;have f5:=Lib.frozen_of_heap x5.b2 2;have HB:=hh_ x5.bel;clear x5 b5 hblk;by_cases hc:c=0
 · by_cases hL:L=S.data.toList
   · have HR:=hh_ (OK.out hc hL);subst hc;obtain rfl:LB=S:=by rw[qBu (s:=LB) rfl,HLL.out,hL]
     clear OK NO hL HLL;go_wp2_with fail
     exact bodyPost_ret (v:=.tuple #[.agg #[.bool false,.int .i64 rn,.string ⟨rs.toArray⟩],.int .i64 0]) (by simp[results,Tryz.results127,go_sem,c3,c4,c5]) rfl ⟨congrArg Ending.returned HR.out.symm,((HB.out.setCell (p:=⟨_,_,_⟩) (by simp) _).setCell (p:=⟨_,_,_⟩) (by simp) _).setCell (p:=⟨_,_,_⟩) (by simp) _⟩
   · have HR:=hh_ (NO.out (fun h=>hL h.2));subst hc;have q1:(LB.toList==S.toList)=false:=by rw[Lib.toList_data,Lib.toList_data,HLL.out];rw[beq_eq_false_iff_ne];exact hL
     have q2:¬LB.toList=S.toList:=by rw[Lib.toList_data,Lib.toList_data,HLL.out];exact hL
     clear OK NO hL HLL;go_wp2_with fail
     exact bodyPost_ret (v:=.tuple #[.agg #[.bool false,.int .i64 0,.string ⟨#[]⟩],.int .i64 4]) (by simp[results,Tryz.results127,go_sem,c3,c4,c5]) rfl ⟨congrArg Ending.returned HR.out.symm,((HB.out.setCell (p:=⟨_,_,_⟩) (by simp) _).setCell (p:=⟨_,_,_⟩) (by simp) _).setCell (p:=⟨_,_,_⟩) (by simp) _⟩
 · have HR:=hh_ (NO.out (fun h=>hc h.1));have q1:(c != 0)=true:=by simpa using hc
   clear OK NO HLL;go_wp2_with fail
   exact bodyPost_ret (v:=.tuple #[.agg #[.bool false,.int .i64 0,.string ⟨#[]⟩],.int .i64 4]) (by simp[results,Tryz.results127,go_sem,c3,c4,c5]) rfl ⟨congrArg Ending.returned HR.out.symm,((HB.out.setCell (p:=⟨_,_,_⟩) (by simp) _).setCell (p:=⟨_,_,_⟩) (by simp) _).setCell (p:=⟨_,_,_⟩) (by simp) _⟩
theorem qMt (k:Int) (tn:Bool) (S:ByteArray) (w:World) (hs:S.size≤20000) (hE:Env w) :
    Calls Tryz.prog 127 #[.agg #[.int .i64 k,.bool tn],.string S] w fun e w'=>e=.returned (qGl (qBr k tn S.data.toList))∧Below w.heap.size w w':=by
 cases hk:kMay k with
 |false=>
  have:qGl (qBr k tn S.data.toList)=.tuple #[.agg #[.bool false,.int .i64 0,.string ⟨#[]⟩],.int .i64 2]:=by unfold qBr;rw[if_neg (by simp[hk])];rfl
  rw[this];exact qRm k tn S w hk
 |true=>
  by_cases hN:S.data.toList=qNb
  · obtain rfl:S=⟨#[110,117,108,108]⟩:=qBu hN;rcases qE3 hk with rfl|rfl|rfl|rfl|rfl
    · exact qV2 tn w hE
    · exact qXe tn w hE
    · exact qXj tn w hE
    · exact qXo tn w hE
    · exact qXq tn w hE
  · rcases qE3 hk with rfl|rfl|rfl|rfl|rfl
    · exact qWx tn S w hs hE hN
    · exact qW1 tn S w hs hE hN
    · exact qV7 tn S w hs hE hN
    · exact qWt tn S w hs hE hN
    · exact qWz tn S w hs hE hN
end Go.Proofs.YtainiaighnjpfaaGreatDoor
