/- The reference's Valid. The reference of the cells: which types and cells may be; how two stand. The reference of the cells: Check. The reference's begins. What the reader takes for a literal is one: a row of parts between quotes. A literal that is cut off anywhere is ErrTrunc. The short escapes. What the reference answers of an escape, way by way. The reference's escape. The steps of Unquote's loop, as the reference takes them. The reference's Unquote. The reference's Quote. The reference of the cells: whole numbers' texts; hex. The reference of the cells: Text. The reference of the cells: Bits. Bounds of whole numbers. The reference of the cells: Bits, whole. CellWrites: the walk. The reference of the cells: Whole. The reference of the cells: Unhex. The reference of the cells: Unhex, the walk. The reference of the cells: run, the walk. The reference of the cells: what Read answers, in plain terms. The reference of the cells: guess, the walk. The reference of the cells: bare, the walk. The reference of the cells: Unbits. Rows: what is known of cells. Rows: cells stand while only new blocks are written. Schemas: the first place at which something holds; Place and Named. -/
import Derived.Test.YtikpmmipopmjaaaGreatDoorZQm
import Derived.Test.YtikpmmipopmjaaaGreatDoorZQb
import Derived.Test.YtikpmmipopmjaaaGreatDoorZQg
import Derived.Test.YtikpmmipopmjaaaGreatDoorZQa
import Derived.Test.YtikpmmipopmjaaaGreatDoorZQc
import Derived.Test.YtikpmmipopmjaaaGreatDoorZQi
import Derived.Test.YtikpmmipopmjaaaGreatDoorZQl
import Derived.Deep.RegionHeld3
import Derived.Deep.RegionLaw
import Derived.Deep.RegionWith
set_option linter.unusedVariables false
namespace Go.Proofs.YtikpmmipopmjaaaGreatDoor
open Go.RowKit Go.Ms Go.Lib
def strSize:Value→Nat
  | .string s=>s.size
  |_=>0
set_option maxHeartbeats 400000 in
theorem qTf (s0:ByteArray) (w:World) (hs:s0.size≤1000000) :
    Calls Tryz.prog 140 #[.string s0] w fun e w'=>e=.returned (.bool (validD s0.data.toList))∧Below w.heap.size w w':=by
 obtain⟨V,hV⟩:∃V,validD s0.data.toList=V:=⟨_,rfl⟩;rw[hV];have HV:=Lib.hid hV;clear hV
 go_enter Tryz.func140,Tryz.ntmps140
 go_wp2
 go_loopw [0] (fun x wr=> ∃s:ByteArray,x=.string s∧s.size≤1000000∧Hid (validD s.data.toList=V)∧Below w.heap.size w wr) (fun x _=>strSize x)
 case atStart=>exact⟨s0,rfl,hs,HV,Below.refl _ _⟩
 case round=>
  obtain⟨s,rfl,hsz,hv,hb⟩:=hrel
  have hl:s.data.toList.length=s.size:=by simp
  by_cases h0:s.size=0
  · have hnil:s.data.toList=[]:=List.eq_nil_of_length_eq_zero (by omega)
    have hvt:V=true:=by rw[←hv.out,hnil];rfl
    subst hvt
    have hlt:¬(0:Int)<(s.size:Int):=by omega
    clear hnil h0
    go_wp2_with fail
    go_ret
    exact⟨rfl,hb⟩
  · have hne:s.data.toList≠[]:=by intro e;rw[e] at hl;simp at hl;omega
    have hlt:(0:Int)<(s.size:Int):=by omega
    have hv1:=hv.out;rw[qMd _ hne] at hv1
    have cn:=fun w=>qVo s w hsz
    rcases qDl s.data.toList with e|⟨r,h1,h2,h3⟩
    · rw[e] at cn hv1
      simp at hv1
      subst hv1;have CN:=Lib.hid cn;clear cn e hne hl h0 hv
      go_wp2_with fail
      refine(CN.out _).mono ?_;rintro en w1 ⟨rfl,b1⟩
      go_wp2_with fail
      go_ret
      exact⟨rfl,hb.trans (b1.mono hb.size)⟩
    · rw[h2] at cn hv1;simp only[if_true] at hv1;have hle:=qA2 r;have hll:=congrArg List.length h3;rw[List.length_append,List.length_drop] at hll
      generalize (encodeRune r).length=n at *
      have hn:n≤s.size:=by omega
      have hext:(s.extract n s.size).data.toList=s.data.toList.drop n:=by rw[ext_list,List.take_of_length_le (by omega)]
      rw[←hext] at hv1
      have hz:(s.extract n s.size).size=s.size-n:=by simp
      have hv':=Lib.hid hv1;have hz':=Lib.hid hz;have CN:=Lib.hid cn;have hn1:=hle.1
      have hni:(n:Int)≤(s.size:Int):=by omega
      clear cn h2 h3 hne hl hv hext hv1 hz h1 h0 hll hle
      go_wp2_with fail
      refine(CN.out _).mono ?_;rintro en w1 ⟨rfl,b1⟩
      go_wp2_with fail
      go_roundw
      case rel=>exact⟨_,rfl,by rw[hz'.out];omega,hv',hb.trans (b1.mono hb.size)⟩
      case measure=>simp only[strSize];rw[hz'.out];omega
end Go.Proofs.YtikpmmipopmjaaaGreatDoor
namespace Go.Proofs.YtikpmmipopmjaaaGreatDoor
open Go.RowKit Go.Ms Go.Lib
theorem qXo (k:Int) (nu:Bool) (w:World) :
    Calls Tryz.prog 96 #[.agg #[.int .i64 k,.bool nu]] w fun e w'=>e=.returned (.bool (kMay k))∧Below w.heap.size w w':=by
 by_cases h1:1≤k
 · by_cases h2:k≤5
   · have hd:kMay k=true:=by simp[kMay];omega
     rw[hd];clear hd
     go_enter Tryz.func96,Tryz.ntmps96
     go_wp2
     go_ret
     exact⟨rfl,(Below.refl _ _).alloc (Nat.le_refl _) _⟩
   · have hd:kMay k=false:=by simp[kMay];omega
     rw[hd];clear hd
     go_enter Tryz.func96,Tryz.ntmps96
     go_wp2
     go_ret
     exact⟨rfl,(Below.refl _ _).alloc (Nat.le_refl _) _⟩
 · have hd:kMay k=false:=by simp[kMay];omega
   rw[hd];clear hd
   go_enter Tryz.func96,Tryz.ntmps96
   go_wp2
   go_ret
   exact⟨rfl,(Below.refl _ _).alloc (Nat.le_refl _) _⟩
end Go.Proofs.YtikpmmipopmjaaaGreatDoor
namespace Go.Proofs.YtikpmmipopmjaaaGreatDoor
open Go.RowKit Go.Ms Go.Lib
theorem qXb (k:Int) (tn:Bool) (n:Int) (S:ByteArray) (w:World) :
    Calls Tryz.prog 97 #[.agg #[.int .i64 k,.bool tn],.agg #[.bool true,.int .i64 n,.string S]] w fun e w'=>e=.returned (.bool (tn&&decide (n=0)&&decide (S.data.toList=[])))∧Below w.heap.size w w':=by
 cases tn with
 |false=>
  simp only[Bool.false_and]
  go_enter Tryz.func97,Tryz.ntmps97
  go_wp2
  go_ret
  exact⟨rfl,((Below.refl _ _).alloc (Nat.le_refl _) _).alloc (by simp) _⟩
 |true=>
  by_cases hn:n=0
  · subst hn
    by_cases hS:S.data.toList=[]
    · obtain rfl:S=⟨#[]⟩:=qB8 hS;simp only[decide_true,Bool.and_true]
      go_enter Tryz.func97,Tryz.ntmps97
      go_wp2
      go_ret
      exact⟨rfl,((Below.refl _ _).alloc (Nat.le_refl _) _).alloc (by simp) _⟩
    · have e1:(S.toList==[])=false:=by rw[Lib.toList_data];simpa using hS
      have e2:¬S.toList=[]:=by rw[Lib.toList_data];exact hS
      have e3:S.toList.isEmpty=false:=by rw[Lib.toList_data];simpa using hS
      rw[decide_eq_false hS,Bool.and_false];clear hS
      go_enter Tryz.func97,Tryz.ntmps97
      go_wp2
      go_ret
      exact⟨rfl,((Below.refl _ _).alloc (Nat.le_refl _) _).alloc (by simp) _⟩
  · have e1:(n==0)=false:=by simpa using hn
    rw[decide_eq_false hn,Bool.and_false,Bool.false_and];clear hn
    go_enter Tryz.func97,Tryz.ntmps97
    go_wp2
    go_ret
    exact⟨rfl,((Below.refl _ _).alloc (Nat.le_refl _) _).alloc (by simp) _⟩
theorem qQk (k:Int) (hk:k=1∨k=2∨k=3) (tn:Bool) (n:Int) (S:ByteArray) (w:World) (b0: -9223372036854775808≤n) (b1:n≤9223372036854775807) :
    Calls Tryz.prog 97 #[.agg #[.int .i64 k,.bool tn],.agg #[.bool false,.int .i64 n,.string S]] w fun e w'=>e=.returned (.bool (kIs k n S.data.toList))∧Below w.heap.size w w':=by
 by_cases hS:S.data.toList=[]
 · obtain rfl:S=⟨#[]⟩:=qB8 hS;clear hS
   rcases hk with rfl|rfl|rfl
   · have hd:kIs 1 n (⟨#[]⟩:ByteArray).data.toList=(decide (n=0)||decide (n=1)):=by
       rw[Bool.eq_iff_iff,is1,Bool.or_eq_true,decide_eq_true_iff,decide_eq_true_iff];exact⟨fun h=>by omega,fun h=>⟨rfl,by omega,by omega⟩⟩
     rw[hd];clear hd
     by_cases h0:n=0
     · subst h0
       go_enter Tryz.func97,Tryz.ntmps97
       go_wp2
       go_ret
       exact⟨rfl,((Below.refl _ _).alloc (Nat.le_refl _) _).alloc (by simp) _⟩
     · have q0:(n==0)=false:=by simpa using h0
       rw[decide_eq_false h0,Bool.false_or]
       by_cases h1:n=1
       · subst h1;clear h0
         go_enter Tryz.func97,Tryz.ntmps97
         go_wp2
         go_ret
         exact⟨rfl,((Below.refl _ _).alloc (Nat.le_refl _) _).alloc (by simp) _⟩
       · have q1:(n==1)=false:=by simpa using h1
         rw[decide_eq_false h1];clear h0 h1
         go_enter Tryz.func97,Tryz.ntmps97
         go_wp2
         go_ret
         exact⟨rfl,((Below.refl _ _).alloc (Nat.le_refl _) _).alloc (by simp) _⟩
   · by_cases h0: -2147483648≤n
     · by_cases h1:n≤2147483647
       · rw[show kIs 2 n (⟨#[]⟩:ByteArray).data.toList=true from is2.2 ⟨rfl,h0,h1⟩]
         go_enter Tryz.func97,Tryz.ntmps97
         go_wp2
         go_ret
         exact⟨rfl,((Below.refl _ _).alloc (Nat.le_refl _) _).alloc (by simp) _⟩
       · rw[show kIs 2 n (⟨#[]⟩:ByteArray).data.toList=false from by rw[←Bool.not_eq_true];exact fun h=>h1 (is2.1 h).2.2]
         go_enter Tryz.func97,Tryz.ntmps97
         go_wp2
         go_ret
         exact⟨rfl,((Below.refl _ _).alloc (Nat.le_refl _) _).alloc (by simp) _⟩
     · rw[show kIs 2 n (⟨#[]⟩:ByteArray).data.toList=false from by rw[←Bool.not_eq_true];exact fun h=>h0 (is2.1 h).2.1]
       go_enter Tryz.func97,Tryz.ntmps97
       go_wp2
       go_ret
       exact⟨rfl,((Below.refl _ _).alloc (Nat.le_refl _) _).alloc (by simp) _⟩
   · rw[show kIs 3 n (⟨#[]⟩:ByteArray).data.toList=true from is3.2 ⟨rfl,b0,b1⟩]
     go_enter Tryz.func97,Tryz.ntmps97
     go_wp2
     go_ret
     exact⟨rfl,((Below.refl _ _).alloc (Nat.le_refl _) _).alloc (by simp) _⟩
 · have e1:(S.toList==[])=false:=by rw[Lib.toList_data];simpa using hS
   have e2:¬S.toList=[]:=by rw[Lib.toList_data];exact hS
   have e3:S.toList.isEmpty=false:=by rw[Lib.toList_data];simpa using hS
   rcases hk with rfl|rfl|rfl
   · rw[show kIs 1 n S.data.toList=false from by rw[←Bool.not_eq_true];exact fun h=>hS (is1.1 h).1];clear hS
     go_enter Tryz.func97,Tryz.ntmps97
     go_wp2
     go_ret
     exact⟨rfl,((Below.refl _ _).alloc (Nat.le_refl _) _).alloc (by simp) _⟩
   · rw[show kIs 2 n S.data.toList=false from by rw[←Bool.not_eq_true];exact fun h=>hS (is2.1 h).1];clear hS
     go_enter Tryz.func97,Tryz.ntmps97
     go_wp2
     go_ret
     exact⟨rfl,((Below.refl _ _).alloc (Nat.le_refl _) _).alloc (by simp) _⟩
   · rw[show kIs 3 n S.data.toList=false from by rw[←Bool.not_eq_true];exact fun h=>hS (is3.1 h).1];clear hS
     go_enter Tryz.func97,Tryz.ntmps97
     go_wp2
     go_ret
     exact⟨rfl,((Below.refl _ _).alloc (Nat.le_refl _) _).alloc (by simp) _⟩
theorem qUm (k:Int) (hk:k=4∨k=5) (tn:Bool) (n:Int) (S:ByteArray) (w:World) (hs:S.size≤100000) :
    Calls Tryz.prog 97 #[.agg #[.int .i64 k,.bool tn],.agg #[.bool false,.int .i64 n,.string S]] w fun e w'=>e=.returned (.bool (kIs k n S.data.toList))∧Below w.heap.size w w':=by
 have cv:=fun w=>qTf S w (by omega)
 have hl:=lenS S
 by_cases hn:n=0
 · subst hn
   by_cases hz:S.size≤1024
   · have hzi:(S.size:Int)≤1024:=by omega
     rcases hk with rfl|rfl
     · have hd:kIs 4 0 S.data.toList=validD S.data.toList:=by
         rw[Bool.eq_iff_iff,is4];exact⟨fun h=>h.2.2,fun h=>⟨rfl,by omega,h⟩⟩
       rw[hd]
       generalize validD S.data.toList=V at *
       have CV:=Lib.hid cv;clear cv hl hd
       go_enter Tryz.func97,Tryz.ntmps97
       go_wp2_with fail
       refine(CV.out _).mono ?_;rintro en w1 ⟨rfl,b1⟩
       go_wp2_with fail
       go_ret
       exact⟨rfl,(((Below.refl _ _).alloc (Nat.le_refl _) _).alloc (by simp) _).trans (b1.mono (by simp;omega))⟩
     · rw[show kIs 5 0 S.data.toList=true from is5.2 ⟨rfl,by omega⟩];clear cv hl
       go_enter Tryz.func97,Tryz.ntmps97
       go_wp2
       go_ret
       exact⟨rfl,((Below.refl _ _).alloc (Nat.le_refl _) _).alloc (by simp) _⟩
   · have hzi:¬(S.size:Int)≤1024:=by omega
     rw[show kIs k 0 S.data.toList=false from by rw[←Bool.not_eq_true];exact fun h=>hz (by have:=(is45 hk h).2;omega)];clear cv hl
     rcases hk with rfl|rfl
     · go_enter Tryz.func97,Tryz.ntmps97
       go_wp2
       go_ret
       exact⟨rfl,((Below.refl _ _).alloc (Nat.le_refl _) _).alloc (by simp) _⟩
     · go_enter Tryz.func97,Tryz.ntmps97
       go_wp2
       go_ret
       exact⟨rfl,((Below.refl _ _).alloc (Nat.le_refl _) _).alloc (by simp) _⟩
 · have q0:(n==0)=false:=by simpa using hn
   rw[show kIs k n S.data.toList=false from by rw[←Bool.not_eq_true];exact fun h=>hn (is45 hk h).1];clear cv hl
   rcases hk with rfl|rfl
   · go_enter Tryz.func97,Tryz.ntmps97
     go_wp2
     go_ret
     exact⟨rfl,((Below.refl _ _).alloc (Nat.le_refl _) _).alloc (by simp) _⟩
   · go_enter Tryz.func97,Tryz.ntmps97
     go_wp2
     go_ret
     exact⟨rfl,((Below.refl _ _).alloc (Nat.le_refl _) _).alloc (by simp) _⟩
theorem zAa (k:Int) (hk:kMay k=true) (tn u:Bool) (n:Int) (S:ByteArray) (w:World) (hs:S.size≤100000) (b0: -9223372036854775808≤n) (b1:n≤9223372036854775807) :
    Calls Tryz.prog 97 #[.agg #[.int .i64 k,.bool tn],.agg #[.bool u,.int .i64 n,.string S]] w fun e w'=>e=.returned (.bool (kOk k tn u n S.data.toList))∧Below w.heap.size w w':=by
 cases u with
 |true=>
  have h:kOk k tn true n S.data.toList=(tn&&decide (n=0)&&decide (S.data.toList=[])):=rfl;rw[h];exact qXb k tn n S w
 |false=>
  have h:kOk k tn false n S.data.toList=kIs k n S.data.toList:=by simp[kOk]
  rw[h]
  rcases qF8 hk with rfl|rfl|rfl|rfl|rfl
  · exact qQk 1 (.inl rfl) tn n S w b0 b1
  · exact qQk 2 (.inr (.inl rfl)) tn n S w b0 b1
  · exact qQk 3 (.inr (.inr rfl)) tn n S w b0 b1
  · exact qUm 4 (.inl rfl) tn n S w hs
  · exact qUm 5 (.inr rfl) tn n S w hs
theorem qE8 (k:Int) (tn u:Bool) (n:Int) (S:ByteArray) (w:World) (hs:S.size≤100000) (b0: -9223372036854775808≤n) (b1:n≤9223372036854775807) :
    Calls Tryz.prog 73 #[.agg #[.int .i64 k,.bool tn],.agg #[.bool u,.int .i64 n,.string S]] w fun e w'=>e=.returned (.int .i64 (qAt k tn u n S.data.toList))∧Below w.heap.size w w':=by
 have cm:=fun w'=>qXo k tn w'
 have x0:=TBx.start w k tn u n S;unfold qAt
 cases hk:kMay k with
 |false=>
  rw[if_neg (by simp)];rw[hk] at cm
  have CM:=Lib.hid cm;have X0:=Lib.hid x0
  clear cm x0 hk
  go_enter Tryz.func73,Tryz.ntmps73
  go_wp2_with fail
  refine(CM.out _).mono ?_;rintro en w1 ⟨rfl,bb1⟩
  go_wp2_with fail
  go_ret
  exact⟨rfl,(X0.out.step bb1).bel⟩
 | true=>
  rw[if_pos rfl];rw[hk] at cm
  have co:=fun w'=>zAa k hk tn u n S w' hs b0 b1
  generalize kOk k tn u n S.data.toList=V at *
  have CM:=Lib.hid cm;have X0:=Lib.hid x0;have CO:=Lib.hid co
  clear cm x0 co hk
  cases V
  all_goals
   go_enter Tryz.func73,Tryz.ntmps73
   go_wp2_with fail
   refine(CM.out _).mono ?_;rintro en w1 ⟨rfl,bb1⟩;have x1:=X0.out.step bb1;obtain⟨d0,d1,a0,a1,a2,f0,f1,f2,l0,l1⟩:=x1.cells;have X1:=Lib.hid x1;clear x1 bb1
   go_wp2_with fail
   refine(CO.out _).mono ?_;rintro en w2 ⟨rfl,bb2⟩
   go_wp2_with fail
   go_ret
   exact⟨rfl,(X1.out.step bb2).bel⟩
end Go.Proofs.YtikpmmipopmjaaaGreatDoor
namespace Go.Proofs.YtikpmmipopmjaaaGreatDoor
open Go.RowKit Go.Ms Go.Lib
end Go.Proofs.YtikpmmipopmjaaaGreatDoor
namespace Go.Ms
open Go.Lib
end Go.Ms
namespace Go.Ms
open Go.Lib
theorem qFa {l:Bs} {p n:Nat} {acc r:Bs} (h:l.drop p=92::r) (he:(qAy l (p+1) 0).2.2=3):uqGo l (n+2) acc p 0=([],0,3):=by
 obtain⟨g1,g2,_⟩:=qAo h;rw[qB2,if_pos rfl,if_neg (by omega),if_neg (by rw[g2];decide),if_pos (by rw[g2];rfl),he,qY1 _ _ _ _ (by decide)]
theorem qOd {l:Bs} {p n:Nat} {acc:Bs} (hp:p≤l.length) (h:l.drop p=[]):uqGo l (n+1) acc p 0=([],0,3):=by
 have:p=l.length:=by
  have:=congrArg List.length h;simp at this;omega
 rw[qB2,if_pos rfl,if_pos this]
theorem qXd {l:Bs} {p:Nat} {n:Int} (h:(qBi l 92 p 0).2=3):(rdPair l p 0 n).2.2=3:=by
 unfold rdPair;simp only[h,qRa _ _ _ (show(3:Int)≠0 by decide)];rw[(qJs l true _ (by decide)).1,if_neg (by decide)]
theorem qWy {l:Bs} {p p':Nat} {n:Int} (h:qBi l 92 p 0=(p',0)) (h2:(qBi l 117 p' 0).2=3):(rdPair l p 0 n).2.2=3:=by
 unfold rdPair;simp only[h,h2];rw[(qJs l true _ (by decide)).1,if_neg (by decide)]
theorem qWv {l:Bs} {p p' p'':Nat} {n:Int} (h:qBi l 92 p 0=(p',0)) (h2:qBi l 117 p' 0=(p'',0)) (h3:(qBs l true p'' 0).2.2=3):(rdPair l p 0 n).2.2=3:=by
 unfold rdPair;simp only[h,h2,h3];rw[if_neg (by decide)]
theorem qTy {l:Bs} {p p3:Nat} {n:Int} (h:qBs l false p 0=(n,p3,0)) (hn:55296≤n∧n<56320):qFx l (p,0) (0,0)=rdPair l p3 0 n:=by
 unfold qFx;simp only[h];rw[if_pos hn]
theorem qYo {q t:Bs} (hq:Part q t) {l:Bs} {p j n:Nat} {acc:Bs} (hj:j<q.length) (hp:p≤l.length) (h:l.drop p=q.take j):uqGo l (n+2) acc p 0=([],0,3):=by
 have hlen:=congrArg List.length h;rw[List.length_drop,List.length_take] at hlen
 cases j with
 |zero=>exact qOd hp h
 |succ j=>
 cases hq with
 | rune r hr h1 h2 h3=>
  obtain⟨c,tl,e,ea,eh⟩:=qRe hr;have hb:=(qA5 r).1 hr
  have hr2:128≤r:=by
   rcases Int.lt_or_le r 128 with g|g
   · rw[qFg (by omega) (by omega)] at hj;simp at hj
   · exact g
  have hc:l.drop p=c::tl.take j:=by rw[h,e];rfl
  obtain⟨g1,g2,_⟩:=qAo hc;have hx:=eh hr2;have n1:=qYq hr (j:=j+1) (by omega) hj;have n2:=qWp hr (j:=j+1) (by omega) hj
  have hpl:qBk l p 0=([],p,(3:Int)):=by
   unfold qBk;rw[if_neg (by omega),h,n1,n2];rfl
  rw[qB2,if_pos rfl,if_neg (by omega),if_neg (by omega),if_neg (by omega),hpl,qY1 _ _ _ _ (show(3:Int)≠0 by decide)]
 |slash=>
  obtain rfl:j=0:=by simp at hj;omega
  have h':l.drop p=92::[]:=h;exact qFa h' (qM7 (by simp at hlen;omega) (qAo h').2.2)
 |short c k hk=>
  obtain rfl:j=0:=by simp at hj;omega
  have h':l.drop p=92::[]:=h;exact qFa h' (qM7 (by simp at hlen;omega) (qAo h').2.2)
 | four c1 c2 c3 c4 k1 k2 k3 k4 ho hn=>
  have h':l.drop p=92::([117,c1,c2,c3,c4]:Bs).take j:=h;obtain⟨g1,g2,g3⟩:=qAo h'
  cases j with
  |zero=>exact qFa h' (qM7 (by omega) g3)
  |succ j=>
   have g4:l.drop (p+1)=117::([c1,c2,c3,c4]:Bs).take j:=g3;obtain⟨g5,g6,g7⟩:=qAo g4;refine qFa h' ?_;rw[zCj g4];exact qMz (by decide) (qNl false (by omega) (by simp at hj;omega) g7 k1 k2 k3 ho)
 | pair c1 c2 c3 c4 d1 d2 d3 d4 k1 k2 k3 k4 j1 j2 j3 j4 ho hn hp2=>
  have h':l.drop p=92::([117,c1,c2,c3,c4,92,117,d1,d2,d3,d4]:Bs).take j:=h;obtain⟨g1,g2,g3⟩:=qAo h'
  cases j with
  |zero=>exact qFa h' (qM7 (by omega) g3)
  |succ j=>
   have g4:l.drop (p+1)=117::([c1,c2,c3,c4,92,117,d1,d2,d3,d4]:Bs).take j:=g3;obtain⟨g5,g6,g7⟩:=qAo g4;refine qFa h' ?_;rw[zCj g4]
   by_cases hj4:j<4
   · have e:([c1,c2,c3,c4,92,117,d1,d2,d3,d4]:Bs).take j=([c1,c2,c3,c4]:Bs).take j:=by
       rcases(by omega:j=0∨j=1∨j=2∨j=3) with rfl|rfl|rfl|rfl <;> rfl
     rw[e] at g7;exact qMz (by decide) (qNl false (by omega) hj4 g7 k1 k2 k3 ho)
   · obtain⟨i,rfl⟩:∃i,j=i+4:=⟨j-4,by omega⟩;have g8:l.drop (p+1+1)=c1::c2::c3::c4::([92,117,d1,d2,d3,d4]:Bs).take i:=g7;have hh:=qNi false g8 k1 k2 k3 k4 ho;have g9:=(qAo (qAo (qAo (qAo g8).2.2).2.2).2.2);obtain⟨g10,_,g11⟩:=g9;rw[qTy hh hn]
     cases i with
     |zero=>exact qXd (by rw[qRt (by omega) g11 (by decide)])
     | succ i=>
      have g12:l.drop (p+1+1+4)=92::([117,d1,d2,d3,d4]:Bs).take i:=g11;have w1:qBi l 92 (p+1+1+4) 0=(p+1+1+4+1,(0:Int)):=qM5 g12;obtain⟨g13,_,g14⟩:=qAo g12
      cases i with
      |zero=>exact qWy w1 (by rw[qRt (by omega) g14 (by decide)])
      |succ i=>
       have g15:l.drop (p+1+1+4+1)=117::([d1,d2,d3,d4]:Bs).take i:=g14;have w2:qBi l 117 (p+1+1+4+1) 0=(p+1+1+4+1+1,(0:Int)):=qM5 g15;obtain⟨g16,_,g17⟩:=qAo g15;exact qWv w1 w2 (qNl true (by omega) (by simp at hj;omega) g17 j1 j2 j3 hp2)
theorem go_cut {k:Nat} {q t:Bs} (h:Lits k q t):∀{l:Bs} {p j N:Nat} {acc:Bs},j≤q.length→p≤l.length→l.drop p=q.take j→j+2≤N→uqGo l N acc p 0=([],0,3):=by
 induction h with
 |nil=>
  intro l p j N acc _ hp hd hN
  obtain⟨N,rfl⟩:∃M,N=M+1:=⟨N-1,by omega⟩;exact qOd hp (by rw[hd];simp)
 |@cons k' q t q' t' h _ ih=>
  intro l p j N acc hj hp hd hN
  obtain⟨N,rfl⟩:∃M,N=M+2:=⟨N-2,by omega⟩
  by_cases hc:j<q.length
  · rw[List.take_append_of_le_length (by omega)] at hd;exact qYo h hc hp hd
  · have e:(q++q').take j=q++q'.take (j-q.length):=by
      rw[List.take_append,List.take_of_length_le (by omega)]
    rw[e] at hd;have hlen:=congrArg List.length hd;rw[List.length_drop,List.length_append] at hlen;have:=h.pos;rw[zAo h hd];exact ih (by rw[List.length_append] at hj;omega) (by omega) (qQ9 hd) (by omega)
end Go.Ms
namespace Go.Ms
open Go.Lib
end Go.Ms
namespace Go.Ms
open Go.Lib
end Go.Ms
namespace Go.Proofs.YtikpmmipopmjaaaGreatDoor
open Go.RowKit Go.Ms Go.Lib
end Go.Proofs.YtikpmmipopmjaaaGreatDoor
namespace Go.Ms
open Go.Lib
end Go.Ms
namespace Go.Proofs.YtikpmmipopmjaaaGreatDoor
open Go.RowKit Go.Ms Go.Lib
end Go.Proofs.YtikpmmipopmjaaaGreatDoor
namespace Go.Proofs.YtikpmmipopmjaaaGreatDoor
open Go.RowKit Go.Ms Go.Lib
end Go.Proofs.YtikpmmipopmjaaaGreatDoor
namespace Go.Ms
open Go.Lib
end Go.Ms
namespace Go.Proofs.YtikpmmipopmjaaaGreatDoor
open Go.RowKit Go.Ms Go.Lib
end Go.Proofs.YtikpmmipopmjaaaGreatDoor
namespace Go.Proofs.YtikpmmipopmjaaaGreatDoor
open Go.RowKit Go.Ms Go.Lib
end Go.Proofs.YtikpmmipopmjaaaGreatDoor
set_option linter.unusedSimpArgs false
namespace Go.Ms
open Go.Lib
def nb:Nat→Int→Bs
  |0,_=>[]
  |j+1,u=>UInt8.ofNat (u/72057594037927936).toNat::nb j (u*256%18446744073709551616)
end Go.Ms
namespace Go.Proofs.YtikpmmipopmjaaaGreatDoor
open Go.RowKit Go.Ms Go.Lib
end Go.Proofs.YtikpmmipopmjaaaGreatDoor
namespace Go.Proofs.YtikpmmipopmjaaaGreatDoor
open Go.RowKit Go.Ms Go.Lib
end Go.Proofs.YtikpmmipopmjaaaGreatDoor
namespace Go.Proofs.YtikpmmipopmjaaaGreatDoor
open Go.RowKit Go.Ms Go.Lib
end Go.Proofs.YtikpmmipopmjaaaGreatDoor
set_option linter.unusedSimpArgs false
namespace Go.Ms
open Go.Lib
end Go.Ms
namespace Go.Proofs.YtikpmmipopmjaaaGreatDoor
open Go.RowKit Go.Ms Go.Lib
end Go.Proofs.YtikpmmipopmjaaaGreatDoor
set_option linter.unusedSimpArgs false
namespace Go.Ms
open Go.Lib
end Go.Ms
namespace Go.Proofs.YtikpmmipopmjaaaGreatDoor
open Go.RowKit Go.Ms Go.Lib
end Go.Proofs.YtikpmmipopmjaaaGreatDoor
set_option linter.unusedSimpArgs false
namespace Go.Proofs.YtikpmmipopmjaaaGreatDoor
open Go.RowKit Go.Ms Go.Lib
end Go.Proofs.YtikpmmipopmjaaaGreatDoor
set_option linter.unusedSimpArgs false
namespace Go.Proofs.YtikpmmipopmjaaaGreatDoor
open Go.RowKit Go.Ms Go.Lib
end Go.Proofs.YtikpmmipopmjaaaGreatDoor
set_option linter.unusedSimpArgs false
namespace Go.Ms
open Go.Lib
end Go.Ms
namespace Go.Proofs.YtikpmmipopmjaaaGreatDoor
open Go.RowKit Go.Ms Go.Lib
end Go.Proofs.YtikpmmipopmjaaaGreatDoor
set_option linter.unusedSimpArgs false
namespace Go.Proofs.YtikpmmipopmjaaaGreatDoor
open Go.RowKit Go.Ms Go.Lib
end Go.Proofs.YtikpmmipopmjaaaGreatDoor
set_option linter.unusedSimpArgs false
namespace Go.Ms
open Go.Lib
end Go.Ms
namespace Go.Proofs.YtikpmmipopmjaaaGreatDoor
open Go.RowKit Go.Ms Go.Lib
end Go.Proofs.YtikpmmipopmjaaaGreatDoor
set_option linter.unusedSimpArgs false
namespace Go.Ms
open Go.Lib
end Go.Ms
namespace Go.Proofs.YtikpmmipopmjaaaGreatDoor
open Go.RowKit Go.Ms Go.Lib
end Go.Proofs.YtikpmmipopmjaaaGreatDoor
namespace Go.Ms
end Go.Ms
namespace Go.Proofs.YtikpmmipopmjaaaGreatDoor
open Go.RowKit Go.Ms Go.Lib
theorem qQ4 {W w1 w2:World} {p1 p2 p3 p4 p5:Addr} {v1 v2 v3 v4 v5:Value} (h:(w1.cell? p1=some v1∧w1.cell? p2=some v2∧w1.cell? p3=some v3∧w1.cell? p4=some v4∧w1.cell? p5=some v5)∧Below W.heap.size W w1) (hb:Below w1.heap.size w1 w2) :
    (w2.cell? p1=some v1∧w2.cell? p2=some v2∧w2.cell? p3=some v3∧w2.cell? p4=some v4∧w2.cell? p5=some v5)∧Below W.heap.size W w2:=by
 obtain⟨⟨c1,c2,c3,c4,c5⟩,f⟩:=h;exact⟨⟨(hb.cell (qAi c1)).trans c1,(hb.cell (qAi c2)).trans c2,(hb.cell (qAi c3)).trans c3,(hb.cell (qAi c4)).trans c4,(hb.cell (qAi c5)).trans c5⟩,f.trans (hb.mono f.size)⟩
theorem qY9 {W w1 w2:World} {p1 p2 p3 p4 p5 p6:Addr} {v1 v2 v3 v4 v5 v6:Value} (h:(w1.cell? p1=some v1∧w1.cell? p2=some v2∧w1.cell? p3=some v3∧w1.cell? p4=some v4∧w1.cell? p5=some v5∧w1.cell? p6=some v6)∧Below W.heap.size W w1) (hb:Below w1.heap.size w1 w2) :
    (w2.cell? p1=some v1∧w2.cell? p2=some v2∧w2.cell? p3=some v3∧w2.cell? p4=some v4∧w2.cell? p5=some v5∧w2.cell? p6=some v6)∧Below W.heap.size W w2:=by
 obtain⟨⟨c1,c2,c3,c4,c5,c6⟩,f⟩:=h;exact⟨⟨(hb.cell (qAi c1)).trans c1,(hb.cell (qAi c2)).trans c2,(hb.cell (qAi c3)).trans c3,(hb.cell (qAi c4)).trans c4,(hb.cell (qAi c5)).trans c5,(hb.cell (qAi c6)).trans c6⟩,f.trans (hb.mono f.size)⟩
theorem endK {A:Prop} {W w1:World} (h:A∧Below W.heap.size W w1):Below W.heap.size W w1:=h.2
end Go.Proofs.YtikpmmipopmjaaaGreatDoor
set_option linter.unusedSimpArgs false
namespace Go.Ms
open Go.RowKit Go.Lib
def idxL {α:Type} (p:α→Bool) (l:List α):Int:=match l.findIdx? p with
 |some i=>i
 |none=> -1
theorem qMs {α:Type} {p:α→Bool} {l:List α} {k:Nat} {c:α} (hc:l[k]?=some c) (hn:∀(j:Nat) d,j<k→l[j]?=some d→p d=false) (hp:p c=true):idxL p l=k:=by
 unfold idxL
 have:l.findIdx? p=some k:=by
  rw[List.findIdx?_eq_some_iff_getElem];obtain⟨hk,rfl⟩:=List.getElem?_eq_some_iff.1 hc;exact⟨hk,hp,fun j hj=>by have:=hn j _ hj (List.getElem?_eq_getElem (by omega));simpa using this⟩
 rw[this]
theorem qHy {α:Type} {p:α→Bool} {l:List α} (hn:∀(j:Nat) d,l[j]?=some d→p d=false):idxL p l= -1:=by
 unfold idxL
 have:l.findIdx? p=none:=by
  rw[List.findIdx?_eq_none_iff]
  intro x hx
  obtain⟨i,hi⟩:=List.getElem?_of_mem hx;exact hn i x hi
 rw[this]
theorem qU5 (p:Co→Bool) (l:List Co):max (idxL p l) 0=(qD4 p l).1∧decide (0≤idxL p l)=(qD4 p l).2:=by
 unfold idxL qD4
 cases h:l.findIdx? p with
 |some i=>exact⟨by simp only;omega,by simp⟩
 |none=>exact⟨rfl,rfl⟩
theorem qQz {α:Type} (p:α→Bool) (l:List α):decide (0≤idxL p l)=l.any p:=by
 unfold idxL
 split
 · rename_i i h
   rw[List.findIdx?_eq_some_iff_getElem] at h;obtain⟨hi,hp,_⟩:=h;have:l.any p=true:=List.any_eq_true.2 ⟨l[i],List.getElem_mem hi,hp⟩
   rw[this];simp
 · rename_i h
   rw[List.findIdx?_eq_none_iff] at h
   have:l.any p=false:=by rw[List.any_eq_false];intro x hx;have:=h x hx;simpa using this
   rw[this];rfl
end Go.Ms
namespace Go.Proofs.YtikpmmipopmjaaaGreatDoor
open Go.RowKit Go.Ms Go.Lib
theorem qQc (w:World) (b q:Nat) (g o n cap:Nat) (u:Bool) (hq:q<n) (hn:n≤maxLen) (h0:w.cell? ⟨b,0,none⟩=some (.slice (some ⟨g,o,none⟩) n cap)) (h1:w.cell? ⟨g,o+q*7+2+1,none⟩=some (.bool u)) :
    Calls Tryz.prog 63 #[.int .i64 q,.pointer (some ⟨b,0,none⟩)] w fun e w'=>e=.returned (.bool u)∧Below w.heap.size w w':=by
 unfold maxLen at hn
 have hq':(q:Int)<n:=by omega
 go_enter Tryz.func63,Tryz.ntmps63
 go_wp2_with fail
 all_goals (try go_quiet (fail))
 all_goals (go_wp2_with fail)
 all_goals go_ret
 all_goals exact⟨rfl,Below.refl _ _⟩
theorem qP2 (w:World) (b:Nat) (c:Co) (id:Int) (h0:w.cell? ⟨b,0,none⟩=some (.int .i64 id)) :
    Calls Tryz.prog 54 #[coA c,.pointer (some ⟨b,0,none⟩)] w fun e w'=>e=.returned (.bool (decide (c.1=id)))∧Below w.heap.size w w':=by
 obtain⟨i0,s0,⟨k0,u0⟩,n0,m0,t0⟩:=c
 show Calls Tryz.prog 54 #[.agg #[.int .i64 i0,.string s0,.int .i64 k0,.bool u0,.bool n0,.int .i64 m0,.string t0],.pointer (some ⟨b,0,none⟩)] w _
 have h1:=fun o=>(((Below.refl _ w).alloc (Nat.le_refl _) o).cell (qAi h0)).trans h0
 go_enter Tryz.func54,Tryz.ntmps54
 go_wp2_with fail
 go_ret
 exact⟨by congr 2,(Below.refl _ _).alloc (Nat.le_refl _) _⟩
set_option maxRecDepth 100000 in
set_option maxHeartbeats 1000000 in
theorem qPv (w:World) (A:Option Addr) (n cap:Nat) (l:List Int) (b:Nat) (p:Int→Bool) (hn':n≤maxLen) (hn:n=l.length) (hA:Lay w w.heap.size A (intV l)) (hcl:∀(k:Nat) (x:Int) (W:World),l[k]?=some x→Below w.heap.size w W→Calls Tryz.prog 63 #[.int .i64 x,.pointer (some ⟨b,0,none⟩)] W fun e w2=>e=.returned (.bool (p x))∧Below W.heap.size W w2) :
    Calls Tryz.prog 92 #[.slice A n cap,.func (.func 63) #[] #[.pointer (some ⟨b,0,none⟩)]] w fun e w'=>e=.returned (.int .i64 (idxL p l))∧Below w.heap.size w w':=by
 unfold maxLen at hn';have hcl:=hcl
 have HC:=Lib.hid hcl;have HA:=Lib.hid hA;have HN:=Lib.hid hn
 clear hcl hA hn
 go_enter Tryz.func92,Tryz.ntmps92
 go_wp2_with fail
 go_loopw [8] (fun id wr=> ∃k:Nat,k≤n∧id=.int .i64 k∧Below w.heap.size w wr∧∀(j:Nat) x,j<k→l[j]?=some x→p x=false) (fun id _=>n-(RowKit.intOf id).toNat)
 case atStart=>exact⟨0,by omega,rfl,Below.refl _ _,fun j c h=>absurd h (by omega)⟩
 case round=>
  obtain⟨k,hk,rfl,hb,hp⟩:=hrel;have HP:=Lib.hid hp;clear hp
  by_cases hlk:k<n
  · have hki:(k:Int)<n:=by omega
    obtain⟨x,hx⟩:∃x,l[k]?=some x:=⟨_,List.getElem?_eq_getElem (by rw[←HN.out];omega)⟩;obtain⟨g,o,rfl,hg,h1⟩:=HA.out.num hx;have g1:=(hb.cell hg).trans h1;clear h1;have hcall:=HC.out _ _ wr hx hb
    have HX:=Lib.hid hx;have HB:=Lib.hid hb;have HCA:=Lib.hid hcall
    clear hx hb hcall
    cases hpx:p x with
    |true=>
     have HR:=Lib.hid (qMs HX.out HP.out hpx)
     go_wp2_with fail
     refine HCA.out.mono ?_;rw[hpx];clear hpx;rintro en w1 ⟨rfl,b1⟩;have B1:=Lib.hid (HB.out.trans (b1.mono HB.out.size));clear b1
     go_wp2_with fail
     go_ret
     exact⟨congrArg (fun i=>Ending.returned (.int .i64 i)) HR.out.symm,B1.out⟩
    | false=>
     have HPX:=Lib.hid hpx
     go_wp2_with fail
     refine HCA.out.mono ?_;rw[hpx];clear hpx;rintro en w1 ⟨rfl,b1⟩;have B1:=Lib.hid (HB.out.trans (b1.mono HB.out.size));clear b1
     go_wp2_with fail
     go_roundw
     case rel=>
      refine⟨k+1,by omega,by go_num,B1.out,fun j y hj hy=>?_⟩
      by_cases e:j=k
      · subst e;rw[HX.out] at hy
        cases hy
        exact HPX.out
      · exact HP.out j y (by omega) hy
     case measure=>simp[RowKit.intOf];omega
  · have hki:¬(k:Int)<n:=by omega
    have HR:=Lib.hid (qHy (p:=p) (l:=l) (fun j x hx=>HP.out j x (by have:=(List.getElem?_eq_some_iff.1 hx).1;have:=HN.out;omega) hx));have HB:=Lib.hid hb;clear hb
    go_wp2_with fail
    go_ret
    exact⟨congrArg (fun i=>Ending.returned (.int .i64 i)) HR.out.symm,HB.out⟩
set_option maxRecDepth 100000 in
set_option maxHeartbeats 1000000 in
theorem qO2 (w:World) (A:Option Addr) (n cap:Nat) (l:List Co) (b:Nat) (p:Co→Bool) (hn':n≤maxLen) (hn:n=l.length) (hA:Lay w w.heap.size A (colV l)) (hcl:∀(k:Nat) (x:Co) (W:World),l[k]?=some x→Below w.heap.size w W→Calls Tryz.prog 54 #[coA x,.pointer (some ⟨b,0,none⟩)] W fun e w2=>e=.returned (.bool (p x))∧Below W.heap.size W w2) :
    Calls Tryz.prog 83 #[.slice A n cap,.func (.func 54) #[] #[.pointer (some ⟨b,0,none⟩)]] w fun e w'=>e=.returned (.int .i64 (idxL p l))∧Below w.heap.size w w':=by
 unfold maxLen at hn';have hcl:=hcl
 have HC:=Lib.hid hcl;have HA:=Lib.hid hA;have HN:=Lib.hid hn
 clear hcl hA hn
 go_enter Tryz.func83,Tryz.ntmps83
 go_wp2_with fail
 go_loopw [8] (fun id wr=> ∃k:Nat,k≤n∧id=.int .i64 k∧Below w.heap.size w wr∧∀(j:Nat) x,j<k→l[j]?=some x→p x=false) (fun id _=>n-(RowKit.intOf id).toNat)
 case atStart=>exact⟨0,by omega,rfl,Below.refl _ _,fun j c h=>absurd h (by omega)⟩
 case round=>
  obtain⟨k,hk,rfl,hb,hp⟩:=hrel;have HP:=Lib.hid hp;clear hp
  by_cases hlk:k<n
  · have hki:(k:Int)<n:=by omega
    obtain⟨x,hx⟩:∃x,l[k]?=some x:=⟨_,List.getElem?_eq_getElem (by rw[←HN.out];omega)⟩;obtain⟨i0,s0,⟨k0,u0⟩,n0,m0,t0⟩:=x;obtain⟨g,o,rfl,hg,h1,h2,h3,h4,h5,h6,h7⟩:=HA.out.co hx;have g1:=(hb.cell hg).trans h1;have g2:=(hb.cell hg).trans h2;have g3:=(hb.cell hg).trans h3;have g4:=(hb.cell hg).trans h4;have g5:=(hb.cell hg).trans h5;have g6:=(hb.cell hg).trans h6;have g7:=(hb.cell hg).trans h7;clear h1 h2 h3 h4 h5 h6 h7;simp only at g1 g2 g3 g4 g5 g6 g7;have hcall:=HC.out _ _ wr hx hb
    have HX:=Lib.hid hx;have HB:=Lib.hid hb;have HCA:=Lib.hid hcall
    clear hx hb hcall
    cases hpx:p ((i0,s0,(k0,u0),n0,m0,t0):Co) with
    |true=>
     have HR:=Lib.hid (qMs HX.out HP.out hpx)
     go_wp2_with fail
     refine HCA.out.mono ?_;rw[hpx];clear hpx;rintro en w1 ⟨rfl,b1⟩;have B1:=Lib.hid (HB.out.trans (b1.mono HB.out.size));clear b1
     go_wp2_with fail
     go_ret
     exact⟨congrArg (fun i=>Ending.returned (.int .i64 i)) HR.out.symm,B1.out⟩
    | false=>
     have HPX:=Lib.hid hpx
     go_wp2_with fail
     refine HCA.out.mono ?_;rw[hpx];clear hpx;rintro en w1 ⟨rfl,b1⟩;have B1:=Lib.hid (HB.out.trans (b1.mono HB.out.size));clear b1
     go_wp2_with fail
     go_roundw
     case rel=>
      refine⟨k+1,by omega,by go_num,B1.out,fun j y hj hy=>?_⟩
      by_cases e:j=k
      · subst e;rw[HX.out] at hy
        cases hy
        exact HPX.out
      · exact HP.out j y (by omega) hy
     case measure=>simp[RowKit.intOf];omega
  · have hki:¬(k:Int)<n:=by omega
    have HR:=Lib.hid (qHy (p:=p) (l:=l) (fun j x hx=>HP.out j x (by have:=(List.getElem?_eq_some_iff.1 hx).1;have:=HN.out;omega) hx));have HB:=Lib.hid hb;clear hb
    go_wp2_with fail
    go_ret
    exact⟨congrArg (fun i=>Ending.returned (.int .i64 i)) HR.out.symm,HB.out⟩
theorem qS0 (w:World) (A B:Option Addr) (n cap m capm:Nat) (cs:List Co) (b:Nat) (v:Int) (hn':n≤maxLen) (hn:n=cs.length) (hA:Lay w w.heap.size A (colV cs)) (h0:w.cell? ⟨b,0,none⟩=some (.int .i64 v)) :
    Calls Tryz.prog 53 #[.agg #[.slice A n cap,.slice B m capm],.func (.func 54) #[] #[.pointer (some ⟨b,0,none⟩)]] w fun e w'=>e=.returned (.tuple #[.int .i64 (qD4 (fun c=>decide (c.1=v)) cs).1,.bool (qD4 (fun c=>decide (c.1=v)) cs).2])∧Below w.heap.size w w':=by
 have hb0:Below w.heap.size w (w.alloc (.cells #[.slice A n cap,.slice B m capm] 25)):=(Below.refl _ w).alloc (Nat.le_refl _) _;have hc:=qO2 (w.alloc (.cells #[.slice A n cap,.slice B m capm] 25)) A n cap cs b (fun c=>decide (c.1=v)) hn' hn ((hA.below hb0).more hb0.size) (fun k x W hx hW=>qP2 W b x v ((hW.cell (qAi (hb0.cell (qAi h0) |>.trans h0))).trans ((hb0.cell (qAi h0)).trans h0)));obtain⟨f1,f2⟩:=qU5 (fun c=>decide (c.1=v)) cs;rw[←f1,←f2];have HB:=Lib.hid hb0;clear hA hn hn' hb0 f1 f2
 generalize idxL (fun c=>decide (c.1=v)) cs=I at hc ⊢
 have HC:=Lib.hid hc;clear hc
 by_cases hI:0≤I
 · have hmx:max I 0=I:=by omega
   rw[hmx,decide_eq_true hI]
   have hI2:¬I<0:=by omega
   go_enter Tryz.func53,Tryz.ntmps53
   go_wp2_with fail
   refine HC.out.mono ?_;rintro en w1 ⟨rfl,b1⟩;have B1:=Lib.hid (HB.out.trans (b1.mono HB.out.size));clear b1
   go_wp2_with fail
   all_goals (first|(exfalso;omega)|(go_ret2;exact⟨rfl,B1.out⟩))
 · have hmx:max I 0=0:=by omega
   rw[hmx]
   have hI2:I<0:=by omega
   go_enter Tryz.func53,Tryz.ntmps53
   go_wp2_with fail
   refine HC.out.mono ?_;rintro en w1 ⟨rfl,b1⟩;have B1:=Lib.hid (HB.out.trans (b1.mono HB.out.size));clear b1
   go_wp2_with fail
   all_goals (first|(exfalso;omega)|(go_ret2;exact⟨rfl,B1.out⟩))
theorem qT1 (w:World) (A B:Option Addr) (n cap m capm:Nat) (cs:List Co) (v:Int) (hn':n≤maxLen) (hn:n=cs.length) (hA:Lay w w.heap.size A (colV cs)) :
    Calls Tryz.prog 30 #[.agg #[.slice A n cap,.slice B m capm],.int .i64 v] w fun e w'=>e=.returned (.tuple #[.int .i64 (qD4 (fun c=>decide (c.1=v)) cs).1,.bool (qD4 (fun c=>decide (c.1=v)) cs).2])∧Below w.heap.size w w':=by
 have hb0:Below w.heap.size w ((w.alloc (.cells #[.slice A n cap,.slice B m capm] 25)).alloc (.cells #[.int .i64 v] 3)):=((Below.refl _ w).alloc (Nat.le_refl _) _).alloc (by rw[World.size_alloc];omega) _;have q1:=qAf (w.alloc (.cells #[.slice A n cap,.slice B m capm] 25)) (.cells #[.int .i64 v] 3);rw[World.size_alloc] at q1;have hc:=qS0 _ A B n cap m capm cs (w.heap.size+1) v hn' hn ((hA.below hb0).more hb0.size) (cell_of_block (i:=0) q1 rfl)
 have HC:=Lib.hid hc;have HB:=Lib.hid hb0
 clear hc hA hn hn' hb0 q1
 go_enter Tryz.func30,Tryz.ntmps30
 go_wp2_with fail
 refine HC.out.mono ?_;rintro en w1 ⟨rfl,b1⟩;have B1:=Lib.hid (HB.out.trans (b1.mono HB.out.size));clear b1
 go_wp2_with fail
 go_ret2
 exact⟨rfl,B1.out⟩
end Go.Proofs.YtikpmmipopmjaaaGreatDoor
