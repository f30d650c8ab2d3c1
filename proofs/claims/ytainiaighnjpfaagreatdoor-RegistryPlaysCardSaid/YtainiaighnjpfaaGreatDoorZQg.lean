/- Facts for the walks. -/
import Derived.Test.YtainiaighnjpfaaGreatDoorZQf
set_option maxHeartbeats 4000000
set_option linter.unusedVariables false
namespace Go.Proofs.YtainiaighnjpfaaGreatDoor
open Go.RowKit Go.Ms Go.Lib
set_option maxRecDepth 100000 in
theorem qW4 (s:ByteArray) (w:World) (h1:1≤s.size) (hT:Tabs w) :
    Calls Tryz.prog 250 #[.string s] w fun e w'=>e=.returned (.bool (qIo s.data.toList))∧Below w.heap.size w w':=by
 have hl:s.data.toList.length=s.size:=by simp
 have hb0:=qD1 s.data.toList 0;have hb1:=qD1 s.data.toList 1;have hb2:=qD1 s.data.toList 2;have h01:0<s.size:=h1;have g0:(s[0]'h01).toNat=bt s.data.toList 0:=by rw[qCy];rfl
 have G1:∀h:1<s.size,(s[1]'h).toNat=bt s.data.toList 1:=fun h=>by rw[qCy];rfl
 have G2:∀h:2<s.size,(s[2]'h).toNat=bt s.data.toList 2:=fun h=>by rw[qCy];rfl
 obtain⟨ans,hans⟩:∃ans,qIo s.data.toList=ans:=⟨_,rfl⟩;rw[hans];unfold qIo at hans;rw[hl] at hans;have hc0:=hT.1 (bt s.data.toList 0) hb0;have hX:=firstT_cases (bt s.data.toList 0);generalize firstT (bt s.data.toList 0)=X at *; generalize bt s.data.toList 0=b0 at *; generalize bt s.data.toList 1=b1 at *; generalize bt s.data.toList 2=b2 at *; have hz0:((s.size:Int)==0)=false:=by rw[beq_eq_false_iff_ne];omega
 have hz1:(0:Int)<(s.size:Int):=by omega
 have HG1:=hh_ G1;have HG2:=hh_ G2;clear G1 G2 hl;rcases hX with rfl|rfl|rfl|rfl|rfl|rfl|rfl|rfl|rfl
 · have ha:ans=true:=by rw[←hans];first|(simp;done)|(simp;omega)
   subst ha;clear hans;have hz2:(1:Int)≤(s.size:Int):=by omega
   clear hT;go_enter Tryz.func250,Tryz.ntmps250;go_wp2_with fail
   go_ret;exact⟨rfl,by first|exact Below.refl _ _|exact br_.alloc le_ _|exact qAa (br_.alloc le_ _) _|exact qAa (qAa (br_.alloc le_ _) _) _⟩
 · have ha:ans=true:=by rw[←hans];first|(simp;done)|(simp;omega)
   subst ha;clear hans;have hz2:(1:Int)≤(s.size:Int):=by omega
   clear hT;go_enter Tryz.func250,Tryz.ntmps250;go_wp2_with fail
   go_ret;exact⟨rfl,by first|exact Below.refl _ _|exact br_.alloc le_ _|exact qAa (br_.alloc le_ _) _|exact qAa (qAa (br_.alloc le_ _) _) _⟩
 · have ha0:=(hT.2 0 (by omega)).1;have ha1:=(hT.2 0 (by omega)).2;simp only[accLo,accHi,Nat.reduceMul,Nat.reduceAdd,Nat.reduceEqDiff,if_true,if_false,Nat.reduceMod,Nat.reduceDiv] at ha0 ha1 hans;by_cases hn:2≤s.size
   · have ha:ans=true:=by rw[←hans];first|(simp;done)|(simp;omega)
     subst ha;clear hans;have hz2:(2:Int)≤(s.size:Int):=by omega
     clear hT;go_enter Tryz.func250,Tryz.ntmps250;go_wp2_with fail
     go_ret;exact⟨rfl,by first|exact Below.refl _ _|exact br_.alloc le_ _|exact qAa (br_.alloc le_ _) _|exact qAa (qAa (br_.alloc le_ _) _) _⟩
   have hz2:¬(2:Int)≤(s.size:Int):=by omega
   by_cases hn1:s.size=1
   · have ha:ans=false:=by rw[←hans];first|(simp;done)|(simp;omega)
     subst ha;clear hans;have hd:decide ((1:Int)<(s.size:Int))=false:=by simp;omega
     have hd2:decide ((2:Int)<(s.size:Int))=false:=by simp;omega
     clear hn1;clear hT;go_enter Tryz.func250,Tryz.ntmps250;go_wp2_with fail
     go_quiet (fail)
     go_wp2_with fail
     go_ret;exact⟨rfl,by first|exact Below.refl _ _|exact br_.alloc le_ _|exact qAa (br_.alloc le_ _) _|exact qAa (qAa (br_.alloc le_ _) _) _⟩
   · omega
 · have ha0:=(hT.2 1 (by omega)).1;have ha1:=(hT.2 1 (by omega)).2;simp only[accLo,accHi,Nat.reduceMul,Nat.reduceAdd,Nat.reduceEqDiff,if_true,if_false,Nat.reduceMod,Nat.reduceDiv] at ha0 ha1 hans;by_cases hn:3≤s.size
   · have ha:ans=true:=by rw[←hans];first|(simp;done)|(simp;omega)
     subst ha;clear hans;have hz2:(3:Int)≤(s.size:Int):=by omega
     clear hT;go_enter Tryz.func250,Tryz.ntmps250;go_wp2_with fail
     go_ret;exact⟨rfl,by first|exact Below.refl _ _|exact br_.alloc le_ _|exact qAa (br_.alloc le_ _) _|exact qAa (qAa (br_.alloc le_ _) _) _⟩
   have hz2:¬(3:Int)≤(s.size:Int):=by omega
   by_cases hn1:s.size=1
   · have ha:ans=false:=by rw[←hans];first|(simp;done)|(simp;omega)
     subst ha;clear hans;have hd:decide ((1:Int)<(s.size:Int))=false:=by simp;omega
     have hd2:decide ((2:Int)<(s.size:Int))=false:=by simp;omega
     clear hn1;clear hT;go_enter Tryz.func250,Tryz.ntmps250;go_wp2_with fail
     go_quiet (fail)
     go_wp2_with fail
     go_ret;exact⟨rfl,by first|exact Below.refl _ _|exact br_.alloc le_ _|exact qAa (br_.alloc le_ _) _|exact qAa (qAa (br_.alloc le_ _) _) _⟩
   have hd:(1:Int)<(s.size:Int):=by omega
   have g1:=HG1.out (by omega);by_cases k1:b1<160
   · have ha:ans=true:=by rw[←hans];first|(simp;done)|(simp;omega)
     subst ha;clear hans;have k1':(b1:Int)<160:=by omega
     clear hT;go_enter Tryz.func250,Tryz.ntmps250;go_wp2_with fail
     go_quiet (fail)
     go_wp2_with fail
     go_ret;exact⟨rfl,by first|exact Below.refl _ _|exact br_.alloc le_ _|exact qAa (br_.alloc le_ _) _|exact qAa (qAa (br_.alloc le_ _) _) _⟩
   have k1':¬(b1:Int)<160:=by omega
   by_cases k2:191<b1
   · have ha:ans=true:=by rw[←hans];first|(simp;done)|(simp;omega)
     subst ha;clear hans;have k2':(191:Int)<(b1:Int):=by omega
     clear hT;go_enter Tryz.func250,Tryz.ntmps250;go_wp2_with fail
     go_quiet (fail)
     go_wp2_with fail
     go_ret;exact⟨rfl,by first|exact Below.refl _ _|exact br_.alloc le_ _|exact qAa (br_.alloc le_ _) _|exact qAa (qAa (br_.alloc le_ _) _) _⟩
   have k2':¬(191:Int)<(b1:Int):=by omega
   have ha:ans=false:=by rw[←hans];first|(simp;done)|(simp;omega)
   subst ha;clear hans;have hd2:decide ((2:Int)<(s.size:Int))=false:=by simp;omega
   clear hT;go_enter Tryz.func250,Tryz.ntmps250;go_wp2_with fail
   go_quiet (fail)
   go_wp2_with fail
   go_ret;exact⟨rfl,by first|exact Below.refl _ _|exact br_.alloc le_ _|exact qAa (br_.alloc le_ _) _|exact qAa (qAa (br_.alloc le_ _) _) _⟩
 · have ha0:=(hT.2 0 (by omega)).1;have ha1:=(hT.2 0 (by omega)).2;simp only[accLo,accHi,Nat.reduceMul,Nat.reduceAdd,Nat.reduceEqDiff,if_true,if_false,Nat.reduceMod,Nat.reduceDiv] at ha0 ha1 hans;by_cases hn:3≤s.size
   · have ha:ans=true:=by rw[←hans];first|(simp;done)|(simp;omega)
     subst ha;clear hans;have hz2:(3:Int)≤(s.size:Int):=by omega
     clear hT;go_enter Tryz.func250,Tryz.ntmps250;go_wp2_with fail
     go_ret;exact⟨rfl,by first|exact Below.refl _ _|exact br_.alloc le_ _|exact qAa (br_.alloc le_ _) _|exact qAa (qAa (br_.alloc le_ _) _) _⟩
   have hz2:¬(3:Int)≤(s.size:Int):=by omega
   by_cases hn1:s.size=1
   · have ha:ans=false:=by rw[←hans];first|(simp;done)|(simp;omega)
     subst ha;clear hans;have hd:decide ((1:Int)<(s.size:Int))=false:=by simp;omega
     have hd2:decide ((2:Int)<(s.size:Int))=false:=by simp;omega
     clear hn1;clear hT;go_enter Tryz.func250,Tryz.ntmps250;go_wp2_with fail
     go_quiet (fail)
     go_wp2_with fail
     go_ret;exact⟨rfl,by first|exact Below.refl _ _|exact br_.alloc le_ _|exact qAa (br_.alloc le_ _) _|exact qAa (qAa (br_.alloc le_ _) _) _⟩
   have hd:(1:Int)<(s.size:Int):=by omega
   have g1:=HG1.out (by omega);by_cases k1:b1<128
   · have ha:ans=true:=by rw[←hans];first|(simp;done)|(simp;omega)
     subst ha;clear hans;have k1':(b1:Int)<128:=by omega
     clear hT;go_enter Tryz.func250,Tryz.ntmps250;go_wp2_with fail
     go_quiet (fail)
     go_wp2_with fail
     go_ret;exact⟨rfl,by first|exact Below.refl _ _|exact br_.alloc le_ _|exact qAa (br_.alloc le_ _) _|exact qAa (qAa (br_.alloc le_ _) _) _⟩
   have k1':¬(b1:Int)<128:=by omega
   by_cases k2:191<b1
   · have ha:ans=true:=by rw[←hans];first|(simp;done)|(simp;omega)
     subst ha;clear hans;have k2':(191:Int)<(b1:Int):=by omega
     clear hT;go_enter Tryz.func250,Tryz.ntmps250;go_wp2_with fail
     go_quiet (fail)
     go_wp2_with fail
     go_ret;exact⟨rfl,by first|exact Below.refl _ _|exact br_.alloc le_ _|exact qAa (br_.alloc le_ _) _|exact qAa (qAa (br_.alloc le_ _) _) _⟩
   have k2':¬(191:Int)<(b1:Int):=by omega
   have ha:ans=false:=by rw[←hans];first|(simp;done)|(simp;omega)
   subst ha;clear hans;have hd2:decide ((2:Int)<(s.size:Int))=false:=by simp;omega
   clear hT;go_enter Tryz.func250,Tryz.ntmps250;go_wp2_with fail
   go_quiet (fail)
   go_wp2_with fail
   go_ret;exact⟨rfl,by first|exact Below.refl _ _|exact br_.alloc le_ _|exact qAa (br_.alloc le_ _) _|exact qAa (qAa (br_.alloc le_ _) _) _⟩
 · have ha0:=(hT.2 2 (by omega)).1;have ha1:=(hT.2 2 (by omega)).2;simp only[accLo,accHi,Nat.reduceMul,Nat.reduceAdd,Nat.reduceEqDiff,if_true,if_false,Nat.reduceMod,Nat.reduceDiv] at ha0 ha1 hans;by_cases hn:3≤s.size
   · have ha:ans=true:=by rw[←hans];first|(simp;done)|(simp;omega)
     subst ha;clear hans;have hz2:(3:Int)≤(s.size:Int):=by omega
     clear hT;go_enter Tryz.func250,Tryz.ntmps250;go_wp2_with fail
     go_ret;exact⟨rfl,by first|exact Below.refl _ _|exact br_.alloc le_ _|exact qAa (br_.alloc le_ _) _|exact qAa (qAa (br_.alloc le_ _) _) _⟩
   have hz2:¬(3:Int)≤(s.size:Int):=by omega
   by_cases hn1:s.size=1
   · have ha:ans=false:=by rw[←hans];first|(simp;done)|(simp;omega)
     subst ha;clear hans;have hd:decide ((1:Int)<(s.size:Int))=false:=by simp;omega
     have hd2:decide ((2:Int)<(s.size:Int))=false:=by simp;omega
     clear hn1;clear hT;go_enter Tryz.func250,Tryz.ntmps250;go_wp2_with fail
     go_quiet (fail)
     go_wp2_with fail
     go_ret;exact⟨rfl,by first|exact Below.refl _ _|exact br_.alloc le_ _|exact qAa (br_.alloc le_ _) _|exact qAa (qAa (br_.alloc le_ _) _) _⟩
   have hd:(1:Int)<(s.size:Int):=by omega
   have g1:=HG1.out (by omega);by_cases k1:b1<128
   · have ha:ans=true:=by rw[←hans];first|(simp;done)|(simp;omega)
     subst ha;clear hans;have k1':(b1:Int)<128:=by omega
     clear hT;go_enter Tryz.func250,Tryz.ntmps250;go_wp2_with fail
     go_quiet (fail)
     go_wp2_with fail
     go_ret;exact⟨rfl,by first|exact Below.refl _ _|exact br_.alloc le_ _|exact qAa (br_.alloc le_ _) _|exact qAa (qAa (br_.alloc le_ _) _) _⟩
   have k1':¬(b1:Int)<128:=by omega
   by_cases k2:159<b1
   · have ha:ans=true:=by rw[←hans];first|(simp;done)|(simp;omega)
     subst ha;clear hans;have k2':(159:Int)<(b1:Int):=by omega
     clear hT;go_enter Tryz.func250,Tryz.ntmps250;go_wp2_with fail
     go_quiet (fail)
     go_wp2_with fail
     go_ret;exact⟨rfl,by first|exact Below.refl _ _|exact br_.alloc le_ _|exact qAa (br_.alloc le_ _) _|exact qAa (qAa (br_.alloc le_ _) _) _⟩
   have k2':¬(159:Int)<(b1:Int):=by omega
   have ha:ans=false:=by rw[←hans];first|(simp;done)|(simp;omega)
   subst ha;clear hans;have hd2:decide ((2:Int)<(s.size:Int))=false:=by simp;omega
   clear hT;go_enter Tryz.func250,Tryz.ntmps250;go_wp2_with fail
   go_quiet (fail)
   go_wp2_with fail
   go_ret;exact⟨rfl,by first|exact Below.refl _ _|exact br_.alloc le_ _|exact qAa (br_.alloc le_ _) _|exact qAa (qAa (br_.alloc le_ _) _) _⟩
 · have ha0:=(hT.2 3 (by omega)).1;have ha1:=(hT.2 3 (by omega)).2;simp only[accLo,accHi,Nat.reduceMul,Nat.reduceAdd,Nat.reduceEqDiff,if_true,if_false,Nat.reduceMod,Nat.reduceDiv] at ha0 ha1 hans;by_cases hn:4≤s.size
   · have ha:ans=true:=by rw[←hans];first|(simp;done)|(simp;omega)
     subst ha;clear hans;have hz2:(4:Int)≤(s.size:Int):=by omega
     clear hT;go_enter Tryz.func250,Tryz.ntmps250;go_wp2_with fail
     go_ret;exact⟨rfl,by first|exact Below.refl _ _|exact br_.alloc le_ _|exact qAa (br_.alloc le_ _) _|exact qAa (qAa (br_.alloc le_ _) _) _⟩
   have hz2:¬(4:Int)≤(s.size:Int):=by omega
   by_cases hn1:s.size=1
   · have ha:ans=false:=by rw[←hans];first|(simp;done)|(simp;omega)
     subst ha;clear hans;have hd:decide ((1:Int)<(s.size:Int))=false:=by simp;omega
     have hd2:decide ((2:Int)<(s.size:Int))=false:=by simp;omega
     clear hn1;clear hT;go_enter Tryz.func250,Tryz.ntmps250;go_wp2_with fail
     go_quiet (fail)
     go_wp2_with fail
     go_ret;exact⟨rfl,by first|exact Below.refl _ _|exact br_.alloc le_ _|exact qAa (br_.alloc le_ _) _|exact qAa (qAa (br_.alloc le_ _) _) _⟩
   have hd:(1:Int)<(s.size:Int):=by omega
   have g1:=HG1.out (by omega);by_cases k1:b1<144
   · have ha:ans=true:=by rw[←hans];first|(simp;done)|(simp;omega)
     subst ha;clear hans;have k1':(b1:Int)<144:=by omega
     clear hT;go_enter Tryz.func250,Tryz.ntmps250;go_wp2_with fail
     go_quiet (fail)
     go_wp2_with fail
     go_ret;exact⟨rfl,by first|exact Below.refl _ _|exact br_.alloc le_ _|exact qAa (br_.alloc le_ _) _|exact qAa (qAa (br_.alloc le_ _) _) _⟩
   have k1':¬(b1:Int)<144:=by omega
   by_cases k2:191<b1
   · have ha:ans=true:=by rw[←hans];first|(simp;done)|(simp;omega)
     subst ha;clear hans;have k2':(191:Int)<(b1:Int):=by omega
     clear hT;go_enter Tryz.func250,Tryz.ntmps250;go_wp2_with fail
     go_quiet (fail)
     go_wp2_with fail
     go_ret;exact⟨rfl,by first|exact Below.refl _ _|exact br_.alloc le_ _|exact qAa (br_.alloc le_ _) _|exact qAa (qAa (br_.alloc le_ _) _) _⟩
   have k2':¬(191:Int)<(b1:Int):=by omega
   by_cases hn2:s.size=2
   · have ha:ans=false:=by rw[←hans];first|(simp;done)|(simp;omega)
     subst ha;clear hans;have hd2:decide ((2:Int)<(s.size:Int))=false:=by simp;omega
     clear hn2;clear hT;go_enter Tryz.func250,Tryz.ntmps250;go_wp2_with fail
     go_quiet (fail)
     go_wp2_with fail
     go_ret;exact⟨rfl,by first|exact Below.refl _ _|exact br_.alloc le_ _|exact qAa (br_.alloc le_ _) _|exact qAa (qAa (br_.alloc le_ _) _) _⟩
   have hd2:(2:Int)<(s.size:Int):=by omega
   have g2:=HG2.out (by omega);by_cases k3:b2<128
   · have ha:ans=true:=by rw[←hans];first|(simp;done)|(simp;omega)
     subst ha;clear hans;have k3':(b2:Int)<128:=by omega
     clear hT;go_enter Tryz.func250,Tryz.ntmps250;go_wp2_with fail
     go_quiet (fail)
     go_wp2_with fail
     go_ret;exact⟨rfl,by first|exact Below.refl _ _|exact br_.alloc le_ _|exact qAa (br_.alloc le_ _) _|exact qAa (qAa (br_.alloc le_ _) _) _⟩
   have k3':¬(b2:Int)<128:=by omega
   by_cases k4:191<b2
   · have ha:ans=true:=by rw[←hans];first|(simp;done)|(simp;omega)
     subst ha;clear hans;have k4':(191:Int)<(b2:Int):=by omega
     clear hT;go_enter Tryz.func250,Tryz.ntmps250;go_wp2_with fail
     go_quiet (fail)
     go_wp2_with fail
     go_ret;exact⟨rfl,by first|exact Below.refl _ _|exact br_.alloc le_ _|exact qAa (br_.alloc le_ _) _|exact qAa (qAa (br_.alloc le_ _) _) _⟩
   have k4':¬(191:Int)<(b2:Int):=by omega
   have ha:ans=false:=by rw[←hans];first|(simp;done)|(simp;omega)
   subst ha;clear hans;clear hT;go_enter Tryz.func250,Tryz.ntmps250;go_wp2_with fail
   go_quiet (fail)
   go_wp2_with fail
   go_ret;exact⟨rfl,by first|exact Below.refl _ _|exact br_.alloc le_ _|exact qAa (br_.alloc le_ _) _|exact qAa (qAa (br_.alloc le_ _) _) _⟩
 · have ha0:=(hT.2 0 (by omega)).1;have ha1:=(hT.2 0 (by omega)).2;simp only[accLo,accHi,Nat.reduceMul,Nat.reduceAdd,Nat.reduceEqDiff,if_true,if_false,Nat.reduceMod,Nat.reduceDiv] at ha0 ha1 hans;by_cases hn:4≤s.size
   · have ha:ans=true:=by rw[←hans];first|(simp;done)|(simp;omega)
     subst ha;clear hans;have hz2:(4:Int)≤(s.size:Int):=by omega
     clear hT;go_enter Tryz.func250,Tryz.ntmps250;go_wp2_with fail
     go_ret;exact⟨rfl,by first|exact Below.refl _ _|exact br_.alloc le_ _|exact qAa (br_.alloc le_ _) _|exact qAa (qAa (br_.alloc le_ _) _) _⟩
   have hz2:¬(4:Int)≤(s.size:Int):=by omega
   by_cases hn1:s.size=1
   · have ha:ans=false:=by rw[←hans];first|(simp;done)|(simp;omega)
     subst ha;clear hans;have hd:decide ((1:Int)<(s.size:Int))=false:=by simp;omega
     have hd2:decide ((2:Int)<(s.size:Int))=false:=by simp;omega
     clear hn1;clear hT;go_enter Tryz.func250,Tryz.ntmps250;go_wp2_with fail
     go_quiet (fail)
     go_wp2_with fail
     go_ret;exact⟨rfl,by first|exact Below.refl _ _|exact br_.alloc le_ _|exact qAa (br_.alloc le_ _) _|exact qAa (qAa (br_.alloc le_ _) _) _⟩
   have hd:(1:Int)<(s.size:Int):=by omega
   have g1:=HG1.out (by omega);by_cases k1:b1<128
   · have ha:ans=true:=by rw[←hans];first|(simp;done)|(simp;omega)
     subst ha;clear hans;have k1':(b1:Int)<128:=by omega
     clear hT;go_enter Tryz.func250,Tryz.ntmps250;go_wp2_with fail
     go_quiet (fail)
     go_wp2_with fail
     go_ret;exact⟨rfl,by first|exact Below.refl _ _|exact br_.alloc le_ _|exact qAa (br_.alloc le_ _) _|exact qAa (qAa (br_.alloc le_ _) _) _⟩
   have k1':¬(b1:Int)<128:=by omega
   by_cases k2:191<b1
   · have ha:ans=true:=by rw[←hans];first|(simp;done)|(simp;omega)
     subst ha;clear hans;have k2':(191:Int)<(b1:Int):=by omega
     clear hT;go_enter Tryz.func250,Tryz.ntmps250;go_wp2_with fail
     go_quiet (fail)
     go_wp2_with fail
     go_ret;exact⟨rfl,by first|exact Below.refl _ _|exact br_.alloc le_ _|exact qAa (br_.alloc le_ _) _|exact qAa (qAa (br_.alloc le_ _) _) _⟩
   have k2':¬(191:Int)<(b1:Int):=by omega
   by_cases hn2:s.size=2
   · have ha:ans=false:=by rw[←hans];first|(simp;done)|(simp;omega)
     subst ha;clear hans;have hd2:decide ((2:Int)<(s.size:Int))=false:=by simp;omega
     clear hn2;clear hT;go_enter Tryz.func250,Tryz.ntmps250;go_wp2_with fail
     go_quiet (fail)
     go_wp2_with fail
     go_ret;exact⟨rfl,by first|exact Below.refl _ _|exact br_.alloc le_ _|exact qAa (br_.alloc le_ _) _|exact qAa (qAa (br_.alloc le_ _) _) _⟩
   have hd2:(2:Int)<(s.size:Int):=by omega
   have g2:=HG2.out (by omega);by_cases k3:b2<128
   · have ha:ans=true:=by rw[←hans];first|(simp;done)|(simp;omega)
     subst ha;clear hans;have k3':(b2:Int)<128:=by omega
     clear hT;go_enter Tryz.func250,Tryz.ntmps250;go_wp2_with fail
     go_quiet (fail)
     go_wp2_with fail
     go_ret;exact⟨rfl,by first|exact Below.refl _ _|exact br_.alloc le_ _|exact qAa (br_.alloc le_ _) _|exact qAa (qAa (br_.alloc le_ _) _) _⟩
   have k3':¬(b2:Int)<128:=by omega
   by_cases k4:191<b2
   · have ha:ans=true:=by rw[←hans];first|(simp;done)|(simp;omega)
     subst ha;clear hans;have k4':(191:Int)<(b2:Int):=by omega
     clear hT;go_enter Tryz.func250,Tryz.ntmps250;go_wp2_with fail
     go_quiet (fail)
     go_wp2_with fail
     go_ret;exact⟨rfl,by first|exact Below.refl _ _|exact br_.alloc le_ _|exact qAa (br_.alloc le_ _) _|exact qAa (qAa (br_.alloc le_ _) _) _⟩
   have k4':¬(191:Int)<(b2:Int):=by omega
   have ha:ans=false:=by rw[←hans];first|(simp;done)|(simp;omega)
   subst ha;clear hans;clear hT;go_enter Tryz.func250,Tryz.ntmps250;go_wp2_with fail
   go_quiet (fail)
   go_wp2_with fail
   go_ret;exact⟨rfl,by first|exact Below.refl _ _|exact br_.alloc le_ _|exact qAa (br_.alloc le_ _) _|exact qAa (qAa (br_.alloc le_ _) _) _⟩
 · have ha0:=(hT.2 4 (by omega)).1;have ha1:=(hT.2 4 (by omega)).2;simp only[accLo,accHi,Nat.reduceMul,Nat.reduceAdd,Nat.reduceEqDiff,if_true,if_false,Nat.reduceMod,Nat.reduceDiv] at ha0 ha1 hans;by_cases hn:4≤s.size
   · have ha:ans=true:=by rw[←hans];first|(simp;done)|(simp;omega)
     subst ha;clear hans;have hz2:(4:Int)≤(s.size:Int):=by omega
     clear hT;go_enter Tryz.func250,Tryz.ntmps250;go_wp2_with fail
     go_ret;exact⟨rfl,by first|exact Below.refl _ _|exact br_.alloc le_ _|exact qAa (br_.alloc le_ _) _|exact qAa (qAa (br_.alloc le_ _) _) _⟩
   have hz2:¬(4:Int)≤(s.size:Int):=by omega
   by_cases hn1:s.size=1
   · have ha:ans=false:=by rw[←hans];first|(simp;done)|(simp;omega)
     subst ha;clear hans;have hd:decide ((1:Int)<(s.size:Int))=false:=by simp;omega
     have hd2:decide ((2:Int)<(s.size:Int))=false:=by simp;omega
     clear hn1;clear hT;go_enter Tryz.func250,Tryz.ntmps250;go_wp2_with fail
     go_quiet (fail)
     go_wp2_with fail
     go_ret;exact⟨rfl,by first|exact Below.refl _ _|exact br_.alloc le_ _|exact qAa (br_.alloc le_ _) _|exact qAa (qAa (br_.alloc le_ _) _) _⟩
   have hd:(1:Int)<(s.size:Int):=by omega
   have g1:=HG1.out (by omega);by_cases k1:b1<128
   · have ha:ans=true:=by rw[←hans];first|(simp;done)|(simp;omega)
     subst ha;clear hans;have k1':(b1:Int)<128:=by omega
     clear hT;go_enter Tryz.func250,Tryz.ntmps250;go_wp2_with fail
     go_quiet (fail)
     go_wp2_with fail
     go_ret;exact⟨rfl,by first|exact Below.refl _ _|exact br_.alloc le_ _|exact qAa (br_.alloc le_ _) _|exact qAa (qAa (br_.alloc le_ _) _) _⟩
   have k1':¬(b1:Int)<128:=by omega
   by_cases k2:143<b1
   · have ha:ans=true:=by rw[←hans];first|(simp;done)|(simp;omega)
     subst ha;clear hans;have k2':(143:Int)<(b1:Int):=by omega
     clear hT;go_enter Tryz.func250,Tryz.ntmps250;go_wp2_with fail
     go_quiet (fail)
     go_wp2_with fail
     go_ret;exact⟨rfl,by first|exact Below.refl _ _|exact br_.alloc le_ _|exact qAa (br_.alloc le_ _) _|exact qAa (qAa (br_.alloc le_ _) _) _⟩
   have k2':¬(143:Int)<(b1:Int):=by omega
   by_cases hn2:s.size=2
   · have ha:ans=false:=by rw[←hans];first|(simp;done)|(simp;omega)
     subst ha;clear hans;have hd2:decide ((2:Int)<(s.size:Int))=false:=by simp;omega
     clear hn2;clear hT;go_enter Tryz.func250,Tryz.ntmps250;go_wp2_with fail
     go_quiet (fail)
     go_wp2_with fail
     go_ret;exact⟨rfl,by first|exact Below.refl _ _|exact br_.alloc le_ _|exact qAa (br_.alloc le_ _) _|exact qAa (qAa (br_.alloc le_ _) _) _⟩
   have hd2:(2:Int)<(s.size:Int):=by omega
   have g2:=HG2.out (by omega);by_cases k3:b2<128
   · have ha:ans=true:=by rw[←hans];first|(simp;done)|(simp;omega)
     subst ha;clear hans;have k3':(b2:Int)<128:=by omega
     clear hT;go_enter Tryz.func250,Tryz.ntmps250;go_wp2_with fail
     go_quiet (fail)
     go_wp2_with fail
     go_ret;exact⟨rfl,by first|exact Below.refl _ _|exact br_.alloc le_ _|exact qAa (br_.alloc le_ _) _|exact qAa (qAa (br_.alloc le_ _) _) _⟩
   have k3':¬(b2:Int)<128:=by omega
   by_cases k4:191<b2
   · have ha:ans=true:=by rw[←hans];first|(simp;done)|(simp;omega)
     subst ha;clear hans;have k4':(191:Int)<(b2:Int):=by omega
     clear hT;go_enter Tryz.func250,Tryz.ntmps250;go_wp2_with fail
     go_quiet (fail)
     go_wp2_with fail
     go_ret;exact⟨rfl,by first|exact Below.refl _ _|exact br_.alloc le_ _|exact qAa (br_.alloc le_ _) _|exact qAa (qAa (br_.alloc le_ _) _) _⟩
   have k4':¬(191:Int)<(b2:Int):=by omega
   have ha:ans=false:=by rw[←hans];first|(simp;done)|(simp;omega)
   subst ha;clear hans;clear hT;go_enter Tryz.func250,Tryz.ntmps250;go_wp2_with fail
   go_quiet (fail)
   go_wp2_with fail
   go_ret;exact⟨rfl,by first|exact Below.refl _ _|exact br_.alloc le_ _|exact qAa (br_.alloc le_ _) _|exact qAa (qAa (br_.alloc le_ _) _) _⟩
theorem qSj (b:Nat) (s:ByteArray) (p:Nat) (e:Int) (w:World) (hp:p<s.size) (hs:s.size≤1000000) (hT:Tabs w) (h:Tri 263 b (.string s) (.int .i64 p) (.int .i64 e) w) :
    Calls Tryz.prog 232 #[.pointer (some ⟨b,0,none⟩)] w (RdP 263 b s (qBg s.data.toList p e).2.1 (qBg s.data.toList p e).2.2 (.string ⟨(qBg s.data.toList p e).1.toArray⟩) w):=by
 have c0:=h.c0;have c1:=h.c1;have hl:s.data.toList.length=s.size:=by simp
 have hext:(s.extract p s.size).data.toList=s.data.toList.drop p:=by rw[ext_list,List.take_of_length_le (by omega)]
 have hsz:(s.extract p s.size).size=s.size-p:=by simp
 have h0:0<(s.extract p s.size).size:=by omega
 have g0:((s.extract p s.size)[0]'h0).toNat=bt s.data.toList p:=by
  rw[qCy,hext];simp[bt,List.getD_eq_getElem?_getD]
 obtain⟨R,hR⟩:∃R,qBg s.data.toList p e=R:=⟨_,rfl⟩;rw[hR];unfold qBg at hR;have cn:=fun W (hT:Tabs W)=>qU4 (s.extract p s.size) W hT
 have cf:=fun W (hT:Tabs W)=>qW4 (s.extract p s.size) W (by omega) hT
 rw[hext] at cn cf;have Cn:=hh_ cn;have Cf:=hh_ cf;clear cn cf;obtain⟨ok,hok⟩:∃ok,(qC2 (s.data.toList.drop p)).2.2=ok:=⟨_,rfl⟩;obtain⟨n,hn⟩:∃n,(qC2 (s.data.toList.drop p)).2.1=n:=⟨_,rfl⟩;rw[hok,hn] at hR
 have hnl:ok=true→n≤s.size-p:=by
  intro h1;rcases qC6 (s.data.toList.drop p) with e1|⟨r,_,e2,e3⟩
  · rw[e1] at hok;simp at hok;rw[h1] at hok;cases hok
  · rw[e2] at hn;have:=congrArg List.length e3;simp at this hn;omega
 have Hext:=hh_ hext;have Hok:=hh_ hok;have Hn:=hh_ hn;clear hok hn hext;have hcut:((s.extract p s.size).extract 0 n).data.toList=(s.data.toList.drop p).take n:=by rw[ext_list,Hext.out];simp
 have Hcut:=hh_ hcut;clear hcut;by_cases hc:bt s.data.toList p<32
 · rw[if_pos hc] at hR;subst hR;have hc':(bt s.data.toList p:Int)<32:=by omega
   go_enter Tryz.func232,Tryz.ntmps232;go_wp2_with fail
   go_quiet (fail)
   go_wp2_with fail
   refine(Cn.out _ (by exact hT)).mono ?_;rintro en w1 ⟨rfl,hb1⟩;have t1:=(h.drewN _).below hb1 h.lt;have k1:Kept b w w1:=((Kept.refl b w).drewN _).trans (Kept.of_below hb1);rw[Hok.out,Hn.out];go_wp2_with fail
   refine(qBq b s p e 41 _ t1).mono ?_;rintro en w2 ⟨rfl,t2,k2⟩;go_wp2_with fail
   go_ret;exact⟨rfl,t2,k1.trans k2⟩
 rw[if_neg hc] at hR;have hc':¬(bt s.data.toList p:Int)<32:=by omega
 cases ok
 · rw[if_neg (by simp)] at hR;obtain⟨fl,hfl⟩:∃fl,qIo (s.data.toList.drop p)=fl:=⟨_,rfl⟩;rw[hfl] at hR;have Hfl:=hh_ hfl;clear hfl;cases fl
   · rw[if_neg (by simp)] at hR;subst hR;go_enter Tryz.func232,Tryz.ntmps232;go_wp2_with fail
     go_quiet (fail)
     go_wp2_with fail
     refine(Cn.out _ (by exact hT)).mono ?_;rintro en w1 ⟨rfl,hb1⟩;have t1:=(h.drewN _).below hb1 h.lt;have k1:Kept b w w1:=((Kept.refl b w).drewN _).trans (Kept.of_below hb1);rw[Hok.out,Hn.out];go_wp2_with fail
     refine(Cf.out _ (qC3 (qK8 hT _) hb1)).mono ?_;rintro en w2 ⟨rfl,hb2⟩;rw[Hfl.out];go_wp2_with fail
     refine(qBq b s p e 3 _ (t1.below hb2 t1.lt)).mono ?_;rintro en w3 ⟨rfl,t3,k3⟩;go_wp2_with fail
     go_ret;exact⟨rfl,t3,(k1.trans (Kept.of_below hb2)).trans k3⟩
   · rw[if_pos rfl] at hR;subst hR;go_enter Tryz.func232,Tryz.ntmps232;go_wp2_with fail
     go_quiet (fail)
     go_wp2_with fail
     refine(Cn.out _ (by exact hT)).mono ?_;rintro en w1 ⟨rfl,hb1⟩;have t1:=(h.drewN _).below hb1 h.lt;have k1:Kept b w w1:=((Kept.refl b w).drewN _).trans (Kept.of_below hb1);rw[Hok.out,Hn.out];go_wp2_with fail
     refine(Cf.out _ (qC3 (qK8 hT _) hb1)).mono ?_;rintro en w2 ⟨rfl,hb2⟩;rw[Hfl.out];go_wp2_with fail
     refine(qBq b s p e 40 _ (t1.below hb2 t1.lt)).mono ?_;rintro en w3 ⟨rfl,t3,k3⟩;go_wp2_with fail
     go_ret;exact⟨rfl,t3,(k1.trans (Kept.of_below hb2)).trans k3⟩
 · rw[if_pos rfl] at hR;subst hR;have hnl2:n≤s.size-p:=hnl rfl;have hnl3:(n:Int)≤((s.extract p s.size).size:Int):=by omega
   clear hnl;go_enter Tryz.func232,Tryz.ntmps232;go_wp2_with fail
   go_quiet (fail)
   go_wp2_with fail
   refine(Cn.out _ (by exact hT)).mono ?_;rintro en w1 ⟨rfl,hb1⟩;have t1:=(h.drewN _).below hb1 h.lt;have k1:Kept b w w1:=((Kept.refl b w).drewN _).trans (Kept.of_below hb1);rw[Hok.out,Hn.out];have d1:=t1.c1;have f1:=t1.fr 1;go_wp2_with fail
   go_ret;refine⟨?_,?_,?_⟩
   · exact congrArg (fun x=>Ending.returned (Value.string x)) (qBu Hcut.out)
   · exact t1.set1 (.int .i64 ((p+n:Nat):Int))
   · exact k1.trans ((Kept.refl b w1).setCell (p:=⟨b,1,none⟩) rfl _)
end Go.Proofs.YtainiaighnjpfaaGreatDoor
