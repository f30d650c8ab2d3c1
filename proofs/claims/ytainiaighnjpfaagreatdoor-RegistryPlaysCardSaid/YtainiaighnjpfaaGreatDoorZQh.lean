/- Cells: quoting; texts that may be; hex. Cells: what of the library's variables is wanted; whole numbers as texts and back; rows of bytes. Cells: the bits of texts, and back; hex. Cells: the bits of texts taken off. Rows of bytes of one's own: appended to, and where they lie then. -/
import Derived.Test.YtainiaighnjpfaaGreatDoorZQg
import Derived.Deep.LoopGhost
import Derived.Deep.RegionWith
import Derived.Lib.SmallJoins
set_option linter.unusedVariables false
namespace Go.Proofs.YtainiaighnjpfaaGreatDoor
open Go.RowKit Go.Ms Go.Lib Go.MapKept
theorem qRt (b:Nat) (s:ByteArray) (p:Nat) (e:Int) (w:World) (hp:p≤s.size) (hs:s.size≤1000000) (h:Tri 263 b (.string s) (.int .i64 p) (.int .i64 e) w) :
    Calls Tryz.prog 231 #[.pointer (some ⟨b,0,none⟩)] w (RdP 263 b s (qAw s.data.toList p e).2.1 (qAw s.data.toList p e).2.2 (.string ⟨(qAw s.data.toList p e).1.toArray⟩) w):=by
 have hl:s.data.toList.length=s.size:=by simp
 have a1:=qHi s.data.toList p e (by omega);have b1:=qMz s.data.toList p e;obtain⟨e2,he2⟩:∃e2,e2=if (qAt s.data.toList p e).1=117 then (qAt s.data.toList p e).2.2 else qCa (qAt s.data.toList p e).2.2 41:=⟨_,rfl⟩
 have a3:=qJe s.data.toList false (qAt s.data.toList p e).2.1 e2 a1.2;have a4:=qE8 s.data.toList 92 (qBj s.data.toList false (qAt s.data.toList p e).2.1 e2).2.1 (qBj s.data.toList false (qAt s.data.toList p e).2.1 e2).2.2 a3.2;have a5:=qE8 s.data.toList 117 _ (qBd s.data.toList 92 (qBj s.data.toList false (qAt s.data.toList p e).2.1 e2).2.1 (qBj s.data.toList false (qAt s.data.toList p e).2.1 e2).2.2).2 a4.2
 refine qU5 b s _ _ e2 _ _ _ _ _ _ _ _ _ _ _ _ w b1.1 b1.2 (qM6 _ _ _ _) (qM6 _ _ _ _) (qL4 b s p e w hp hs h)
   (fun w h=>qPc b s false _ _ w (by omega) hs h) (fun w h=>qL0 b s _ _ 92 w (by omega) hs h) (fun w h=>qL0 b s _ _ 117 w (by omega) hs h) (fun w h=>qPc b s true _ _ w (by omega) hs h) he2 ?_
 show _=_
 subst he2;rfl
set_option maxHeartbeats 4000000 in
theorem qN5 (s :ByteArray) (w:World) (hs:s.size≤100000) (hT:Tabs w) :
    Calls Tryz.prog 199 #[.string s] w fun e w'=>e=.returned (.tuple #[.string ⟨(qDm s.data.toList).1.toArray⟩,.int .i64 (qDm s.data.toList).2.1,.int .i64 (qDm s.data.toList).2.2])∧Below w.heap.size w w':=by
 have hl:s.data.toList.length=s.size:=by simp
 obtain⟨ANS,hANS⟩:∃A,qDm s.data.toList=A:=⟨_,rfl⟩;rw[hANS];unfold qDm at hANS;have hw:=qE8 s.data.toList 34 0 0 (by omega);have HA:=hh_ hANS;clear hANS;go_enter Tryz.func199,Tryz.ntmps199;go_wp2_with fail
 have ht0:Tri 263 w.heap.size (.string s) (.int .i64 ((0:Nat):Int)) (.int .i64 0) (w.alloc (.cells #[.string s,.int .i64 0,.int .i64 0] 263)):=heap_alloc_new w _;refine(qL0 w.heap.size s 0 0 34 _ (by omega) (by omega) ht0).mono ?_;rintro en w1 ⟨rfl,t1,k1⟩;go_wp2_with fail
 have hsz1:w.heap.size+1≤w1.heap.size:=by have:=k1.size;simpa using this
 have hI0:IsBuilderF 190 5 w1.heap.size w1.heap.size (Lib.byteCells []) (w1.alloc (.cells #[.pointer none,.slice none 0 0] 190)):=IsBuilderF.of (Lib.fresh_isBuilder 190 5 w1);have t2:=t1.alloc (.cells #[.pointer none,.slice none 0 0] 190)
 have hb2:Below w.heap.size w (w1.alloc (.cells #[.pointer none,.slice none 0 0] 190)):=
   (((Below.refl _ w).alloc le_ _).trans (k1.below le_ (by simp))).alloc (by omega) _
 go_loopg [] (s.size+2) (fun gk wr=> ∃(p:Nat) (e:Int) (acc:Bs),Tri 263 w.heap.size (.string s) (.int .i64 p) (.int .i64 e) wr∧IsBuilderF 190 5 w1.heap.size w1.heap.size (Lib.byteCells acc) wr∧Below w.heap.size w wr∧w1.heap.size≤wr.heap.size∧p≤s.size∧acc.length+4*gk≤4*(s.size+2)∧Hid (uqGo s.data.toList gk acc p e=ANS)∧Hid ((if e=0 then s.size-p+1 else 0)<gk))
 case atStart=>
  refine⟨_,_,[],t2,hI0,hb2,by simp,by omega,by simp,?_,?_⟩
  · show _=_
    rw[←hl];exact HA.out
  · show _<_
    split <;> omega
 case round =>
  obtain⟨p,e,acc,ht,hI,hb,hsz,hp,hal,huq,hfu⟩:=hrel;obtain⟨g,rfl⟩:∃g,gk=g+1:=⟨gk-1,by have:=hfu.out;omega⟩;clear t2 hI0 hb2 t1 k1 ht0 HA;have hTr:=qC3 hT hb;have c0:=ht.c0;have c1:=ht.c1;have c2:=ht.c2;have f1:=ht.fr 1;have f2:=ht.fr 2;by_cases he:e=0
  · subst he;have hfu2:s.size-p+1<g+1:=hfu.out;by_cases hpe:p=s.size
    · have hz:((p:Int)==(s.size:Int))=true:=by simp;omega
      have hA:ANS=([],0,3):=by
       rw[←huq.out,qBp,if_pos rfl,if_pos (by omega)]
      subst hA;clear huq hfu;obtain⟨g',rfl⟩:∃g',g=g'+1:=⟨g-1,by omega⟩;go_wp2_with fail
      refine(qBq w.heap.size s p 0 3 _ ht).mono ?_;rintro en w2 ⟨rfl,t3,k3⟩;go_wp2_with fail
      go_roundg (g'+1)
      case measure=>omega
      case rel=>
       exact⟨p,3,acc,t3,qLz hI k3 ht (by decide) (by decide),hb.trans (k3.below le_ (by have:=hb.size;omega)),by have:=k3.size;omega,hp,by omega,rfl,by show _<_;simp⟩
    · have hz:((p:Int)==(s.size:Int))=false:=by simp;omega
      have hlt:p<s.size:=by omega
      have hlt2:(p:Int)<(s.size:Int):=by omega
      have g0:(s[p]'hlt).toNat=bt s.data.toList p:=by rw[qCy];rfl
      have hb0:=qD1 s.data.toList p;by_cases hq:bt s.data.toList p=34
      · have hA:ANS=(acc,p+1,0):=by
          rw[←huq.out,qBp,if_pos rfl,if_neg (by omega),if_pos hq]
        subst hA;have hq2:((bt s.data.toList p:Nat):Int)=34:=by omega
        rw[hq] at g0;clear huq hfu
        have cS:∀W:World,W.heap=wr.heap→Calls Tryz.prog 133 #[.pointer (some ⟨w1.heap.size,0,none⟩)] W fun en w'=>en=.returned (.string ⟨acc.toArray⟩)∧Tri 263 w.heap.size (.string s) (.int .i64 p) (.int .i64 0) w'∧Below w1.heap.size W w':=by
         intro W hW;have hI2:IsBuilderF 190 5 w1.heap.size w1.heap.size (Lib.byteCells acc) W:=qMj hI (fun _ _ _ _ _ _=>by rw[hW]);have ht2:Tri 263 w.heap.size (.string s) (.int .i64 p) (.int .i64 0) W:=by unfold Tri at *; rw[hW];exact ht
         refine(Tryz.Builder_String_any_k w1.heap.size w1.heap.size acc W hI2 (by rw[hW];exact hsz)).mono ?_;rintro en W2 ⟨rfl,_,hb2,ho2⟩;exact⟨rfl,ht2.others ho2 (by omega) (by decide),hb2⟩
        have v1:IntKind.i64.wrap ((p:Int)+1)=(p:Int)+1:=IntWalk.i64_in _ (by omega);have CS:=hh_ cS;clear cS;go_wp2_with fail
        go_region_with ((go_at_call 133;refine(CS.out _ (by rfl)).mono ?_;rintro en W2 ⟨rfl,t5,hb2⟩;have d1:=t5.c1))
        all_goals go_wp2_with fail
        all_goals go_ret3
        all_goals exact⟨rfl,(hb.drew).trans (hb2.mono (by omega))⟩
      · by_cases hbs:bt s.data.toList p=92
        · have hq2:uqGo s.data.toList g (acc++(qAw s.data.toList (p+1) 0).1) (qAw s.data.toList (p+1) 0).2.1 (qAw s.data.toList (p+1) 0).2.2=ANS:=by
            rw[←huq.out,qBp,if_pos rfl,if_neg (by omega),if_neg hq,if_pos hbs]
          have Hq:=hh_ hq2;have hle:=qOl s.data.toList (p+1) 0 (by omega);have hln:=qFf s.data.toList (p+1) 0;rw[hbs] at g0;clear huq hfu hq2 hq hbs;go_wp2_with fail
          have ht2:=ht.set1 (.int .i64 ((p+1:Nat):Int));refine(qRt w.heap.size s (p+1) 0 _ (by omega) (by omega) ht2).mono ?_;rintro en w2 ⟨rfl,t3,k3⟩;have hk:Kept w.heap.size wr w2:=((Kept.refl w.heap.size wr).setCell (p:=⟨w.heap.size,1,none⟩) rfl _).trans k3;have hI2:=qLz hI hk ht (by decide) (by decide);go_wp2_with fail
          refine(qIu w1.heap.size w1.heap.size _ _ _ hI2 ?_ (by have:=hk.size;omega)).mono ?_
          · rw[Lib.byteCells_length];have:(⟨(qAw s.data.toList (p+1) 0).1.toArray⟩:ByteArray).size=(qAw s.data.toList (p+1) 0).1.length:=by show(List.toArray _).size=_;simp
            omega
          rintro en w3 ⟨rfl,hI3,hb3,ho3⟩;go_wp2_with fail
          go_roundg g
          case measure=>omega
          case rel=>
           refine⟨_,_,_,t3.others ho3 (by omega) (by decide),?_,(hb.trans (hk.below le_ (by have:=hb.size;omega))).trans (hb3.mono (by omega)),by have:=hk.size;have:=hb3.size;omega,by omega,?_,Hq,?_⟩
           · rw[Lib.byteCells_append];exact hI3
           · rw[List.length_append];omega
           · show _<_
             split <;> omega
        · have hq2:uqGo s.data.toList g (acc++(qBg s.data.toList p 0).1) (qBg s.data.toList p 0).2.1 (qBg s.data.toList p 0).2.2=ANS:=by
            rw[←huq.out,qBp,if_pos rfl,if_neg (by omega),if_neg hq,if_neg hbs]
          have Hq:=hh_ hq2;have hle:=qRp s.data.toList p 0 (by omega);have hln:=qGk s.data.toList p 0;have g1:(((bt s.data.toList p:Nat):Int)==34)=false:=by simp;omega
          have g2:(((bt s.data.toList p:Nat):Int)==92)=false:=by simp;omega
          clear huq hfu hq2;go_wp2_with fail
          refine(qSj w.heap.size s p 0 _ hlt (by omega) hTr ht).mono ?_;rintro en w2 ⟨rfl,t3,hk⟩;have hI2:=qLz hI hk ht (by decide) (by decide);go_wp2_with fail
          refine(qIu w1.heap.size w1.heap.size _ _ _ hI2 ?_ (by have:=hk.size;omega)).mono ?_
          · rw[Lib.byteCells_length];have:(⟨(qBg s.data.toList p 0).1.toArray⟩:ByteArray).size=(qBg s.data.toList p 0).1.length:=by show(List.toArray _).size=_;simp
            omega
          rintro en w3 ⟨rfl,hI3,hb3,ho3⟩;go_wp2_with fail
          go_roundg g
          case measure=>omega
          case rel=>
           refine⟨_,_,_,t3.others ho3 (by omega) (by decide),?_,(hb.trans (hk.below le_ (by have:=hb.size;omega))).trans (hb3.mono (by omega)),by have:=hk.size;have:=hb3.size;omega,by omega,?_,Hq,?_⟩
           · rw[Lib.byteCells_append];exact hI3
           · rw[List.length_append];omega
           · show _<_
             split
             · rename_i h0
               have:=hle.2.2 (by trivial) h0;omega
             · omega
  · have hA:ANS=([],0,e):=by
      rw[←huq.out,qBp,if_neg he]
    subst hA;have g1:(e==0)=false:=by simpa using he
    clear huq hfu;go_wp2_with fail
    go_quiet (fail)
    go_wp2_with fail
    go_ret3
    exact⟨rfl,qAa hb _⟩
theorem qQ4 (s:ByteArray) (w:World) (hs:s.size≤1000000) (hv:validD s.data.toList=false) (hT:Tabs w) :
    Calls Tryz.prog 198 #[.string s] w fun e w'=>e=.returned (.tuple #[.string ⟨#[]⟩,.int .i64 40])∧Below w.heap.size w w':=by
 have cv:=qJs s w (by omega) hT;rw[hv] at cv;have CV:=hh_ cv;clear cv hv;go_enter Tryz.func198,Tryz.ntmps198;go_wp2_with fail
 refine CV.out.mono ?_;rintro en w1 ⟨rfl,b1⟩;go_wp2_with fail
 go_ret2;exact⟨rfl,b1⟩
def qVn (l:Bs):Bs:=if validD l=true then qK0 l else []
theorem qQy (s:ByteArray) (w:World) (hs:s.size≤1000000) (hT:Tabs w) :
    Calls Tryz.prog 198 #[.string s] w fun e w'=>e=.returned (.tuple #[.string ⟨(qVn s.data.toList).toArray⟩,.int .i64 (if validD s.data.toList=true then 0 else 40)])∧Below w.heap.size w w':=by
 unfold qVn
 cases hv:validD s.data.toList with
 |true=>exact qWy s w hs hv hT
 |false=>exact qQ4 s w hs hv hT
theorem qQe (n:Int) (nu:Bool) (S:ByteArray) (w:World) (hs:S.size≤100000) (hT:Tabs w) :
    Calls Tryz.prog 158 #[.agg #[.bool nu,.int .i64 n,.string S]] w fun e w'=>e=.returned (.string ⟨(qVn S.data.toList).toArray⟩)∧Below w.heap.size w w':=by
 have cq:=fun w' (hT':Tabs w')=>qQy S w' (by omega) hT'
 generalize qVn S.data.toList=q at *; generalize (if validD S.data.toList=true then (0:Int) else 40)=e0 at *; have CQ:=hh_ cq;clear cq;have T1:=qC3 hT ((Below.refl _ w).alloc le_ (.cells #[.bool nu,.int .i64 n,.string S] 43));go_enter Tryz.func158,Tryz.ntmps158;go_wp2_with fail
 refine(CQ.out _ T1).mono ?_;rintro en w1 ⟨rfl,b1⟩;go_wp2_with fail
 go_ret;exact⟨rfl,(br_.alloc le_ _).trans (b1.mono (by simp))⟩
theorem qMy (S:ByteArray) (w:World) (hs:S.size≤100000) (hT:Tabs w) :
    Calls Tryz.prog 159 #[.string S] w fun e w'=>e=.returned (.agg #[.bool false,.int .i64 0,.string ⟨(qDm S.data.toList).1.toArray⟩])∧Below w.heap.size w w':=by
 have cq:=fun w' (hT':Tabs w')=>qN5 S w' (by omega) hT'
 generalize qDm S.data.toList=q at *; obtain⟨q1,q2,q3⟩:=q;simp only at cq ⊢;have CQ:=hh_ cq;clear cq;have T1:=qC3 hT ((Below.refl _ w).alloc le_ (.cells #[.bool false,.int .i64 0,.string ⟨#[]⟩] 43));go_enter Tryz.func159,Tryz.ntmps159;go_wp2_with fail
 refine(CQ.out _ T1).mono ?_;rintro en w1 ⟨rfl,b1⟩
 have hblk:w1.heap[w.heap.size]?=some (.cells #[.bool false,.int .i64 0,.string ⟨#[]⟩] 43 (0,0)):=by
  rw[b1.block _ (by simp)];exact heap_alloc_new w _
 have c0:w1.cell? ⟨w.heap.size,0,none⟩=some (.bool false):=by rw[Lib.cell_of_heap hblk];rfl
 have c1:w1.cell? ⟨w.heap.size,1,none⟩=some (.int .i64 0):=by rw[Lib.cell_of_heap hblk];rfl
 have c2:w1.cell? ⟨w.heap.size,2,none⟩=some (.string ⟨#[]⟩):=by rw[Lib.cell_of_heap hblk];rfl
 have f0:=Lib.frozen_of_heap hblk 0;have f1:=Lib.frozen_of_heap hblk 1;have f2:=Lib.frozen_of_heap hblk 2;have hsz:w.heap.size<w1.heap.size:=by have:=b1.size;simp at this;omega
 have B1:Below w.heap.size w w1:=(br_.alloc le_ _).trans (b1.mono (by simp));go_wp2_with fail
 exact bodyPost_ret (v:=.agg #[.bool false,.int .i64 0,.string ⟨q1.toArray⟩]) (by simp[results,Tryz.results159,go_sem,c0,c1,c2]) rfl ⟨rfl,((B1.setCell le_ _).setCell le_ _).setCell le_ _⟩
structure Env (w:World):Prop where
  tabs:Tabs w
  pow:Lib.TabIs Tryz.prog w "internal/strconv.uint64pow10" .u64 Lib.pow10Tab
  syn:∃tp p,w.var? Tryz.prog "strconv.ErrSyntax"=some #[.iface tp p]
  rng:∃tp p,w.var? Tryz.prog "strconv.ErrRange"=some #[.iface tp p]
  maxl:∃m,w.cell? ⟨0,0,none⟩=some (.int .i64 m)
theorem Env.below {w w':World} (h:Env w) (hb:Below w.heap.size w w'):Env w':=by
 refine⟨qC3 h.tabs hb,Joins.tab_stays (g:=5) (by kernel_rfl) h.pow hb le_,?_,?_,?_⟩
 · obtain⟨tp,p,hv⟩:=h.syn;exact⟨tp,p,Joins.var_stays (g:=3) (by kernel_rfl) hv hb le_⟩
 · obtain⟨tp,p,hv⟩:=h.rng;exact⟨tp,p,Joins.var_stays (g:=4) (by kernel_rfl) hv hb le_⟩
 · obtain⟨m,hm⟩:=h.maxl;exact⟨m,by rw[hb.cell (qAg hm)];exact hm⟩
theorem below_grow (w:World) (k:Nat) (os:Array Obj):Below w.heap.size w (Go.Sort.grow (w.drewN k) os):=
  ⟨rfl,rfl,rfl,by simp[Go.Sort.grow,World.drewN],fun j hj=>by simp[Go.Sort.grow,World.drewN,Array.getElem?_append,hj]⟩
theorem qKr (n:Int) (nu:Bool) (S:ByteArray) (w:World) (h0: -9223372036854775808≤n) (h1:n≤9223372036854775807) (hE:Env w) :
    Calls Tryz.prog 152 #[.agg #[.bool nu,.int .i64 n,.string S]] w fun e w'=>e=.returned (.string ⟨(itoa n).toArray⟩)∧Below w.heap.size w w':=by
 have B0:Below w.heap.size w (w.alloc (.cells #[.bool nu,.int .i64 n,.string S] 43)):=(Below.refl _ w).alloc le_ _;have E1:=hE.below B0;have cf:=Tryz.strconv_FormatInt_10 n h0 h1 _ E1.pow;generalize itoa n=L at *; have CF:=hh_ cf;clear cf h0 h1;go_enter Tryz.func152,Tryz.ntmps152;go_wp2_with fail
 refine CF.out.mono ?_;rintro en w1 ⟨rfl,k,os,rfl⟩;have b1:=below_grow (w.alloc (.cells #[.bool nu,.int .i64 n,.string S] 43)) k os;generalize Go.Sort.grow ((w.alloc (.cells #[.bool nu,.int .i64 n,.string S] 43)).drewN k) os=w1 at *; go_wp2_with fail
 go_ret;exact⟨rfl,B0.trans (b1.mono (by simp))⟩
def qPl (l:Bs):Int:=match parseIntB 64 l with
 | .ok v=>v
 | .range=>intSat 64 l
 |_=>0
theorem qTn (S:ByteArray) (w:World) (hs:S.size≤100000) (hE:Env w) :
    Calls Tryz.prog 196 #[.string S,.int .i64 10,.int .i64 64] w fun e w'=> ∃er,e=.returned (.tuple #[.int .i64 (qPl S.data.toList),er])∧Below w.heap.size w w':=by
 unfold qPl
 cases h:parseIntB 64 S.data.toList with
 |ok v=>
  refine(Tryz.strconv_ParseInt_10_at64_ok S (by omega) v h w).mono ?_;rintro en w1 ⟨rfl,hw⟩;refine⟨_,rfl,?_⟩;rcases hw with rfl|⟨t,rfl⟩
  · exact Below.refl _ _
  · exact Joins.below_bytesWorld _ _ _ _ le_
 |range=>
  obtain⟨tp,p,hv⟩:=hE.rng;refine(Tryz.strconv_ParseInt_10_at64_range_var S (by omega) h tp p w hv).mono ?_;rintro en w1 ⟨N,rfl,_,_,b⟩;exact⟨_,rfl,b⟩
 |_=>
  obtain⟨tp,p,hv⟩:=hE.syn;refine(Any.strconv_ParseInt_10_at64_syntax_var Tryz.laysC174 S (by omega) h tp p w hv).mono ?_;rintro en w1 ⟨N,rfl,_,_,b⟩;exact⟨_,rfl,b⟩
structure Res3 (w:World) (b:Nat) (x y z:Value):Prop where
  c0:w.cell? ⟨b,0,none⟩=some x
  c1:w.cell? ⟨b,1,none⟩=some y
  c2:w.cell? ⟨b,2,none⟩=some z
  f0:w.frozen? ⟨b,0,none⟩=false
  f1:w.frozen? ⟨b,1,none⟩=false
  f2:w.frozen? ⟨b,2,none⟩=false
  lt:b<w.heap.size
theorem qHj {w w1:World} (e:TypeId) (x y z:Value) (hb:Below (w.heap.size+1) (w.alloc (.cells #[x,y,z] e)) w1):Res3 w1 w.heap.size x y z:=by
 have hblk:w1.heap[w.heap.size]?=some (.cells #[x,y,z] e (0,0)):=by
  rw[hb.block _ (by omega)];exact heap_alloc_new w _
 have hl:=hb.size;simp at hl;exact⟨by rw[Lib.cell_of_heap hblk];rfl,by rw[Lib.cell_of_heap hblk];rfl,by rw[Lib.cell_of_heap hblk];rfl,Lib.frozen_of_heap hblk 0,Lib.frozen_of_heap hblk 1,Lib.frozen_of_heap hblk 2,by omega⟩
theorem qNs (S:ByteArray) (w:World) (hs:S.size≤100000) (hE:Env w) :
    Calls Tryz.prog 153 #[.string S] w fun e w'=>e=.returned (.agg #[.bool false,.int .i64 (qPl S.data.toList),.string ⟨#[]⟩])∧Below w.heap.size w w':=by
 have B0:Below w.heap.size w (w.alloc (.cells #[.bool false,.int .i64 0,.string ⟨#[]⟩] 43)):=(Below.refl _ w).alloc le_ _;have cp:=qTn S _ hs (hE.below B0);generalize qPl S.data.toList=N at *; have CP:=hh_ cp;clear cp;go_enter Tryz.func153,Tryz.ntmps153;go_wp2_with fail
 refine CP.out.mono ?_;rintro en w1 ⟨er,rfl,b1⟩;obtain⟨c0,c1,c2,f0,f1,f2,hlt⟩:=qHj 43 (.bool false) (.int .i64 0) (.string ⟨#[]⟩) (b1.mono (by simp));have B1:=B0.trans (b1.mono (by simp));go_wp2_with fail
 exact bodyPost_ret (v:=.agg #[.bool false,.int .i64 N,.string ⟨#[]⟩]) (by simp[results,Tryz.results153,go_sem,c0,c1,c2]) rfl ⟨rfl,((B1.setCell le_ _).setCell le_ _).setCell le_ _⟩
theorem qRo (a:Nat) (n:Int) (nu:Bool) (S:ByteArray) (w:World) (ha:w.cell? ⟨a,0,none⟩=some (.func (.func 146) #[] #[])) (hs:S.size≤100000) (hT:Tabs w) :
    Calls Tryz.prog 156 #[.agg #[.bool nu,.int .i64 n,.string S],.pointer (some ⟨a,0,none⟩)] w fun e w'=>e=.returned (.bool (decide (n=0)&&decide (S.size≤1024)&&validD S.data.toList))∧Below w.heap.size w w':=by
 have B0:Below w.heap.size w (w.alloc (.cells #[.bool nu,.int .i64 n,.string S] 43)):=(Below.refl _ w).alloc le_ _
 have cs:∀w',Calls Tryz.prog 146 #[.agg #[.bool nu,.int .i64 n,.string S]] w' fun e w''=>e=.returned (.bool (decide (n=0)&&decide (S.size≤1024)))∧Below w'.heap.size w' w'':=by
  intro w';have:=qNk n nu S.data.toList w' (by simpa using hs);rw[←qBu (s:=S) rfl] at this
  simpa using this
 have cv:=fun w' (hT':Tabs w')=>qJs S w' (by omega) hT'
 obtain⟨Z,hZ⟩:∃Z,(decide (n=0)&&decide (S.size≤1024))=Z:=⟨_,rfl⟩;obtain⟨V,hV⟩:∃V,validD S.data.toList=V:=⟨_,rfl⟩;rw[hZ] at cs ⊢;rw[hV] at cv ⊢;have CS:=hh_ cs;have CV:=hh_ cv;clear cs cv hZ hV;have hla:=qAg ha
 cases Z with
 |false=>
  rw[Bool.false_and];go_enter Tryz.func156,Tryz.ntmps156;go_wp2_with fail
  refine(CS.out _).mono ?_;rintro en w1 ⟨rfl,b1⟩;go_wp2_with fail
  go_ret;exact⟨rfl,B0.trans (b1.mono (by simp))⟩
 |true=>
  rw[Bool.true_and];go_enter Tryz.func156,Tryz.ntmps156;go_wp2_with fail
  refine(CS.out _).mono ?_;rintro en w1 ⟨rfl,b1⟩;obtain⟨c0,c1,c2,f0,f1,f2,hlt⟩:=qHj 43 (.bool nu) (.int .i64 n) (.string S) (b1.mono (by simp));have B1:=B0.trans (b1.mono (by simp));go_wp2_with fail
  refine(CV.out _ (qC3 hT B1)).mono ?_;rintro en w2 ⟨rfl,b2⟩;go_wp2_with fail
  go_ret;exact⟨rfl,B1.trans (b2.mono B1.size)⟩
end Go.Proofs.YtainiaighnjpfaaGreatDoor
namespace Go.Ms
open Go.RowKit Go.Lib
theorem run_append_own_at {P:Program} (w:World) (base:Nat) (t tx ty e:TypeId) (i:TypeInfo) (z:Value) (size bytes:Nat) (ht:P.underlying t=some (.slice e)) (hi:P.info? e=some i) (hz:i.zero=some z)
    (hsize:i.size=size) (hby:i.bytes=bytes) (hzs:z.cells.size=size) (hsz:0<size)
    (v:Value) (n:Nat) (xs:List Value) (hown:w.ownsRow base e size v n xs) (x:Value) (m:Nat) (news:List Value) (hs:Src P size tx x m news w)
    (h63:n+m≤maxLen) (hbytes:(n+m)*bytes≤140737488355328) (hbase:base≤w.heap.size) :
    ∃v' w',(Builtin.append_ #[t,tx] ty #[v,x]).run P w=.ok v' w'∧w'.ownsRow base e size v' (n+m) (xs++news)∧w.grownBy w' v.ownBlock∧(v'.ownBlock=v.ownBlock∨v'.ownBlock=some w.heap.size):=by
 subst hsize
 subst hby
 have hl:=hs.newsLen;have hsmall:n+m≤9223372036854775807:=by simp only[maxLen] at h63;omega
 have hlen:(xs++news).length=(n+m)*i.size:=by rw[List.length_append,hown.1,hl,Nat.add_mul]
 have grown:∀(old:Nat),old<n+m→∀(row:Option Nat),
     (w.drew.alloc (.cells ((xs++news).toArray++Builtin.zeroCells z.cells (grownCap w (n+m) old e-(n+m))) e)).ownsRow base e i.size
       (.slice (some ⟨w.heap.size,0,none⟩) (n+m) (grownCap w (n+m) old e)) (n+m) (xs++news)∧
     w.grownBy (w.drew.alloc (.cells ((xs++news).toArray++Builtin.zeroCells z.cells (grownCap w (n+m) old e-(n+m))) e)) row:=by
   intro old ho row;have hge:=grownCap_ge w (n+m) old e;have hcm:grownCap w (n+m) old e≤maxLen:=grownCap_le_maxLen w (n+m) old e h63;refine⟨⟨hlen,.inr ⟨w.heap.size,_,_,rfl,hbase,heap_alloc_new w.drew _,hge,hcm,?_,?_⟩⟩,⟨rfl,rfl,rfl,by simp,fun k hk _=>(World.grownBy_alloc w.drew _ none).block k hk (by simp)⟩⟩
   · simp only[Array.size_append,List.size_toArray,size_zeroCells,hzs,hlen,←Nat.add_mul];congr 1
     omega
   · simp only[Array.toList_append];rw[←hlen];exact List.take_left
 rcases hown.2 with⟨rfl,rfl⟩|⟨g,cap,cur,rfl,hbg,hg,hnc,hcm,hcs,htake⟩
 · have hx:xs=[]:=List.eq_nil_of_length_eq_zero (by simpa using hown.1);subst hx;by_cases hm:m=0
   · subst hm;have hn:news=[]:=List.eq_nil_of_length_eq_zero (by simpa using hl);subst hn;refine⟨.slice none 0 0,w,?_,World.ownsRow_nil w base e i.size,⟨rfl,rfl,rfl,Nat.le_refl _,fun _ _ _=>rfl⟩,.inl rfl⟩;have hc:=hs.cells
     rcases hs.kind with⟨e',hk⟩|hk <;>
       simp[Builtin.append_,run_underlying ht,run_underlying hk,sizeOf,typeInfo,hi,hs.len,hc]
   · have hr:=run_append_grow_src (P:=P) w t tx ty e i z ht hi hz none 0 0 [] (run_firstCells_none w.drew i.size 0 0 0) x m news hs (by omega) (by omega) (growslice_fits (by omega) (by simpa using hbytes));have hgr:=grown 0 (by omega) (Value.ownBlock (.slice none 0 0));simp only[Nat.zero_add,List.nil_append] at hgr hr ⊢;exact⟨_,_,hr,hgr.1,hgr.2,.inr rfl⟩
 · by_cases hroom:n+m≤cap
   · have hfit:n*i.size+news.length≤cur.size:=by rw[hl,hcs,←Nat.add_mul];exact Nat.mul_le_mul_right _ hroom
     have hst:=run_storeCells_at P g (n*i.size) e news 0 cur w hg (by simpa using hfit) hs.one;simp only[Nat.add_zero] at hst
     have hr:(Builtin.append_ #[t,tx] ty #[.slice (some ⟨g,0,none⟩) n cap,x]).run P w=.ok (.slice (some ⟨g,0,none⟩) (n+m) cap) (w.setRow g (cur.toList.take (n*i.size)++news++cur.toList.drop (n*i.size+news.length)).toArray):=by
      rcases hs.kind with⟨e',hk⟩|hk <;>
        simp[Builtin.append_,run_underlying ht,run_underlying hk,sizeOf,typeInfo,hi,hs.len,hroom,hs.cells,Addr.add_lit,hst]
     refine⟨_,_,hr,⟨hlen,.inr ⟨g,cap,_,rfl,hbg,setRow_heap w g cur _ e _ hg,hroom,hcm,?_,?_⟩⟩,⟨rfl,rfl,rfl,by simp,fun k _ hk=>setRow_other w g k _ (fun e=>hk (by simp[Value.ownBlock,e]))⟩,.inl rfl⟩
     · simp only[List.size_toArray,List.length_append,List.length_take,List.length_drop,Array.length_toList];omega
     · rw[htake,←hlen];exact List.take_left
   · have holds:∀j u,xs[j]?=some u→w.drew.cell? ((⟨g,0,none⟩:Addr).add j)=some u:=fun j u hu=>by simpa using hown.cells (g:=g) rfl j u hu
     have hr:=run_append_grow_src (P:=P) w t tx ty e i z ht hi hz (some ⟨g,0,none⟩) n cap xs (run_firstCells_some (P:=P) w.drew i.size n ⟨g,0,none⟩ n cap xs hown.1 holds) x m news hs (by omega) (by omega) (growslice_fits (by omega) hbytes);have hgr:=grown cap (by omega) (Value.ownBlock (.slice (some ⟨g,0,none⟩) n cap));exact⟨_,_,hr,hgr.1,hgr.2,.inr rfl⟩
theorem qQc (ns:List Int) (hn:∀x∈ns,0≤x∧x<256):(ns.map fun x=>x.toNat.toUInt8).map (fun b=>Value.int .u8 b.toNat)=ns.map (Value.int .u8):=by
 rw[List.map_map];apply List.map_congr_left;intro x hx;have:=hn x hx;have h2:(x.toNat.toUInt8).toNat=x.toNat:=by simp[Nat.toUInt8];omega
 simp only[Function.comp,h2];rw[show((x.toNat:Nat):Int)=x by omega]
theorem qF3 {P:Program} {w:World} {ops:Array Oper} {rest:List Oper} {o:Oper} {a:Act} {Q:Exit→Act→World→Prop} (hgd:o.guard=none) (s x:Operand) (t:TypeId)
    (ho:o.op=.call { callee:=.builtin .append,args:=#[s,x],argTypes:=#[t,t] })
    (base:Nat) (e:TypeId) (i:TypeInfo) (z:Value) (ht:P.underlying t=some (.slice e)) (hi:P.info? e=some i) (hz:i.zero=some z)
    (hsize:i.size=1) (hby:i.bytes=1) (hzs:z.cells.size=1) (v:Value) (l:List UInt8) (hs:a.eval s=v) (hown:OwnB w base e v l) (ad:Addr) (m c:Nat) (hx:a.eval x=.slice (some ad) m c) (ns:List Int)
    (hm:ns.length=m) (hcell:∀j u,(ns.map (Value.int .u8))[j]?=some u→w.cell? (ad.add j)=some u) (hn:∀x∈ns,0≤x∧x<256)
    (hb:l.length+m≤140737488355328) (hbase:base≤w.heap.size)
    (h:∀v' w',OwnB w' base e v' (l++ns.map fun x=>x.toNat.toUInt8)→w.grownBy w' v.ownBlock→(v'.ownBlock=v.ownBlock∨v'.ownBlock=some w.heap.size)→wpList P ops Q rest (a.put o.dst v') w'):wpList P ops Q (o::rest) a w:=by
 subst hm;refine wpList_plain hgd fun K' hK'=>?_
 have hone:∀u∈ns.map (Value.int .u8),u.oneCell'=true:=by
  intro u hu;obtain⟨_,_,rfl⟩:=List.mem_map.1 hu;rfl
 obtain⟨v',w',hr,h2,h3,h4⟩:=run_append_own_at (P:=P) w base t t o.type e i z 1 1 ht hi hz hsize hby hzs (by omega) v l.length _ hown (.slice (some ad) ns.length c) ns.length (ns.map (Value.int .u8)) (Src.ofSlice w ht ad ns.length c _ (by simp) hcell hone) (qFj hb) (by omega) hbase;unfold Oper.wp execOp;simp only[ho,resolve,invoke,builtin,Sem.run_bind,Sem.run_pure,Result.andThen_ok,List.map_toArray,List.map_cons,List.map_nil,hs,hx,hr];refine hK' _ _ (h v' w' ?_ h3 h4);unfold OwnB;rw[List.length_append,List.map_append,qQc ns hn,List.length_map];exact h2
theorem qF2 {P:Program} {w:World} {ops:Array Oper} {rest:List Oper} {o:Oper} {a:Act} {Q:Exit→Act→World→Prop} (hgd:o.guard=none) (s x:Operand) (t tx:TypeId)
    (ho:o.op=.call { callee:=.builtin .append,args:=#[s,x],argTypes:=#[t,tx] })
    (base:Nat) (e:TypeId) (i:TypeInfo) (z:Value) (ht:P.underlying t=some (.slice e)) (htx:P.underlying tx=some .string) (hi:P.info? e=some i) (hz:i.zero=some z)
    (hsize:i.size=1) (hby:i.bytes=1) (hzs:z.cells.size=1) (v:Value) (l:List UInt8) (hs:a.eval s=v) (hown:OwnB w base e v l) (str:ByteArray) (hx:a.eval x=.string str)
    (hb:l.length+str.size≤140737488355328) (hbase:base≤w.heap.size)
    (h:∀v' w',OwnB w' base e v' (l++str.data.toList)→w.grownBy w' v.ownBlock→(v'.ownBlock=v.ownBlock∨v'.ownBlock=some w.heap.size)→wpList P ops Q rest (a.put o.dst v') w'):wpList P ops Q (o::rest) a w:=by
 refine wpList_plain hgd fun K' hK'=>?_
 have hl:str.data.toList.length=str.size:=by simp
 obtain⟨v',w',hr,h2,h3,h4⟩:=run_append_own_at (P:=P) w base t tx o.type e i z 1 1 ht hi hz hsize hby hzs (by omega) v l.length _ hown (.string str) str.size _ (Src.ofString w htx str) (qFj hb) (by omega) hbase;unfold Oper.wp execOp;simp only[ho,resolve,invoke,builtin,Sem.run_bind,Sem.run_pure,Result.andThen_ok,List.map_toArray,List.map_cons,List.map_nil,hs,hx,hr];refine hK' _ _ (h v' w' ?_ h3 h4);unfold OwnB;rw[List.length_append,List.map_append,hl];exact h2
end Go.Ms
