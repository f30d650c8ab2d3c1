/- strings.Builder beside other rows of bytes: the methods, and which blocks stand. Literals, part by part: what the reader makes of them. Literals as rows of parts: read, and cut. A literal that is cut off: ErrTrunc. The reference's reader answers as the program's: plain facts. The reference's digit and half. -/
import Derived.Test.YtikpmmipopmjaaaGreatDoorZQb
import Derived.Test.YtikpmmipopmjaaaGreatDoorZQf
import Derived.Test.YtikpmmipopmjaaaGreatDoorZQa
set_option linter.unusedVariables false
namespace Go.Proofs.YtikpmmipopmjaaaGreatDoor
open Go.RowKit Go.Ms Go.Lib
structure BO (b B:Nat) (v:Value) (l:Bs) (w:World):Prop where
  hB:B≤b
  blk:w.heap[b]?=some (.cells #[.pointer (some ⟨b,0,none⟩),v] 94 (0,0))
  own:OwnB w B 5 v l
  ne:v.ownBlock≠some b
structure BW (b B:Nat) (v v':Value) (l:Bs) (w w':World):Prop where
  bo:BO b B v' l w'
  bel:Below B w w'
  at':v'.ownBlock=v.ownBlock∨∃k,v'.ownBlock=some k∧w.heap.size≤k
  keep:∀K,K<w.heap.size→K≠b→v.ownBlock≠some K→w'.heap[K]?=w.heap[K]?
theorem BO.isF {b B:Nat} {v:Value} {l:Bs} {w:World} (h:BO b B v l w):IsBuilderF 94 5 B b (Lib.byteCells l) w:=by
 have h2:w.ownsRow B 5 1 v (Lib.byteCells l).length (Lib.byteCells l):=by rw[Lib.byteCells_length];exact h.own
 have hA:BuilderAt 94 5 B b (.pointer (some ⟨b,0,none⟩)) (Lib.byteCells l) w:=⟨h.hB,v,h.blk,h2,h.ne⟩;exact .inr (BuilderAtF.of hA)
theorem BO.drew {b B:Nat} {v:Value} {l:Bs} {w:World} (h:BO b B v l w) (n:Nat):BO b B v l (w.drewN n):=⟨h.hB,h.blk,h.own,h.ne⟩
theorem BO.lt {b B:Nat} {v:Value} {l:Bs} {w:World} (h:BO b B v l w):b<w.heap.size:=(Array.getElem?_eq_some_iff.1 h.blk).1
theorem BO.kept {b B:Nat} {v:Value} {l:Bs} {w w':World} (h:BO b B v l w) (hb:Below w.heap.size w w'):BO b B v l w':=
  ⟨h.hB,by rw[hb.block b h.lt];exact h.blk,h.own.kept hb,h.ne⟩
theorem qKf {w:World} {b T:Nat} {x y:Value} (h:w.heap[b]?=some (.cells #[x,y] T (0,0))) (u:Value):(w.setCell ⟨b,1,none⟩ u).heap[b]?=some (.cells #[x,u] T (0,0)):=by
 simp[World.setCell,Array.getElem?_modify,h]
theorem _root_.Go.Ms.OwnB.store {w:World} {B e g n cap:Nat} {l:Bs} (h:OwnB w B e (.slice (some ⟨g,0,none⟩) n cap) l) (b:Nat) (hgb:g≠b) (i:Nat) (u:Value):OwnB (w.setCell ⟨b,i,none⟩ u) B e (.slice (some ⟨g,0,none⟩) n cap) l:=
  World.ownsRow.kept h (row:=some b) ⟨rfl,rfl,rfl,by simp[World.setCell],fun k _ hk=>Below.heap_setCell _ _ _ _ (by intro e1;exact hk (by rw[e1]))⟩ (.inr (by intro e1;exact hgb (Option.some.inj e1)))
set_option maxRecDepth 100000 in
set_option maxHeartbeats 2000000 in
theorem qY3 (b B:Nat) (v:Value) (l:Bs) (c:Int) (w:World) (h:BO b B v l w) (hc:0≤c∧c<256) (hlen:l.length+1≤140737488355328) (hBw:B≤w.heap.size) :
    Calls Tryz.prog 164 #[.pointer (some ⟨b,0,none⟩),.int .u8 c] w fun e w'=>e=.returned .nilIface∧∃v',BW b B v v' (l++[c.toNat.toUInt8]) w w':=by
 obtain⟨i0,hi,hz0,hz1,hz2⟩:=info_parts infoByte;have hbk:=h.blk;have hlt:=h.lt
 have c0:w.cell? ⟨b,0,none⟩=some (.pointer (some ⟨b,0,none⟩)):=by rw[Lib.cell_of_heap hbk];rfl
 have c1:w.cell? ⟨b,1,none⟩=some v:=by rw[Lib.cell_of_heap hbk];rfl
 have cu:=qLo b w c0;have CU:=Lib.hid cu
 have hcell:∀j u,(([c]:List Int).map (Value.int .u8))[j]?=some u→(w.alloc (.cells #[.int .u8 c] 5)).cell? ((⟨w.heap.size,0,none⟩:Addr).add j)=some u:=by
  intro j u hj
  match j,hj with
  |0,hj=>
   simp at hj
   subst hj
   have hadd:(⟨w.heap.size,0,none⟩:Addr).add 0=⟨w.heap.size,0,none⟩:=by unfold Addr.add;simp
   rw[hadd,Lib.cell_of_heap (heap_alloc_new w _)];rfl
 have hns:∀x∈([c]:List Int),0≤x∧x<256:=by intro x hx;rw[List.mem_singleton] at hx;subst hx;exact hc
 have ownA:=h.own.alloc (.cells #[.int .u8 c] 5)
 have hsA:B≤(w.alloc (.cells #[.int .u8 c] 5)).heap.size:=by simp;omega
 have HCELL:=Lib.hid hcell;have HNS:=Lib.hid hns;have HLEN:=Lib.hid hlen;clear cu hcell hns hlen
 go_enter Tryz.func164,Tryz.ntmps164
 go_wp2_with fail
 refine CU.out.mono ?_;rintro en w1 ⟨rfl,hw1⟩;subst hw1
 go_wp2_with (at_builtin;refine qG5 rfl _ _ 92 rfl B 5 i0 (.int .u8 0) Tryz.underlying92 hi hz0 hz1 hz2 rfl v l rfl ownA ⟨w1.heap.size,0,none⟩ 1 1 rfl [c] rfl HCELL.out HNS.out HLEN.out hsA ?_)
 intro v' w2 hown' hgrow hat
 have hb2:w2.heap[b]?=some (.cells #[.pointer (some ⟨b,0,none⟩),v] 94 (0,0)):=by
  rw[hgrow.block b (by simp;omega) (fun e=>h.ne e.symm),Lib.alloc_old w1 _ b hlt];exact hbk
 have d0:w2.cell? ⟨b,0,none⟩=some (.pointer (some ⟨b,0,none⟩)):=by rw[Lib.cell_of_heap hb2];rfl
 have d1:w2.cell? ⟨b,1,none⟩=some v:=by rw[Lib.cell_of_heap hb2];rfl
 have f1:w2.frozen? ⟨b,1,none⟩=false:=Lib.frozen_of_heap hb2 1
 obtain⟨g,cap,rfl⟩:∃g cap,v'=.slice (some ⟨g,0,none⟩) (l.length+1) cap:=by
  rcases hown'.2 with⟨_,h0⟩|⟨g,cap,cur,hv,_⟩
  · simp at h0
  · exact⟨g,cap,by simpa using hv⟩
 have hgb:g≠b:=by
  intro e
  subst e
  rcases hat with ha|ha
  · exact h.ne (by rw[←ha];rfl)
  · have ha2:g=w1.heap.size+1:=Option.some.inj ha;omega
 have hown2:=hown'.store b hgb 1 (.slice (some ⟨g,0,none⟩) (l.length+1) cap);have hbk2:=qKf hb2 (.slice (some ⟨g,0,none⟩) (l.length+1) cap)
 have hbel:Below B w1 (w2.setCell ⟨b,1,none⟩ (.slice (some ⟨g,0,none⟩) (l.length+1) cap)):=
   (ownA.below ((Below.refl _ _).alloc hBw _) hsA hgrow).setCell (p:=⟨b,1,none⟩) h.hB _
 have hkeep:∀K,K<w1.heap.size→K≠b→v.ownBlock≠some K→(w2.setCell ⟨b,1,none⟩ (.slice (some ⟨g,0,none⟩) (l.length+1) cap)).heap[K]?=w1.heap[K]?:=by
  intro K hK hKb hKv
  rw[Below.heap_setCell _ _ _ _ (by exact hKb),hgrow.block K (by simp;omega) (fun e=>hKv e.symm),Lib.alloc_old w1 _ K hK]
 have hat2:(Value.slice (some ⟨g,0,none⟩) (l.length+1) cap).ownBlock=v.ownBlock∨∃k,(Value.slice (some ⟨g,0,none⟩) (l.length+1) cap).ownBlock=some k∧w1.heap.size≤k:=by
  rcases hat with ha|ha
  · exact .inl ha
  · exact .inr ⟨_,ha,by simp⟩
 have HO:=Lib.hid hown2;have HK:=Lib.hid hbk2;have HL:=Lib.hid hbel;have HP:=Lib.hid hkeep;have HA:=Lib.hid hat2
 clear hown2 hbk2 hbel hkeep hat2 hat hown' hgrow ownA
 go_wp2
 go_ret
 exact⟨rfl,_,⟨h.hB,HK.out,HO.out,fun e=>hgb (Option.some.inj e)⟩,HL.out,HA.out,HP.out⟩
set_option maxRecDepth 100000 in
set_option maxHeartbeats 2000000 in
theorem qP5 (str:ByteArray) (w:World) (hs:str.size≤1000000) (h1:1≤str.size) :
    Calls Tryz.prog 68 #[.pointer (some ⟨w.heap.size,0,none⟩),.string str] (w.alloc (.cells #[.pointer none,.slice none 0 0] 94)) fun e w'=>e=.returned (.tuple #[.int .i64 str.size,.nilIface])∧∃v',BO w.heap.size w.heap.size v' str.data.toList w'∧Below w.heap.size w w':=by
 obtain⟨i0,hi,hz0,hz1,hz2⟩:=info_parts infoByte;obtain⟨W,hW⟩:∃W,w.alloc (.cells #[.pointer none,.slice none 0 0] 94)=W:=⟨_,rfl⟩
 have hI:IsBuilderF 94 5 w.heap.size w.heap.size [] W:=by rw[←hW];exact IsBuilderF.of (Lib.fresh_isBuilder 94 5 w)
 have hbk:W.heap[w.heap.size]?=some (.cells #[.pointer none,.slice none 0 0] 94 (0,0)):=by rw[←hW];exact heap_alloc_new w _
 have hB0:Below w.heap.size w W:=by rw[←hW];exact(Below.refl _ _).alloc (Nat.le_refl _) _
 have hlt:w.heap.size<W.heap.size:=by rw[←hW];simp
 rw[hW];obtain⟨b,hb⟩:∃b,w.heap.size=b:=⟨_,rfl⟩;rw[hb] at hI hbk hB0 hlt ⊢
 have c0:W.cell? ⟨b,0,none⟩=some (.pointer none):=by rw[Lib.cell_of_heap hbk];rfl
 have c1:W.cell? ⟨b,1,none⟩=some (.slice none 0 0):=by rw[Lib.cell_of_heap hbk];rfl
 have hsh:W.shape? b=some (94,2):=by simp[World.shape?,hbk]
 have cf:=qKk b W c0 hsh (Lib.frozen_of_heap hbk 0)
 have hbk1:(W.setCell ⟨b,0,none⟩ (.pointer (some ⟨b,0,none⟩))).heap[b]?=some (.cells #[.pointer (some ⟨b,0,none⟩),.slice none 0 0] 94 (0,0)):=by
  simp[World.setCell,Array.getElem?_modify,hbk]
 obtain⟨W1,hW1⟩:∃W1,W.setCell ⟨b,0,none⟩ (.pointer (some ⟨b,0,none⟩))=W1:=⟨_,rfl⟩
 have hB1:Below b w W1:=by rw[←hW1];exact hB0.setCell (p:=⟨b,0,none⟩) (Nat.le_refl _) _
 have hlt1:b<W1.heap.size:=by rw[←hW1];simpa[World.setCell] using hlt
 rw[hW1] at cf hbk1
 have d0:W1.cell? ⟨b,0,none⟩=some (.pointer (some ⟨b,0,none⟩)):=by rw[Lib.cell_of_heap hbk1];rfl
 have d1:W1.cell? ⟨b,1,none⟩=some (.slice none 0 0):=by rw[Lib.cell_of_heap hbk1];rfl
 have ownA:OwnB W1 b 5 (.slice none 0 0) []:=OwnB.nil _ _ _;have CF:=Lib.hid cf
 have HS:Hid (([]:Bs).length+str.size≤140737488355328):=by show _≤_;simp;omega
 have hbB:b≤W1.heap.size:=by omega
 clear cf hW hb hW1 c0 c1 hsh hI hbk
 go_enter Tryz.func68,Tryz.ntmps68
 go_wp2_with fail
 refine CF.out.mono ?_;rintro en w1 ⟨rfl,hw1⟩;subst hw1
 go_wp2_with (at_builtin;refine qG4 rfl _ _ 92 9 rfl b 5 i0 (.int .u8 0) Tryz.underlying92 Tryz.underlying9 hi hz0 hz1 hz2 rfl (.slice none 0 0) [] rfl ownA str rfl HS.out hbB ?_)
 intro v' w2 hown' hgrow hat
 have hb2:w2.heap[b]?=some (.cells #[.pointer (some ⟨b,0,none⟩),.slice none 0 0] 94 (0,0)):=by
  rw[hgrow.block b hlt1 (by simp[Value.ownBlock])];exact hbk1
 have e0:w2.cell? ⟨b,0,none⟩=some (.pointer (some ⟨b,0,none⟩)):=by rw[Lib.cell_of_heap hb2];rfl
 have e1:w2.cell? ⟨b,1,none⟩=some (.slice none 0 0):=by rw[Lib.cell_of_heap hb2];rfl
 have f1:w2.frozen? ⟨b,1,none⟩=false:=Lib.frozen_of_heap hb2 1
 have hlen:str.data.toList.length=str.size:=by simp
 obtain⟨g,cap,rfl⟩:∃g cap,v'=.slice (some ⟨g,0,none⟩) str.size cap:=by
  rcases hown'.2 with⟨_,h0⟩|⟨g,cap,cur,hv,_⟩
  · have h0':([]++str.data.toList).length=0:=h0
    rw[List.nil_append] at h0';omega
  · exact⟨g,cap,by rw[hv];simp⟩
 have hgb:g≠b:=by
  intro e
  subst e
  rcases hat with ha|ha
  · simp[Value.ownBlock] at ha
  · have ha2:g=w1.heap.size:=Option.some.inj ha;omega
 have hown'':OwnB w2 b 5 (.slice (some ⟨g,0,none⟩) str.size cap) str.data.toList:=by simpa using hown'
 have hown2:=hown''.store b hgb 1 (.slice (some ⟨g,0,none⟩) str.size cap);have hbk2:=qKf hb2 (.slice (some ⟨g,0,none⟩) str.size cap)
 have hbel:Below b w (w2.setCell ⟨b,1,none⟩ (.slice (some ⟨g,0,none⟩) str.size cap)):=
   (ownA.below hB1 hbB hgrow).setCell (p:=⟨b,1,none⟩) (Nat.le_refl _) _
 have HO:=Lib.hid hown2;have HK:=Lib.hid hbk2;have HL:=Lib.hid hbel
 clear hown2 hbk2 hbel hat hown' hgrow ownA hown'' hlen
 go_wp2
 go_ret2
 exact⟨rfl,_,⟨Nat.le_refl _,HK.out,HO.out,fun e=>hgb (Option.some.inj e)⟩,HL.out⟩
end Go.Proofs.YtikpmmipopmjaaaGreatDoor
namespace Go.Ms
open Go.Lib
theorem qAo {l:Bs} {p:Nat} {c:UInt8} {r:Bs} (h:l.drop p=c::r):p<l.length∧bt l p=c.toNat∧l.drop (p+1)=r:=by
 have hp:p<l.length:=by
  rcases Nat.lt_or_ge p l.length with h1|h1
  · exact h1
  · rw[List.drop_of_length_le h1] at h;cases h
 rw[List.drop_eq_getElem_cons hp] at h
 injection h with h1 h2
 refine⟨hp,?_,h2⟩;unfold bt
 rw[List.getD_eq_getElem?_getD,List.getElem?_eq_getElem hp,←h1];rfl
theorem qQ9 {l q r:Bs} {p:Nat} (h:l.drop p=q++r):l.drop (p+q.length)=r:=by
 rw[←List.drop_drop,h];simp
theorem qEl {l:Bs} {p:Nat} {c:UInt8} {r:Bs} (h:l.drop p=c::r):qAu l p 0=(((c.toNat:Nat):Int),p+1,(0:Int)):=by
 obtain⟨h1,h2,_⟩:=qAo h;unfold qAu;rw[if_pos rfl,if_neg (by omega),h2]
theorem qNf {l:Bs} {p:Nat} (hp:p≤l.length) (h:l.drop p=[]):qAu l p 0=((0:Int),p,(3:Int)):=by
 have:p=l.length:=by
  have:=congrArg List.length h;simp at this;omega
 unfold qAu;rw[if_pos rfl,if_pos this]
theorem qRf (l:Bs) (p:Nat) {e:Int} (he:e≠0):qAu l p e=((0:Int),p,e):=by
 unfold qAu;rw[if_neg he]
theorem qFm {e x:Int} (he:e≠0):qCp e x=e:=by unfold qCp;rw[if_neg he]
theorem zCm:hexv 0=16:=by decide
theorem qDr {l:Bs} {p:Nat} {c:UInt8} {r:Bs} (h:l.drop p=c::r) (hc:hexv c.toNat≠16):qA3 l p 0=(hexv c.toNat,p+1,(0:Int)):=by
 unfold qA3;rw[qEl h]
 simp only
 rw[if_neg hc]
theorem qHx {l:Bs} {p:Nat} (hp:p≤l.length) (h:l.drop p=[]):qA3 l p 0=((0:Int),p,(3:Int)):=by
 unfold qA3;rw[qNf hp h]
 simp only
 rw[if_pos zCm,qFm (by omega)]
theorem qCy (l:Bs) (p:Nat) {e:Int} (he:e≠0):qA3 l p e=((0:Int),p,e):=by
 unfold qA3;rw[qRf l p he]
 simp only
 rw[if_pos zCm,qFm he]
def num4 (a b c d:Int):Int:=16*(16*(16*a+b)+c)+d
def qJ6 (second:Bool) (a b:Int):Prop:= ¬(second=true∧¬a=13)∧second=decide (220≤16*a+b∧16*a+b≤223)
theorem qNi {l:Bs} {p:Nat} {c1 c2 c3 c4:UInt8} {r:Bs} (second:Bool) (h:l.drop p=c1::c2::c3::c4::r)
    (k1:hexv c1.toNat≠16) (k2:hexv c2.toNat≠16) (k3:hexv c3.toNat≠16) (k4:hexv c4.toNat≠16) (ho:qJ6 second (hexv c1.toNat) (hexv c2.toNat)) :
    qBs l second p 0=(num4 (hexv c1.toNat) (hexv c2.toNat) (hexv c3.toNat) (hexv c4.toNat),p+4,(0:Int)):=by
 have e1:=(qAo h).2.2;have e2:=(qAo e1).2.2;have e3:=(qAo e2).2.2
 have g0:h0 l second p 0=(hexv c1.toNat,p+1,(0:Int)):=by
  unfold h0;rw[qDr h k1];simp only;rw[if_neg ho.1]
 have g1:h1 l second p 0=(16*hexv c1.toNat+hexv c2.toNat,p+2,(0:Int)):=by
  unfold h1;rw[g0];simp only;rw[qDr e1 k2];simp only;rw[if_pos ho.2]
 have g2:h2 l second p 0=(16*(16*hexv c1.toNat+hexv c2.toNat)+hexv c3.toNat,p+3,(0:Int)):=by
  unfold h2;rw[g1];simp only;rw[qDr e2 k3]
 unfold qBs;rw[g2]
 simp only
 rw[qDr e3 k4];rfl
theorem qJs (l:Bs) (second:Bool) (p:Nat) {e:Int} (he:e≠0):(qBs l second p e).2.2=e∧(qBs l second p e).2.1=p:=by
 have g0:(h0 l second p e).2.2=e∧(h0 l second p e).2.1=p:=by
  unfold h0;rw[qCy l p he];simp only;refine⟨?_,trivial⟩;split
  · exact qFm he
  · rfl
 have g1:(h1 l second p e).2.2=e∧(h1 l second p e).2.1=p:=by
  unfold h1;rw[g0.1,g0.2,qCy l p he];simp only;refine⟨?_,trivial⟩;split
  · rfl
  · exact qFm he
 have g2:(h2 l second p e).2.2=e∧(h2 l second p e).2.1=p:=by
  unfold h2;rw[g1.1,g1.2,qCy l p he];exact⟨rfl,rfl⟩
 unfold qBs;rw[g2.1,g2.2,qCy l p he];exact⟨rfl,rfl⟩
theorem qM5 {l:Bs} {p:Nat} {c:UInt8} {r:Bs} (h:l.drop p=c::r):qBi l c.toNat p 0=(p+1,(0:Int)):=by
 unfold qBi;rw[qEl h];simp
theorem qRt {l:Bs} {p:Nat} {x:Int} (hp:p≤l.length) (h:l.drop p=[]) (hx:x≠0):qBi l x p 0=(p,(3:Int)):=by
 unfold qBi;rw[qNf hp h];simp only;rw[if_neg (Ne.symm hx)];rfl
theorem qRa (l:Bs) (x:Int) (p:Nat) {e:Int} (he:e≠0):qBi l x p e=(p,e):=by
 unfold qBi;rw[qRf l p he];simp only;split
 · rfl
 · rw[qFm he]
inductive Part:Bs→Bs→Prop
  |rune (r:Int) (h:qB9 r=true) (h1:32≤r) (h2:r≠34) (h3:r≠92):Part (encodeRune r) (encodeRune r)
  |slash:Part [92,47] [47]
  |short (c:UInt8) (k:Int) (h:qIc c.toNat=some k):Part [92,c] (encodeRune k)
  |four (c1 c2 c3 c4:UInt8) (k1:hexv c1.toNat≠16) (k2:hexv c2.toNat≠16) (k3:hexv c3.toNat≠16) (k4:hexv c4.toNat≠16)
      (ho:qJ6 false (hexv c1.toNat) (hexv c2.toNat)) (hn:¬(55296≤num4 (hexv c1.toNat) (hexv c2.toNat) (hexv c3.toNat) (hexv c4.toNat)∧num4 (hexv c1.toNat) (hexv c2.toNat) (hexv c3.toNat) (hexv c4.toNat)<56320)) :
      Part [92,117,c1,c2,c3,c4] (encodeRune (num4 (hexv c1.toNat) (hexv c2.toNat) (hexv c3.toNat) (hexv c4.toNat)))
  |pair (c1 c2 c3 c4 d1 d2 d3 d4:UInt8) (k1:hexv c1.toNat≠16) (k2:hexv c2.toNat≠16) (k3:hexv c3.toNat≠16) (k4:hexv c4.toNat≠16)
      (j1:hexv d1.toNat≠16) (j2:hexv d2.toNat≠16) (j3:hexv d3.toNat≠16) (j4:hexv d4.toNat≠16)
      (ho:qJ6 false (hexv c1.toNat) (hexv c2.toNat)) (hn:55296≤num4 (hexv c1.toNat) (hexv c2.toNat) (hexv c3.toNat) (hexv c4.toNat)∧num4 (hexv c1.toNat) (hexv c2.toNat) (hexv c3.toNat) (hexv c4.toNat)<56320)
      (hp:qJ6 true (hexv d1.toNat) (hexv d2.toNat)) :
      Part [92,117,c1,c2,c3,c4,92,117,d1,d2,d3,d4]
        (encodeRune (65536+(num4 (hexv c1.toNat) (hexv c2.toNat) (hexv c3.toNat) (hexv c4.toNat)-55296)*1024+num4 (hexv d1.toNat) (hexv d2.toNat) (hexv d3.toNat) (hexv d4.toNat)-56320))
theorem qRe {r:Int} (h:qB9 r=true):∃c t,encodeRune r=c::t∧(r≤127→((c.toNat:Nat):Int)=r)∧(128≤r→128≤c.toNat):=by
 have hl:=qA2 r;obtain⟨c,t,e⟩:=List.exists_cons_of_ne_nil (l:=encodeRune r) (by intro e;rw[e] at hl;simp at hl);refine⟨c,t,e,fun h1=>?_,fun h1=>?_⟩
 · have hb:=(qA5 r).1 h;rw[qFg (by omega) h1] at e
   injection e with e1 _
   rw[←e1];exact qL6 (by omega) h1
 · exact qRq h h1 c (by rw[e];simp)
theorem qV9 {c k:Int} (h:qIc c=some k):c≠47∧c≠117∧0≤k∧k<128:=by
 unfold qIc at h
 repeat' split at h
 all_goals first|(cases h;done)|(injection h with h;omega)
theorem zAo {l q t rest:Bs} (hq:Part q t) {p n:Nat} {acc:Bs} (h:l.drop p=q++rest):uqGo l (n+1) acc p 0=uqGo l n (acc++t) (p+q.length) 0:=by
 cases hq with
 | rune r hr h1 h2 h3=>
  obtain⟨c,tl,e,ea,eh⟩:=qRe hr;have hc:=h;rw[e,List.cons_append] at hc;obtain⟨g1,g2,_⟩:=qAo hc;have hb:=(qA5 r).1 hr
  have hx:32≤c.toNat∧c.toNat≠34∧c.toNat≠92:=by
   by_cases c1:r≤127
   · have:=ea c1;omega
   · have:=eh (by omega);omega
  rw[qB2,if_pos rfl,if_neg (by omega),if_neg (by omega),if_neg (by omega)];have hn:=qJo r rest hr
  have hp:qBk l p 0=(encodeRune r,p+(encodeRune r).length,(0:Int)):=by
   unfold qBk;rw[if_neg (by omega),h,hn]
   simp
  rw[hp]
 | slash=>
  obtain⟨g1,g2,g3⟩:=qAo h;rw[qB2,if_pos rfl,if_neg (by omega),if_neg (by rw[g2];decide),if_pos (by rw[g2];rfl)]
  have he:qAy l (p+1) 0=([47],p+2,(0:Int)):=by
   unfold qAy;simp only[qEl g3];rfl
  rw[he];rfl
 | short c k hk=>
  obtain⟨g1,g2,g3⟩:=qAo h;rw[qB2,if_pos rfl,if_neg (by omega),if_neg (by rw[g2];decide),if_pos (by rw[g2];rfl)]
  have he:qAy l (p+1) 0=(encodeRune k,p+2,(0:Int)):=by
   unfold qAy;simp only[qEl g3];rw[if_neg (qV9 hk).1,hk]
  rw[he];rfl
 | four c1 c2 c3 c4 k1 k2 k3 k4 ho hn=>
  obtain⟨g1,g2,g3⟩:=qAo h;obtain⟨_,_,g4⟩:=qAo g3;rw[qB2,if_pos rfl,if_neg (by omega),if_neg (by rw[g2];decide),if_pos (by rw[g2];rfl)];have hh:=qNi false g4 k1 k2 k3 k4 ho
  have he:qAy l (p+1) 0=(encodeRune (num4 (hexv c1.toNat) (hexv c2.toNat) (hexv c3.toNat) (hexv c4.toNat)),p+6,(0:Int)):=by
   unfold qAy qFx;simp only[qEl g3];rw[if_neg (by decide)];simp only[show(((117:UInt8).toNat:Nat):Int)=117 from rfl,if_true,show qIc 117=none from by decide];rw[hh]
   simp only
   rw[if_neg hn];rfl
  rw[he];rfl
 | pair c1 c2 c3 c4 d1 d2 d3 d4 k1 k2 k3 k4 j1 j2 j3 j4 ho hn hp=>
  obtain⟨g1,g2,g3⟩:=qAo h;obtain⟨_,_,g4⟩:=qAo g3
  have g5:l.drop (p+1+1+4)=92::117::d1::d2::d3::d4::rest:=by
   have:=qQ9 (q:=[c1,c2,c3,c4]) (r:=92::117::d1::d2::d3::d4::rest) (p:=p+1+1) (l:=l) (by rw[g4];rfl);exact this
  obtain⟨_,_,g6⟩:=qAo g5;obtain⟨_,_,g7⟩:=qAo g6;rw[qB2,if_pos rfl,if_neg (by omega),if_neg (by rw[g2];decide),if_pos (by rw[g2];rfl)];have hh:=qNi false g4 k1 k2 k3 k4 ho;have hh2:=qNi true g7 j1 j2 j3 j4 hp;have w1:qBi l 92 (p+1+1+4) 0=(p+1+1+4+1,(0:Int)):=qM5 g5;have w2:qBi l 117 (p+1+1+4+1) 0=(p+1+1+4+1+1,(0:Int)):=qM5 g6
  have he:qAy l (p+1) 0=(encodeRune (65536+(num4 (hexv c1.toNat) (hexv c2.toNat) (hexv c3.toNat) (hexv c4.toNat)-55296)*1024+num4 (hexv d1.toNat) (hexv d2.toNat) (hexv d3.toNat) (hexv d4.toNat)-56320),p+12,(0:Int)):=by
   unfold qAy qFx rdPair;simp only[qEl g3];rw[if_neg (by decide)];simp only[show(((117:UInt8).toNat:Nat):Int)=117 from rfl,if_true,show qIc 117=none from by decide];rw[hh]
   simp only
   rw[if_pos hn,w1]
   simp only
   rw[w2]
   simp only
   rw[hh2]
   simp
  rw[he];rfl
end Go.Ms
namespace Go.Ms
open Go.Lib
inductive Lits:Nat→Bs→Bs→Prop
  |nil:Lits 0 [] []
  |cons {n:Nat} {q t q' t':Bs} (h:Part q t) (h':Lits n q' t'):Lits (n+1) (q++q') (t++t')
theorem Part.pos {q t:Bs} (h:Part q t):1≤q.length:=by
 cases h
 case rune r _ _ _ _=>exact(qA2 r).1
 all_goals simp
theorem Lits.le {k:Nat} {q t:Bs} (h:Lits k q t):k≤q.length:=by
 induction h with
 |nil=>simp
 |cons h _ ih=>have:=h.pos;simp only[List.length_append];omega
theorem Lits.one {q t:Bs} (h:Part q t):Lits 1 q t:=by
 have:=Lits.cons h .nil
 simpa using this
theorem qY1 (l:Bs) (n:Nat) (acc:Bs) (p:Nat) {e:Int} (he:e≠0):uqGo l (n+1) acc p e=([],0,e):=by
 rw[qB2,if_neg he]
end Go.Ms
namespace Go.Ms
open Go.Lib
theorem zCv {l:Bs} {p:Nat} {c1:UInt8} {r:Bs} (second:Bool) (h:l.drop p=c1::r) (k1:hexv c1.toNat≠16) (ho:¬(second=true∧¬hexv c1.toNat=13)) :
    h0 l second p 0=(hexv c1.toNat,p+1,(0:Int)):=by
 unfold h0;rw[qDr h k1];simp only;rw[if_neg ho]
theorem zBg {l:Bs} {p:Nat} {c1 c2:UInt8} {r:Bs} (second:Bool) (h:l.drop p=c1::c2::r) (k1:hexv c1.toNat≠16) (k2:hexv c2.toNat≠16) (ho:qJ6 second (hexv c1.toNat) (hexv c2.toNat)) :
    h1 l second p 0=(16*hexv c1.toNat+hexv c2.toNat,p+2,(0:Int)):=by
 have e1:=(qAo h).2.2
 unfold h1;rw[zCv second h k1 ho.1];simp only;rw[qDr e1 k2];simp only;rw[if_pos ho.2]
theorem zC2 {l:Bs} {p:Nat} {c1 c2 c3:UInt8} {r:Bs} (second:Bool) (h:l.drop p=c1::c2::c3::r) (k1:hexv c1.toNat≠16) (k2:hexv c2.toNat≠16) (k3:hexv c3.toNat≠16) (ho:qJ6 second (hexv c1.toNat) (hexv c2.toNat)) :
    h2 l second p 0=(16*(16*hexv c1.toNat+hexv c2.toNat)+hexv c3.toNat,p+3,(0:Int)):=by
 have e1:=(qAo h).2.2;have e2:=(qAo e1).2.2
 unfold h2;rw[zBg second h k1 k2 ho];simp only;rw[qDr e2 k3]
theorem qZo {l:Bs} {p:Nat} {second:Bool} {e x:Int} (hx:x≠0) (h:(h0 l second p e).2.2=x):(qBs l second p e).2.2=x:=by
 unfold qBs h2 h1
 simp only
 rw[h,qCy _ _ hx]
 simp only
 split
 · simp only[qCy _ _ hx]
 · simp only[qFm hx,qCy _ _ hx]
theorem qZ3 {l:Bs} {p:Nat} {second:Bool} {e x:Int} (hx:x≠0) (h:(h1 l second p e).2.2=x):(qBs l second p e).2.2=x:=by
 unfold qBs h2
 simp only
 rw[h,qCy _ _ hx];simp only[qCy _ _ hx]
theorem zAd {l:Bs} {p:Nat} {second:Bool} {e x:Int} (hx:x≠0) (h:(h2 l second p e).2.2=x):(qBs l second p e).2.2=x:=by
 unfold qBs
 simp only
 rw[h,qCy _ _ hx]
theorem qNl {l:Bs} {p j:Nat} {c1 c2 c3 c4:UInt8} (second:Bool) (hp:p≤l.length) (hj:j<4) (h:l.drop p=[c1,c2,c3,c4].take j)
    (k1:hexv c1.toNat≠16) (k2:hexv c2.toNat≠16) (k3:hexv c3.toNat≠16) (ho:qJ6 second (hexv c1.toNat) (hexv c2.toNat)):(qBs l second p 0).2.2=3:=by
 have hlen:=congrArg List.length h;rw[List.length_drop] at hlen
 match j,hj with
 |0,_=>
  apply qZo (by omega)
  unfold h0;rw[qHx hp h]
  simp only
  split
  · rfl
  · rfl
 |1,_=>
  have h':l.drop p=c1::[]:=h;have e1:=(qAo h').2.2
  simp at hlen
  apply qZ3 (by omega)
  unfold h1;rw[zCv second h' k1 ho.1]
  simp only
  rw[qHx (by omega) e1]
  simp only
  split
  · rfl
  · rfl
 |2,_=>
  have h':l.drop p=c1::c2::[]:=h;have e2:=(qAo (qAo h').2.2).2.2
  simp at hlen
  apply zAd (by omega)
  unfold h2;rw[zBg second h' k1 k2 ho]
  simp only
  rw[qHx (by omega) e2]
 |3,_=>
  have h':l.drop p=c1::c2::c3::[]:=h;have e3:=(qAo (qAo (qAo h').2.2).2.2).2.2
  simp at hlen
  unfold qBs;rw[zC2 second h' k1 k2 k3 ho]
  simp only
  rw[qHx (by omega) e3]
theorem qYi (l:Bs) (p:Nat) (n:Int) {e:Int} (he:e≠0):(rdPair l p e n).2.2=e:=by
 unfold rdPair;simp only[qRa _ _ _ he];have:=(qJs l true p he).1;rw[this,if_neg he]
theorem qMz {l:Bs} {p:Nat} {x e z:Int} {y:Nat} (he:e≠0) (h:(qBs l false p x).2.2=e):(qFx l (p,z) (y,x)).2.2=e:=by
 unfold qFx
 simp only
 split
 · rw[h];exact qYi _ _ _ he
 · rw[h,if_neg he]
theorem qM7 {l:Bs} {p:Nat} (hp:p≤l.length) (h:l.drop p=[]):(qAy l p 0).2.2=3:=by
 unfold qAy;simp only[qNf hp h];rw[if_neg (by decide)];simp only[show qIc 0=none from by decide];rw[if_neg (by decide),qFm (by decide)];exact qMz (by decide) (qJs l false p (by decide)).1
theorem zCj {l:Bs} {p:Nat} {r:Bs} (h:l.drop p=117::r):qAy l p 0=qFx l (p+1,0) (0,0):=by
 unfold qAy;simp only[qEl h];rw[if_neg (by decide)];simp only[show(((117:UInt8).toNat:Nat):Int)=117 from rfl,if_true,show qIc 117=none from by decide]
theorem qYq {r:Int} (h:qB9 r=true) {j:Nat} (h1:1≤j) (h2:j<(encodeRune r).length):qDk ((encodeRune r).take j)=(0,0,false):=by
 rcases qDl ((encodeRune r).take j) with e|⟨r',g1,g2,g3⟩
 · exact e
 · exfalso
   have hl:=congrArg List.length g3;rw[List.length_take,List.length_append,List.length_drop,List.length_take] at hl;have hr':=qA2 r'
   have e:encodeRune r=encodeRune r'++(((encodeRune r).take j).drop (encodeRune r').length++(encodeRune r).drop j):=by
    rw[←List.append_assoc,←g3,List.take_append_drop]
   have n1:=qJo r' (((encodeRune r).take j).drop (encodeRune r').length++(encodeRune r).drop j) g1;rw[←e] at n1;have n2:=qJo r [] h;rw[List.append_nil,n1] at n2;simp only[Prod.mk.injEq] at n2;omega
theorem qR3 {b:Nat} (h:194≤b) (h2:b<224):firstT b=2:=by
 unfold firstT;rw[if_neg (by omega),if_neg (by omega),if_pos h2]
set_option maxRecDepth 100000 in
theorem qWp {r:Int} (h:qB9 r=true) {j:Nat} (h1:1≤j) (h2:j<(encodeRune r).length):qJi ((encodeRune r).take j)=false:=by
 have hb:=(qA5 r).1 h
 by_cases c0:r≤127
 · rw[qFg (by omega) c0] at h2;simp at h2;omega
 unfold encodeRune at h2 ⊢
 by_cases c1:r≤2047
 · rw[encodeRuneZ_two (by omega) c1] at h2 ⊢;simp only[List.map_cons,List.map_nil,List.length_cons,List.length_nil] at h2 ⊢
   obtain rfl:j=1:=by omega
   simp only[List.take_succ_cons,List.take_zero];unfold qJi;simp only[bt,List.getD_cons_zero,List.length_cons,List.length_nil];rw[qA0 (by omega) (by omega),qR3 (by omega) (by omega)]
   simp
 by_cases c2:r≤65535
 · rw [encodeRuneZ_three (by omega)] at h2 ⊢;obtain⟨b0,e0⟩:∃b,224+r/4096=b:=⟨_,rfl⟩;obtain⟨b1,e1⟩:∃b,128+r/64%64=b:=⟨_,rfl⟩;obtain⟨b2,e2⟩:∃b,128+r%64=b:=⟨_,rfl⟩
   have f0:224≤b0∧b0<240:=by omega
   have f1:128≤b1∧b1≤191:=by omega
   have f2:b0=224→160≤b1:=by omega
   have f3:b0=237→b1≤159:=by omega
   rw[e0,e1,e2] at h2 ⊢;clear e0 e1 e2 hb h c0 c1 c2;simp only[List.map_cons,List.map_nil,List.length_cons,List.length_nil] at h2 ⊢
   have hf:∀x:Nat,224≤x→x<240→firstT x%8=3∧firstT x/16=(if x=224 then 1 else if x=237 then 2 else 0):=by
    intro x a b
    unfold firstT
    repeat' split
    all_goals omega
   have hfx:=hf b0.toNat (by omega) (by omega)
   rcases(by omega:j=1∨j=2) with rfl|rfl
   · simp only[List.take_succ_cons,List.take_zero];unfold qJi;simp only[bt,List.getD_cons_zero,List.length_cons,List.length_nil];rw[qA0 (by omega) (by omega),hfx.1]
     simp
   · simp only[List.take_succ_cons,List.take_zero];unfold qJi;simp only[bt,List.getD_cons_zero,List.getD_cons_succ,List.length_cons,List.length_nil];rw[qA0 (by omega) (by omega),qA0 (by omega) (by omega),hfx.1,hfx.2]
     have g:¬b1.toNat<accLo (if b0.toNat=224 then 1 else if b0.toNat=237 then 2 else 0)∧¬accHi (if b0.toNat=224 then 1 else if b0.toNat=237 then 2 else 0)<b1.toNat:=by
      split
      · simp only[show accLo 1=160 from rfl,show accHi 1=191 from rfl];omega
      split
      · simp only[show accLo 2=128 from rfl,show accHi 2=159 from rfl];omega
      · simp only[show accLo 0=128 from rfl,show accHi 0=191 from rfl];omega
     simp[g.1,g.2]
 · rw[encodeRuneZ_four (by omega) (by omega)] at h2 ⊢;obtain⟨b0,e0⟩:∃b,240+r/262144=b:=⟨_,rfl⟩;obtain⟨b1,e1⟩:∃b,128+r/4096%64=b:=⟨_,rfl⟩;obtain⟨b2,e2⟩:∃b,128+r/64%64=b:=⟨_,rfl⟩;obtain⟨b3,e3⟩:∃b,128+r%64=b:=⟨_,rfl⟩
   have f0:240≤b0∧b0<245:=by omega
   have f1:128≤b1∧b1≤191:=by omega
   have f2:b0=240→144≤b1:=by omega
   have f3:b0=244→b1≤143:=by omega
   have f4:128≤b2∧b2≤191:=by omega
   rw[e0,e1,e2,e3] at h2 ⊢;clear e0 e1 e2 e3 hb h c0 c1 c2;simp only[List.map_cons,List.map_nil,List.length_cons,List.length_nil] at h2 ⊢
   have hf:∀x:Nat,240≤x→x<245→firstT x%8=4∧firstT x/16=(if x=240 then 3 else if x=244 then 4 else 0):=by
    intro x a b
    unfold firstT
    repeat' split
    all_goals omega
   have hfx:=hf b0.toNat (by omega) (by omega)
   have g:¬b1.toNat<accLo (if b0.toNat=240 then 3 else if b0.toNat=244 then 4 else 0)∧¬accHi (if b0.toNat=240 then 3 else if b0.toNat=244 then 4 else 0)<b1.toNat:=by
    split
    · simp only[show accLo 3=144 from rfl,show accHi 3=191 from rfl];omega
    split
    · simp only[show accLo 4=128 from rfl,show accHi 4=143 from rfl];omega
    · simp only[show accLo 0=128 from rfl,show accHi 0=191 from rfl];omega
   have g2:¬b2.toNat<128∧¬191<b2.toNat:=by omega
   rcases(by omega:j=1∨j=2∨j=3) with rfl|rfl|rfl
   · simp only[List.take_succ_cons,List.take_zero];unfold qJi;simp only[bt,List.getD_cons_zero,List.length_cons,List.length_nil];rw[qA0 (by omega) (by omega),hfx.1]
     simp
   · simp only[List.take_succ_cons,List.take_zero];unfold qJi;simp only[bt,List.getD_cons_zero,List.getD_cons_succ,List.length_cons,List.length_nil];rw[qA0 (by omega) (by omega),qA0 (by omega) (by omega),hfx.1,hfx.2]
     simp[g.1,g.2]
   · simp only[List.take_succ_cons,List.take_zero];unfold qJi;simp only[bt,List.getD_cons_zero,List.getD_cons_succ,List.length_cons,List.length_nil];rw[qA0 (by omega) (by omega),qA0 (by omega) (by omega),qA0 (by omega) (by omega),hfx.1,hfx.2]
     simp[g.1,g.2,g2.1,g2.2]
end Go.Ms
namespace Go.Ms
open Go.Lib
/-! Reading from further on. -/
/-! Four digits, one by one. -/
/-! Can more bytes make a rune's bytes of some? -/
theorem w2 {n b0 b1 b2 b3:Nat} (h0:b0<256) (h1:b1<256) (h2:b2<256) (h3:b3<256):(decodeN n b0 b1 b2 b3).2=2↔194≤b0∧b0<224∧1<n∧128≤b1∧b1<192:=by
 unfold decodeN
 repeat' split
 all_goals constructor
 all_goals intro hh
 all_goals first|(exfalso;revert hh;decide)|omega|skip
set_option maxRecDepth 100000 in
theorem w3 {n b0 b1 b2 b3:Nat} (h0:b0<256) (h1:b1<256) (h2:b2<256) (h3:b3<256):(decodeN n b0 b1 b2 b3).2=3↔224≤b0∧b0<240∧2<n∧128≤b1∧b1<192∧128≤b2∧b2<192∧(b0=224→160≤b1)∧(b0=237→b1<160):=by
 unfold decodeN
 repeat' split
 all_goals constructor
 all_goals intro hh
 all_goals first|(exfalso;revert hh;decide)|omega|skip
set_option maxRecDepth 100000 in
theorem w4 {n b0 b1 b2 b3:Nat} (h0:b0<256) (h1:b1<256) (h2:b2<256) (h3:b3<256):(decodeN n b0 b1 b2 b3).2=4↔240≤b0∧b0<245∧3<n∧128≤b1∧b1<192∧128≤b2∧b2<192∧128≤b3∧b3<192∧(b0=240→144≤b1)∧(b0=244→b1<144):=by
 unfold decodeN
 repeat' split
 all_goals constructor
 all_goals intro hh
 all_goals first|(exfalso;revert hh;decide)|omega|skip
end Go.Ms
namespace Go.Proofs.YtikpmmipopmjaaaGreatDoor
open Go.RowKit Go.Ms Go.Lib
def lowD (k:Nat):Int:=if k<10 then 48+k else 87+k
theorem qY2:∀k:Fin 16,((((⟨#[48,49,50,51,52,53,54,55,56,57,97,98,99,100,101,102]⟩:ByteArray)[k.val]'(k.isLt)).toNat:Nat):Int)=lowD k.val:=by decide
end Go.Proofs.YtikpmmipopmjaaaGreatDoor
