/- strings.Builder beside other rows of bytes: the methods, and which blocks stand. A literal that is cut off: ErrTrunc. The reference's reader answers as the program's: plain facts. The reference's digit and half. Cells: hex. Cells: hex read. Numbers of 64 bits: the sign's bit turned; bytes put behind. Cells: whole numbers' bits. Cells: whole numbers' bits taken off. -/
import Derived.Test.YtainiaighnjpfaaGreatDoorZQh
import Derived.Lib.ConvBytes
import Derived.Laws.BitsAllLaws
import Derived.Laws.Bits64
import Derived.IntWalk
set_option maxHeartbeats 4000000
set_option maxRecDepth 100000
set_option linter.unusedVariables false
namespace Go.Proofs.YtainiaighnjpfaaGreatDoor
open Go.RowKit Go.Ms Go.Lib
structure BO (b B:Nat) (v:Value) (l:Bs) (w:World):Prop where
  hB:B≤b
  blk:w.heap[b]?=some (.cells #[.pointer (some ⟨b,0,none⟩),v] 190 (0,0))
  own:OwnB w B 5 v l
  ne:v.ownBlock≠some b
structure BW (b B:Nat) (v v':Value) (l:Bs) (w w':World):Prop where
  bo:BO b B v' l w'
  bel:Below B w w'
  at':v'.ownBlock=v.ownBlock∨∃k,v'.ownBlock=some k∧w.heap.size≤k
  keep:∀K,K<w.heap.size→K≠b→v.ownBlock≠some K→w'.heap[K]?=w.heap[K]?
theorem BO.isF {b B:Nat} {v:Value} {l:Bs} {w:World} (h:BO b B v l w):IsBuilderF 190 5 B b (Lib.byteCells l) w:=by
 have h2:w.ownsRow B 5 1 v (Lib.byteCells l).length (Lib.byteCells l):=by rw[Lib.byteCells_length];exact h.own
 have hA:BuilderAt 190 5 B b (.pointer (some ⟨b,0,none⟩)) (Lib.byteCells l) w:=⟨h.hB,v,h.blk,h2,h.ne⟩;exact .inr (BuilderAtF.of hA)
theorem BO.drew {b B:Nat} {v:Value} {l:Bs} {w:World} (h:BO b B v l w) (n:Nat):BO b B v l (w.drewN n):=⟨h.hB,h.blk,h.own,h.ne⟩
theorem BO.lt {b B:Nat} {v:Value} {l:Bs} {w:World} (h:BO b B v l w):b<w.heap.size:=(Array.getElem?_eq_some_iff.1 h.blk).1
theorem BO.kept {b B:Nat} {v:Value} {l:Bs} {w w':World} (h:BO b B v l w) (hb:Below w.heap.size w w'):BO b B v l w':=
  ⟨h.hB,by rw[hb.block b h.lt];exact h.blk,h.own.kept hb,h.ne⟩
theorem qKd {w:World} {b T:Nat} {x y:Value} (h:w.heap[b]?=some (.cells #[x,y] T (0,0))) (u:Value):(w.setCell ⟨b,1,none⟩ u).heap[b]?=some (.cells #[x,u] T (0,0)):=by
 simp[World.setCell,Array.getElem?_modify,h]
theorem _root_.Go.Ms.OwnB.store {w:World} {B e g n cap:Nat} {l:Bs} (h:OwnB w B e (.slice (some ⟨g,0,none⟩) n cap) l) (b:Nat) (hgb:g≠b) (i:Nat) (u:Value):OwnB (w.setCell ⟨b,i,none⟩ u) B e (.slice (some ⟨g,0,none⟩) n cap) l:=
  World.ownsRow.kept h (row:=some b) ⟨rfl,rfl,rfl,by simp[World.setCell],fun k _ hk=>Below.heap_setCell _ _ _ _ (by intro e1;exact hk (by rw[e1]))⟩ (.inr (by intro e1;exact hgb (Option.some.inj e1)))
theorem qX7 (b B:Nat) (v:Value) (l:Bs) (c:Int) (w:World) (h:BO b B v l w) (hc:0≤c∧c<256) (hlen:l.length+1≤140737488355328) (hBw:B≤w.heap.size) :
    Calls Tryz.prog 201 #[.pointer (some ⟨b,0,none⟩),.int .u8 c] w fun e w'=>e=.returned .nilIface∧∃v',BW b B v v' (l++[c.toNat.toUInt8]) w w':=by
 obtain⟨i0,hi,hz0,hz1,hz2⟩:=info_parts infoByte;have hbk:=h.blk;have hlt:=h.lt;have c0:w.cell? ⟨b,0,none⟩=some (.pointer (some ⟨b,0,none⟩)):=by rw[Lib.cell_of_heap hbk];rfl
 have c1:w.cell? ⟨b,1,none⟩=some v:=by rw[Lib.cell_of_heap hbk];rfl
 have cu:=qKs b w c0;have CU:=hh_ cu
 have hcell:∀j u,(([c]:List Int).map (Value.int .u8))[j]?=some u→(w.alloc (.cells #[.int .u8 c] 5)).cell? ((⟨w.heap.size,0,none⟩:Addr).add j)=some u:=by
  intro j u hj
  match j,hj with
  |0,hj=>
   simp at hj;subst hj;have hadd:(⟨w.heap.size,0,none⟩:Addr).add 0=⟨w.heap.size,0,none⟩:=by unfold Addr.add;simp
   rw[hadd,Lib.cell_of_heap (heap_alloc_new w _)];rfl
 have hns:∀x∈([c]:List Int),0≤x∧x<256:=by intro x hx;rw[List.mem_singleton] at hx;subst hx;exact hc
 have ownA:=h.own.alloc (.cells #[.int .u8 c] 5);have hsA:B≤(w.alloc (.cells #[.int .u8 c] 5)).heap.size:=by simp;omega
 have HCELL:=hh_ hcell;have HNS:=hh_ hns;have HLEN:=hh_ hlen;clear cu hcell hns hlen;go_enter Tryz.func201,Tryz.ntmps201;go_wp2_with fail
 refine CU.out.mono ?_;rintro en w1 ⟨rfl,hw1⟩;subst hw1;go_wp2_with (at_builtin;refine qF3 rfl _ _ 188 rfl B 5 i0 (.int .u8 0) Tryz.underlying188 hi hz0 hz1 hz2 rfl v l rfl ownA ⟨w1.heap.size,0,none⟩ 1 1 rfl [c] rfl HCELL.out HNS.out HLEN.out hsA ?_)
 intro v' w2 hown' hgrow hat
 have hb2:w2.heap[b]?=some (.cells #[.pointer (some ⟨b,0,none⟩),v] 190 (0,0)):=by
  rw[hgrow.block b (by simp;omega) (fun e=>h.ne e.symm),Lib.alloc_old w1 _ b hlt];exact hbk
 have d0:w2.cell? ⟨b,0,none⟩=some (.pointer (some ⟨b,0,none⟩)):=by rw[Lib.cell_of_heap hb2];rfl
 have d1:w2.cell? ⟨b,1,none⟩=some v:=by rw[Lib.cell_of_heap hb2];rfl
 have f1:w2.frozen? ⟨b,1,none⟩=false:=Lib.frozen_of_heap hb2 1
 obtain⟨g,cap,rfl⟩:∃g cap,v'=.slice (some ⟨g,0,none⟩) (l.length+1) cap:=by
  rcases hown'.2 with⟨_,h0⟩|⟨g,cap,cur,hv,_⟩
  · simp at h0
  · exact⟨g,cap,by simpa using hv⟩
 have hgb:g≠b:=by
  intro e;subst e;rcases hat with ha|ha
  · exact h.ne (by rw[←ha];rfl)
  · have ha2:g=w1.heap.size+1:=Option.some.inj ha;omega
 have hown2:=hown'.store b hgb 1 (.slice (some ⟨g,0,none⟩) (l.length+1) cap);have hbk2:=qKd hb2 (.slice (some ⟨g,0,none⟩) (l.length+1) cap)
 have hbel:Below B w1 (w2.setCell ⟨b,1,none⟩ (.slice (some ⟨g,0,none⟩) (l.length+1) cap)):=
   (ownA.below (br_.alloc hBw _) hsA hgrow).setCell (p:=⟨b,1,none⟩) h.hB _
 have hkeep:∀K,K<w1.heap.size→K≠b→v.ownBlock≠some K→(w2.setCell ⟨b,1,none⟩ (.slice (some ⟨g,0,none⟩) (l.length+1) cap)).heap[K]?=w1.heap[K]?:=by
  intro K hK hKb hKv;rw[Below.heap_setCell _ _ _ _ (by exact hKb),hgrow.block K (by simp;omega) (fun e=>hKv e.symm),Lib.alloc_old w1 _ K hK]
 have hat2:(Value.slice (some ⟨g,0,none⟩) (l.length+1) cap).ownBlock=v.ownBlock∨∃k,(Value.slice (some ⟨g,0,none⟩) (l.length+1) cap).ownBlock=some k∧w1.heap.size≤k:=by
  rcases hat with ha|ha
  · exact .inl ha
  · exact .inr ⟨_,ha,by simp⟩
 have HO:=hh_ hown2;have HK:=hh_ hbk2;have HL:=hh_ hbel;have HP:=hh_ hkeep;have HA:=hh_ hat2;clear hown2 hbk2 hbel hkeep hat2 hat hown' hgrow ownA;go_wp2
 go_ret;exact⟨rfl,_,⟨h.hB,HK.out,HO.out,fun e=>hgb (Option.some.inj e)⟩,HL.out,HA.out,HP.out⟩
theorem qN3 (str:ByteArray) (w:World) (hs:str.size≤1000000) (h1:1≤str.size) :
    Calls Tryz.prog 131 #[.pointer (some ⟨w.heap.size,0,none⟩),.string str] (w.alloc (.cells #[.pointer none,.slice none 0 0] 190)) fun e w'=>e=.returned (.tuple #[.int .i64 str.size,.nilIface])∧∃v',BO w.heap.size w.heap.size v' str.data.toList w'∧Below w.heap.size w w':=by
 obtain⟨i0,hi,hz0,hz1,hz2⟩:=info_parts infoByte;obtain⟨W,hW⟩:∃W,w.alloc (.cells #[.pointer none,.slice none 0 0] 190)=W:=⟨_,rfl⟩;have hI:IsBuilderF 190 5 w.heap.size w.heap.size [] W:=by rw[←hW];exact IsBuilderF.of (Lib.fresh_isBuilder 190 5 w)
 have hbk:W.heap[w.heap.size]?=some (.cells #[.pointer none,.slice none 0 0] 190 (0,0)):=by rw[←hW];exact heap_alloc_new w _
 have hB0:Below w.heap.size w W:=by rw[←hW];exact br_.alloc le_ _
 have hlt:w.heap.size<W.heap.size:=by rw[←hW];simp
 rw[hW];obtain⟨b,hb⟩:∃b,w.heap.size=b:=⟨_,rfl⟩;rw[hb] at hI hbk hB0 hlt ⊢;have c0:W.cell? ⟨b,0,none⟩=some (.pointer none):=by rw[Lib.cell_of_heap hbk];rfl
 have c1:W.cell? ⟨b,1,none⟩=some (.slice none 0 0):=by rw[Lib.cell_of_heap hbk];rfl
 have hsh:W.shape? b=some (190,2):=by simp[World.shape?,hbk]
 have cf:=qJ7 b W c0 hsh (Lib.frozen_of_heap hbk 0)
 have hbk1:(W.setCell ⟨b,0,none⟩ (.pointer (some ⟨b,0,none⟩))).heap[b]?=some (.cells #[.pointer (some ⟨b,0,none⟩),.slice none 0 0] 190 (0,0)):=by
  simp[World.setCell,Array.getElem?_modify,hbk]
 obtain⟨W1,hW1⟩:∃W1,W.setCell ⟨b,0,none⟩ (.pointer (some ⟨b,0,none⟩))=W1:=⟨_,rfl⟩;have hB1:Below b w W1:=by rw[←hW1];exact hB0.setCell (p:=⟨b,0,none⟩) le_ _
 have hlt1:b<W1.heap.size:=by rw[←hW1];simpa[World.setCell] using hlt
 rw[hW1] at cf hbk1;have d0:W1.cell? ⟨b,0,none⟩=some (.pointer (some ⟨b,0,none⟩)):=by rw[Lib.cell_of_heap hbk1];rfl
 have d1:W1.cell? ⟨b,1,none⟩=some (.slice none 0 0):=by rw[Lib.cell_of_heap hbk1];rfl
 have ownA:OwnB W1 b 5 (.slice none 0 0) []:=OwnB.nil _ _ _;have CF:=hh_ cf;have HS:Hid (([]:Bs).length+str.size≤140737488355328):=by show _≤_;simp;omega
 have hbB:b≤W1.heap.size:=by omega
 clear cf hW hb hW1 c0 c1 hsh hI hbk;go_enter Tryz.func131,Tryz.ntmps131;go_wp2_with fail
 refine CF.out.mono ?_;rintro en w1 ⟨rfl,hw1⟩;subst hw1;go_wp2_with (at_builtin;refine qF2 rfl _ _ 188 9 rfl b 5 i0 (.int .u8 0) Tryz.underlying188 Tryz.underlying9 hi hz0 hz1 hz2 rfl (.slice none 0 0) [] rfl ownA str rfl HS.out hbB ?_)
 intro v' w2 hown' hgrow hat
 have hb2:w2.heap[b]?=some (.cells #[.pointer (some ⟨b,0,none⟩),.slice none 0 0] 190 (0,0)):=by
  rw[hgrow.block b hlt1 (by simp[Value.ownBlock])];exact hbk1
 have e0:w2.cell? ⟨b,0,none⟩=some (.pointer (some ⟨b,0,none⟩)):=by rw[Lib.cell_of_heap hb2];rfl
 have e1:w2.cell? ⟨b,1,none⟩=some (.slice none 0 0):=by rw[Lib.cell_of_heap hb2];rfl
 have f1:w2.frozen? ⟨b,1,none⟩=false:=Lib.frozen_of_heap hb2 1;have hlen:str.data.toList.length=str.size:=by simp
 obtain⟨g,cap,rfl⟩:∃g cap,v'=.slice (some ⟨g,0,none⟩) str.size cap:=by
  rcases hown'.2 with⟨_,h0⟩|⟨g,cap,cur,hv,_⟩
  · have h0':([]++str.data.toList).length=0:=h0;rw[List.nil_append] at h0';omega
  · exact⟨g,cap,by rw[hv];simp⟩
 have hgb:g≠b:=by
  intro e;subst e;rcases hat with ha|ha
  · simp[Value.ownBlock] at ha
  · have ha2:g=w1.heap.size:=Option.some.inj ha;omega
 have hown'':OwnB w2 b 5 (.slice (some ⟨g,0,none⟩) str.size cap) str.data.toList:=by simpa using hown'
 have hown2:=hown''.store b hgb 1 (.slice (some ⟨g,0,none⟩) str.size cap);have hbk2:=qKd hb2 (.slice (some ⟨g,0,none⟩) str.size cap)
 have hbel:Below b w (w2.setCell ⟨b,1,none⟩ (.slice (some ⟨g,0,none⟩) str.size cap)):=
   (ownA.below hB1 hbB hgrow).setCell (p:=⟨b,1,none⟩) le_ _
 have HO:=hh_ hown2;have HK:=hh_ hbk2;have HL:=hh_ hbel;clear hown2 hbk2 hbel hat hown' hgrow ownA hown'' hlen;go_wp2
 go_ret2;exact⟨rfl,_,⟨Nat.le_refl _,HK.out,HO.out,fun e=>hgb (Option.some.inj e)⟩,HL.out⟩
end Go.Proofs.YtainiaighnjpfaaGreatDoor
namespace Go.Ms
open Go.Lib
theorem zAv {l:Bs} {p:Nat} {c1:UInt8} {r:Bs} (second:Bool) (h:l.drop p=c1::r) (k1:hexv c1.toNat≠16) (ho:¬(second=true∧¬hexv c1.toNat=13)) :
    h0 l second p 0=(hexv c1.toNat,p+1,(0:Int)):=by
 unfold h0;rw[qC5 h k1];simp only;rw[if_neg ho]
theorem zAk {l:Bs} {p:Nat} {c1 c2:UInt8} {r:Bs} (second:Bool) (h:l.drop p=c1::c2::r) (k1:hexv c1.toNat≠16) (k2:hexv c2.toNat≠16) (ho:qJt second (hexv c1.toNat) (hexv c2.toNat)) :
    h1 l second p 0=(16*hexv c1.toNat+hexv c2.toNat,p+2,(0:Int)):=by
 have e1:=(qAk h).2.2;unfold h1;rw[zAv second h k1 ho.1];simp only;rw[qC5 e1 k2];simp only;rw[if_pos ho.2]
theorem zB0 {l:Bs} {p:Nat} {c1 c2 c3:UInt8} {r:Bs} (second:Bool) (h:l.drop p=c1::c2::c3::r) (k1:hexv c1.toNat≠16) (k2:hexv c2.toNat≠16) (k3:hexv c3.toNat≠16) (ho:qJt second (hexv c1.toNat) (hexv c2.toNat)) :
    h2 l second p 0=(16*(16*hexv c1.toNat+hexv c2.toNat)+hexv c3.toNat,p+3,(0:Int)):=by
 have e1:=(qAk h).2.2;have e2:=(qAk e1).2.2;unfold h2;rw[zAk second h k1 k2 ho];simp only;rw[qC5 e2 k3]
theorem qYv {l:Bs} {p:Nat} {second:Bool} {e x:Int} (hx:x≠0) (h:(h0 l second p e).2.2=x):(qBj l second p e).2.2=x:=by
 unfold qBj h2 h1;simp only;rw[h,qCk _ _ hx];simp only;split
 · simp only[qCk _ _ hx]
 · simp only[qEs hx,qCk _ _ hx]
theorem qZi {l:Bs} {p:Nat} {second:Bool} {e x:Int} (hx:x≠0) (h:(h1 l second p e).2.2=x):(qBj l second p e).2.2=x:=by
 unfold qBj h2;simp only;rw[h,qCk _ _ hx];simp only[qCk _ _ hx]
theorem qY1 {l:Bs} {p:Nat} {second:Bool} {e x:Int} (hx:x≠0) (h:(h2 l second p e).2.2=x):(qBj l second p e).2.2=x:=by
 unfold qBj;simp only;rw[h,qCk _ _ hx]
theorem qMm {l:Bs} {p j:Nat} {c1 c2 c3 c4:UInt8} (second:Bool) (hp:p≤l.length) (hj:j<4) (h:l.drop p=[c1,c2,c3,c4].take j)
    (k1:hexv c1.toNat≠16) (k2:hexv c2.toNat≠16) (k3:hexv c3.toNat≠16) (ho:qJt second (hexv c1.toNat) (hexv c2.toNat)):(qBj l second p 0).2.2=3:=by
 have hlen:=congrArg List.length h;rw[List.length_drop] at hlen
 match j,hj with
 |0,_=>
  apply qYv (by omega);unfold h0;rw[qHd hp h];simp only;split
  · rfl
  · rfl
 |1,_=>
  have h':l.drop p=c1::[]:=h;have e1:=(qAk h').2.2;simp at hlen;apply qZi (by omega);unfold h1;rw[zAv second h' k1 ho.1];simp only;rw[qHd (by omega) e1];simp only;split
  · rfl
  · rfl
 |2,_=>
  have h':l.drop p=c1::c2::[]:=h;have e2:=(qAk (qAk h').2.2).2.2;simp at hlen;apply qY1 (by omega);unfold h2;rw[zAk second h' k1 k2 ho];simp only;rw[qHd (by omega) e2]
 |3,_=>
  have h':l.drop p=c1::c2::c3::[]:=h;have e3:=(qAk (qAk (qAk h').2.2).2.2).2.2;simp at hlen;unfold qBj;rw[zB0 second h' k1 k2 k3 ho];simp only;rw[qHd (by omega) e3]
theorem qVq (l:Bs) (p:Nat) (n:Int) {e:Int} (he:e≠0):(rdPair l p e n).2.2=e:=by
 unfold rdPair;simp only[qPz _ _ _ he];have:=(qIz l true p he).1;rw[this,if_neg he]
theorem qLl {l:Bs} {p:Nat} {x e z:Int} {y:Nat} (he:e≠0) (h:(qBj l false p x).2.2=e):(qEz l (p,z) (y,x)).2.2=e:=by
 unfold qEz;simp only;split
 · rw[h];exact qVq _ _ _ he
 · rw[h,if_neg he]
theorem qLq {l:Bs} {p:Nat} (hp:p≤l.length) (h:l.drop p=[]):(qAw l p 0).2.2=3:=by
 unfold qAw;simp only[qL9 hp h];rw[if_neg (by decide)];simp only[show qHn 0=none from by decide];rw[if_neg (by decide),qEs (by decide)];exact qLl (by decide) (qIz l false p (by decide)).1
theorem zA5 {l:Bs} {p:Nat} {r:Bs} (h:l.drop p=117::r):qAw l p 0=qEz l (p+1,0) (0,0):=by
 unfold qAw;simp only[qDu h];rw[if_neg (by decide)];simp only[show(((117:UInt8).toNat:Nat):Int)=117 from rfl,if_true,show qHn 117=none from by decide]
theorem qV8 {r:Int} (h:qBx r=true) {j:Nat} (h1:1≤j) (h2:j<(encodeRune r).length):qC2 ((encodeRune r).take j)=(0,0,false):=by
 rcases qC6 ((encodeRune r).take j) with e|⟨r',g1,g2,g3⟩
 · exact e
 · exfalso;have hl:=congrArg List.length g3;rw[List.length_take,List.length_append,List.length_drop,List.length_take] at hl;have hr':=qAz r'
   have e:encodeRune r=encodeRune r'++(((encodeRune r).take j).drop (encodeRune r').length++(encodeRune r).drop j):=by
    rw[←List.append_assoc,←g3,List.take_append_drop]
   have n1:=qIw r' (((encodeRune r).take j).drop (encodeRune r').length++(encodeRune r).drop j) g1;rw[←e] at n1;have n2:=qIw r [] h;rw[List.append_nil,n1] at n2;simp only[Prod.mk.injEq] at n2;omega
theorem qRy {b:Nat} (h:194≤b) (h2:b<224):firstT b=2:=by
 unfold firstT;rw[if_neg (by omega),if_neg (by omega),if_pos h2]
theorem qWh {r:Int} (h:qBx r=true) {j:Nat} (h1:1≤j) (h2:j<(encodeRune r).length):qIo ((encodeRune r).take j)=false:=by
 have hb:=(qA4 r).1 h;by_cases c0:r≤127
 · rw[qEl (by omega) c0] at h2;simp at h2;omega
 unfold encodeRune at h2 ⊢;by_cases c1:r≤2047
 · rw[encodeRuneZ_two (by omega) c1] at h2 ⊢;simp only[List.map_cons,List.map_nil,List.length_cons,List.length_nil] at h2 ⊢;obtain rfl:j=1:=by omega
   simp only[List.take_succ_cons,List.take_zero];unfold qIo;simp only[bt,List.getD_cons_zero,List.length_cons,List.length_nil];rw[qAx (by omega) (by omega),qRy (by omega) (by omega)];simp
 by_cases c2:r≤65535
 · rw [encodeRuneZ_three (by omega)] at h2 ⊢;obtain⟨b0,e0⟩:∃b,224+r/4096=b:=⟨_,rfl⟩;obtain⟨b1,e1⟩:∃b,128+r/64%64=b:=⟨_,rfl⟩;obtain⟨b2,e2⟩:∃b,128+r%64=b:=⟨_,rfl⟩;have f0:224≤b0∧b0<240:=by omega
   have f1:128≤b1∧b1≤191:=by omega
   have f2:b0=224→160≤b1:=by omega
   have f3:b0=237→b1≤159:=by omega
   rw[e0,e1,e2] at h2 ⊢;clear e0 e1 e2 hb h c0 c1 c2;simp only[List.map_cons,List.map_nil,List.length_cons,List.length_nil] at h2 ⊢
   have hf:∀x:Nat,224≤x→x<240→firstT x%8=3∧firstT x/16=(if x=224 then 1 else if x=237 then 2 else 0):=by
    intro x a b;unfold firstT;repeat' split
    all_goals omega
   have hfx:=hf b0.toNat (by omega) (by omega);rcases(by omega:j=1∨j=2) with rfl|rfl
   · simp only[List.take_succ_cons,List.take_zero];unfold qIo;simp only[bt,List.getD_cons_zero,List.length_cons,List.length_nil];rw[qAx (by omega) (by omega),hfx.1];simp
   · simp only[List.take_succ_cons,List.take_zero];unfold qIo;simp only[bt,List.getD_cons_zero,List.getD_cons_succ,List.length_cons,List.length_nil];rw[qAx (by omega) (by omega),qAx (by omega) (by omega),hfx.1,hfx.2]
     have g:¬b1.toNat<accLo (if b0.toNat=224 then 1 else if b0.toNat=237 then 2 else 0)∧¬accHi (if b0.toNat=224 then 1 else if b0.toNat=237 then 2 else 0)<b1.toNat:=by
      split
      · simp only[show accLo 1=160 from rfl,show accHi 1=191 from rfl];omega
      split
      · simp only[show accLo 2=128 from rfl,show accHi 2=159 from rfl];omega
      · simp only[show accLo 0=128 from rfl,show accHi 0=191 from rfl];omega
     simp[g.1,g.2]
 · rw[encodeRuneZ_four (by omega) (by omega)] at h2 ⊢;obtain⟨b0,e0⟩:∃b,240+r/262144=b:=⟨_,rfl⟩;obtain⟨b1,e1⟩:∃b,128+r/4096%64=b:=⟨_,rfl⟩;obtain⟨b2,e2⟩:∃b,128+r/64%64=b:=⟨_,rfl⟩;obtain⟨b3,e3⟩:∃b,128+r%64=b:=⟨_,rfl⟩;have f0:240≤b0∧b0<245:=by omega
   have f1:128≤b1∧b1≤191:=by omega
   have f2:b0=240→144≤b1:=by omega
   have f3:b0=244→b1≤143:=by omega
   have f4:128≤b2∧b2≤191:=by omega
   rw[e0,e1,e2,e3] at h2 ⊢;clear e0 e1 e2 e3 hb h c0 c1 c2;simp only[List.map_cons,List.map_nil,List.length_cons,List.length_nil] at h2 ⊢
   have hf:∀x:Nat,240≤x→x<245→firstT x%8=4∧firstT x/16=(if x=240 then 3 else if x=244 then 4 else 0):=by
    intro x a b;unfold firstT;repeat' split
    all_goals omega
   have hfx:=hf b0.toNat (by omega) (by omega)
   have g:¬b1.toNat<accLo (if b0.toNat=240 then 3 else if b0.toNat=244 then 4 else 0)∧¬accHi (if b0.toNat=240 then 3 else if b0.toNat=244 then 4 else 0)<b1.toNat:=by
    split
    · simp only[show accLo 3=144 from rfl,show accHi 3=191 from rfl];omega
    split
    · simp only[show accLo 4=128 from rfl,show accHi 4=143 from rfl];omega
    · simp only[show accLo 0=128 from rfl,show accHi 0=191 from rfl];omega
   have g2:¬b2.toNat<128∧¬191<b2.toNat:=by omega
   rcases(by omega:j=1∨j=2∨j=3) with rfl|rfl|rfl
   · simp only[List.take_succ_cons,List.take_zero];unfold qIo;simp only[bt,List.getD_cons_zero,List.length_cons,List.length_nil];rw[qAx (by omega) (by omega),hfx.1];simp
   · simp only[List.take_succ_cons,List.take_zero];unfold qIo;simp only[bt,List.getD_cons_zero,List.getD_cons_succ,List.length_cons,List.length_nil];rw[qAx (by omega) (by omega),qAx (by omega) (by omega),hfx.1,hfx.2];simp[g.1,g.2]
   · simp only[List.take_succ_cons,List.take_zero];unfold qIo;simp only[bt,List.getD_cons_zero,List.getD_cons_succ,List.length_cons,List.length_nil];rw[qAx (by omega) (by omega),qAx (by omega) (by omega),qAx (by omega) (by omega),hfx.1,hfx.2];simp[g.1,g.2,g2.1,g2.2]
/-! Reading from further on. -/
/-! Four digits, one by one. -/
/-! Can more bytes make a rune's bytes of some? -/
theorem w2 {n b0 b1 b2 b3:Nat} (h0:b0<256) (h1:b1<256) (h2:b2<256) (h3:b3<256):(decodeN n b0 b1 b2 b3).2=2↔194≤b0∧b0<224∧1<n∧128≤b1∧b1<192:=by
 unfold decodeN;repeat' split
 all_goals constructor
 all_goals intro hh
 all_goals first|(exfalso;revert hh;decide)|omega|skip
theorem w3 {n b0 b1 b2 b3:Nat} (h0:b0<256) (h1:b1<256) (h2:b2<256) (h3:b3<256):(decodeN n b0 b1 b2 b3).2=3↔224≤b0∧b0<240∧2<n∧128≤b1∧b1<192∧128≤b2∧b2<192∧(b0=224→160≤b1)∧(b0=237→b1<160):=by
 unfold decodeN;repeat' split
 all_goals constructor
 all_goals intro hh
 all_goals first|(exfalso;revert hh;decide)|omega|skip
theorem w4 {n b0 b1 b2 b3:Nat} (h0:b0<256) (h1:b1<256) (h2:b2<256) (h3:b3<256):(decodeN n b0 b1 b2 b3).2=4↔240≤b0∧b0<245∧3<n∧128≤b1∧b1<192∧128≤b2∧b2<192∧128≤b3∧b3<192∧(b0=240→144≤b1)∧(b0=244→b1<144):=by
 unfold decodeN;repeat' split
 all_goals constructor
 all_goals intro hh
 all_goals first|(exfalso;revert hh;decide)|omega|skip
end Go.Ms
namespace Go.Proofs.YtainiaighnjpfaaGreatDoor
open Go.RowKit Go.Ms Go.Lib
def lowD (k:Nat):Int:=if k<10 then 48+k else 87+k
theorem qXv:∀k:Fin 16,((((⟨#[48,49,50,51,52,53,54,55,56,57,97,98,99,100,101,102]⟩:ByteArray)[k.val]'(k.isLt)).toNat:Nat):Int)=lowD k.val:=by decide
theorem zBe:∀k:Fin 256,bits .and .u8 ((k.val:Nat):Int) 15=((k.val%16:Nat):Int):=by decide
theorem qVa:∀k:Fin 256,hexb k.val.toUInt8=[(lowD (k.val/16)).toNat.toUInt8,(lowD (k.val%16)).toNat.toUInt8]:=by decide
theorem qUt:∀k:Fin 16,0≤lowD k.val∧lowD k.val<256:=by decide
theorem qWk (l:Bs) (k:Nat) (h:k<l.length):(l.take (k+1)).flatMap hexb=(l.take k).flatMap hexb++hexb l[k]:=by
 rw[List.take_succ_eq_append_getElem h,List.flatMap_append];simp
theorem qZp (l:Bs):(l.flatMap hexb).length=2*l.length:=by
 induction l with
 |nil=>rfl
 |cons c t ih=>rw[List.flatMap_cons,List.length_append,ih,List.length_cons];simp[hexb];omega
theorem qY8 (n:Int) (nu:Bool) (S:ByteArray) (w:World) (hs:S.size≤100000) :
    Calls Tryz.prog 162 #[.agg #[.bool nu,.int .i64 n,.string S]] w fun e w'=>e=.returned (.string ⟨(hexD S.data.toList).toArray⟩)∧Below w.heap.size w w':=by
 have hl:S.data.toList.length=S.size:=by simp
 have kb:=fun (w:World)=>Lib.run_convert_string_bytes (P:=Tryz.prog) w 9 188 5 S Tryz.underlying9 Tryz.underlying188 Tryz.underlying5
 obtain⟨W0,hW0⟩:∃W0,w.alloc (.cells #[.bool nu,.int .i64 n,.string S] 43)=W0:=⟨_,rfl⟩;have hsz0:W0.heap.size=w.heap.size+1:=by rw[←hW0];simp
 have B0:Below w.heap.size w W0:=by rw[←hW0];exact(Below.refl _ w).alloc le_ _
 have res:∀w1,Below W0.heap.size W0 w1→Res3 w1 w.heap.size (.bool nu) (.int .i64 n) (.string S)∧Below w.heap.size w w1:=by
  intro w1 hb;refine⟨?_,B0.trans (hb.mono (by omega))⟩;subst hW0;exact qHj _ _ _ _ (hb.mono (by simp))
 have cw:=qN3 ⟨#[120]⟩ W0 (by decide) (by decide);have CW:=hh_ cw;have HRES:=hh_ res;have HW0:=hh_ hW0;have HSZ:=hh_ hsz0;clear res cw hsz0 hW0;go_enter Tryz.func162,Tryz.ntmps162;go_wp2_with fail
 rw[HW0.out,←HSZ.out];refine CW.out.mono ?_;rintro en w1 ⟨rfl,v,hbo,hb1⟩;obtain⟨⟨c0,c1,c2,f0,f1,f2,hlt⟩,bw⟩:=HRES.out _ hb1;have hK:w1.heap.size<(Lib.bytesWorld w1 5 S).heap.size:=by rw[Lib.bytesWorld_size];omega
 have hbb:=Joins.below_bytesWorld w1.heap.size w1 5 S le_
 have hvK:v.ownBlock≠some w1.heap.size:=by
  intro e;have:=(World.ownsRow.lt hbo.own _ e).2;omega
 have hcells:∀j,j<S.size→(Lib.bytesWorld w1 5 S).cell? ⟨w1.heap.size,j,none⟩=some (.int .u8 ((bt S.data.toList j:Nat):Int)):=fun j hj=>Lib.bytesWorld_cell w1 5 S j hj
 have hbo2:=hbo.kept hbb;have hB2:=hb1.trans (hbb.mono hb1.size);have hbz:W0.heap.size<w1.heap.size:=hbo.lt;have HC:=hh_ hcells;clear hcells hbb hbo;go_wp2_with fail
 obtain⟨K,hKe⟩:∃K,w1.heap.size=K:=⟨_,rfl⟩;obtain⟨W2,hW2⟩:∃W2,Lib.bytesWorld w1 5 S=W2:=⟨_,rfl⟩;rw[hKe,hW2] at hK HC;rw[hKe] at hvK hbz;rw[hW2] at hbo2 hB2;rw[hKe,hW2];clear hKe hW2 hb1 c0 c1 c2 f0 f1 f2 hlt bw;go_loopw [11] (fun i wr=> ∃(k:Nat) (v:Value),i=.int .i64 k∧k≤S.size∧BO W0.heap.size W0.heap.size v (120::(S.data.toList.take k).flatMap hexb) wr∧v.ownBlock≠some K∧wr.heap[K]?=W2.heap[K]?∧K<wr.heap.size∧Below W0.heap.size W0 wr) (fun i _=>S.size-(RowKit.intOf i).toNat)
 case atStart=>exact⟨0,v,rfl,by omega,hbo2,hvK,rfl,hK,hB2⟩
 case round=>
  obtain⟨k,v,rfl,hk,hbo,hvK,hKb,hKl,hb⟩:=hrel;by_cases hlt:k<S.size
  · have hli:(k:Int)<(S.size:Int):=by omega
    have hck:=HC.out k hlt;rw[←World.cell?_of_block (a:=⟨K,k,none⟩) hKb] at hck;have hsn:=qWk S.data.toList k (by omega);have hbe:bt S.data.toList k=(S.data.toList[k]'(by omega)).toNat:=by simp[bt,List.getD_eq_getElem?_getD,hlt]
    have hhb:=qVa ⟨bt S.data.toList k,qD1 _ _⟩;have hx:=qD1 S.data.toList k;have hll:=qZp (S.data.toList.take k);rw[List.length_take] at hll;simp only at hhb;rw[hbe] at hhb;rw[show((S.data.toList[k]'(by omega)).toNat).toUInt8=S.data.toList[k]'(by omega) by simp] at hhb;rw[hhb,←hbe] at hsn;clear hhb hbe;generalize bt S.data.toList k=x at *; have hd1:=qUt ⟨x/16,by omega⟩;have hd2:=qUt ⟨x%16,by omega⟩;have g1:=qXv ⟨x/16,by omega⟩;have g2:=qXv ⟨x%16,by omega⟩;simp only at hd1 hd2 g1 g2;generalize lowD (x/16)=d1 at *; generalize lowD (x%16)=d2 at *; have a15:=zBe ⟨x,hx⟩;simp only at a15;have HSN:=hh_ hsn;have HLL:=hh_ hll;clear hsn hll;have hbs:=hb.size;have hz0:W0.heap.size≤wr.heap.size:=hbs;have L1:Hid ((120::(S.data.toList.take k).flatMap hexb).length+2≤140737488355328):=by show _≤_;rw[List.length_cons,HLL.out];omega
    go_wp2_with fail
    refine(qX7 W0.heap.size W0.heap.size v _ d1 wr hbo hd1 (by have:=L1.out;omega) hz0).mono ?_;rintro en w3 ⟨rfl,v3,hw3⟩
    have hv3:v3.ownBlock≠some K:=by
     intro e;rcases hw3.at' with h|⟨q,h,hq⟩
     · exact hvK (by rw[←h];exact e)
     · rw[h] at e;have:=Option.some.inj e;omega
    have hk3:w3.heap[K]?=W2.heap[K]?:=by rw[hw3.keep K hKl (by omega) hvK];exact hKb
    have hb3:=hb.trans hw3.bel;have hs3:=hw3.bel.size;have hK3:K<w3.heap.size:=by omega
    have hbo3:=hw3.bo;clear hw3 hbo;go_wp2_with fail
    refine(qX7 W0.heap.size W0.heap.size v3 _ d2 w3 hbo3 hd2 (by have:=L1.out;simp only[List.length_append,List.length_cons,List.length_nil] at this ⊢;omega) (by omega)).mono ?_;rintro en w4 ⟨rfl,v4,hw4⟩
    have hv4:v4.ownBlock≠some K:=by
     intro e;rcases hw4.at' with h|⟨q,h,hq⟩
     · exact hv3 (by rw[←h];exact e)
     · rw[h] at e;have:=Option.some.inj e;omega
    have hk4:w4.heap[K]?=W2.heap[K]?:=by rw[hw4.keep K hK3 (by omega) hv3];exact hk3
    have hb4:=hb3.trans hw4.bel;have hs4:=hw4.bel.size;have hK4:K<w4.heap.size:=by omega
    have hbo4:BO W0.heap.size W0.heap.size v4 (120::(S.data.toList.take (k+1)).flatMap hexb) w4:=by
     rw[HSN.out];have:=hw4.bo;rw[List.append_assoc] at this;exact this
    clear hw4 hbo3;go_wp2_with fail
    go_roundw
    case rel=>exact⟨k+1,v4,by go_num,by omega,hbo4,hv4,hk4,hK4,hb4⟩
    case measure=>simp[RowKit.intOf];omega
  · have hli:¬(k:Int)<(S.size:Int):=by omega
    rw[List.take_of_length_le (by omega)] at hbo;have cs:=Tryz.Builder_String_any_k W0.heap.size W0.heap.size (120::S.data.toList.flatMap hexb) wr hbo.isF hb.size;have CS:=hh_ cs;clear cs hbo;go_wp2_with fail
    refine CS.out.mono ?_;rintro en w3 ⟨rfl,_,b3,_⟩;have bw:=(HRES.out _ (hb.trans b3)).2;go_wp2_with fail
    go_ret;exact⟨rfl,bw⟩
theorem qYl:(Tryz.prog.info? 5).map (fun i=>(i.zero,i.size,i.bytes))=some (some (.int .u8 0),1,1):=by kernel_rfl
theorem qQ5 (w:World) (e:TypeId) (c:Int):∀j u,(([c]:List Int).map (Value.int .u8))[j]?=some u→(w.alloc (.cells #[.int .u8 c] e)).cell? ((⟨w.heap.size,0,none⟩:Addr).add j)=some u:=by
 intro j u hj
 match j,hj with
 |0,hj=>
  simp at hj;subst hj;have hadd:(⟨w.heap.size,0,none⟩:Addr).add 0=⟨w.heap.size,0,none⟩:=by unfold Addr.add;simp
  rw[hadd,Lib.cell_of_heap (heap_alloc_new w _)];rfl
theorem qUk (S:ByteArray) (w:World) (hs:S.size≤100000) :
    Calls Tryz.prog 163 #[.string S] w fun e w'=>e=.returned (.agg #[.bool false,.int .i64 0,.string ⟨(qLg S.data.toList).toArray⟩])∧Below w.heap.size w w':=by
 obtain⟨i0,hi,hz0,hz1,hz2⟩:=info_parts qYl;obtain⟨R,hR⟩:∃R,qLg S.data.toList=R:=⟨_,rfl⟩;rw[hR];unfold qLg at hR;have cp:=fun w=>Tryz.strings_CutPrefix S ⟨#[120]⟩ w
 have hpl:(trimPrefix S.data.toList [120]).length≤S.size:=by
  have hl:S.data.toList.length=S.size:=by simp
  unfold trimPrefix;split
  · rw[List.length_drop];omega
  · omega
 rw[show(⟨#[120]⟩:ByteArray).data.toList=[120] from rfl] at cp;generalize trimPrefix S.data.toList [120]=P at *; generalize hasPrefix S.data.toList [120]=hp at *; have HR:=hh_ hR;have CP:=hh_ cp;clear hR cp;obtain⟨W0,hW0⟩:∃W0,w.alloc (.cells #[.bool false,.int .i64 0,.string ⟨#[]⟩] 43)=W0:=⟨_,rfl⟩;have hsz0:W0.heap.size=w.heap.size+1:=by rw[←hW0];simp
 have B0:Below w.heap.size w W0:=by rw[←hW0];exact(Below.refl _ w).alloc le_ _
 have res:∀w1,Below W0.heap.size W0 w1→Res3 w1 w.heap.size (.bool false) (.int .i64 0) (.string ⟨#[]⟩)∧Below w.heap.size w w1:=by
  intro w1 hb;refine⟨?_,B0.trans (hb.mono (by omega))⟩;subst hW0;exact qHj _ _ _ _ (hb.mono (by simp))
 have HRES:=hh_ res;have HW0:=hh_ hW0;clear res hsz0 hW0 B0;go_enter Tryz.func163,Tryz.ntmps163;go_wp2_with fail
 rw[HW0.out];refine(CP.out _).mono ?_;rintro en w1 ⟨rfl,hw1⟩;subst hw1;go_wp2_with fail
 go_loopw [0,3] (fun x v wr=> ∃(T:ByteArray) (acc:Bs),x=.string T∧T.size≤100000∧acc.length+T.size≤100000∧OwnB wr w1.heap.size 5 v acc∧Hid (acc++qG7 T.data.toList=R)∧Below w1.heap.size w1 wr) (fun x _ _=>match x with| .string T=>T.size|_=>0)
 case atStart=>exact⟨⟨P.toArray⟩,[],rfl,by rw[qMf];omega,by rw[qMf];simp;omega,OwnB.nil _ _ _,by show _=_;exact HR.out,Below.refl _ _⟩
 case round=>
  obtain⟨T,acc,rfl,hT,hal,hown,hR,hb⟩:=hrel;have hl:T.data.toList.length=T.size:=by simp
  by_cases hlt:1<T.size
  · have hli:(1:Int)<(T.size:Int):=by omega
    have hp0:(0:Int)<(T.size:Int):=by omega
    have hp0n:0<T.size:=by omega
    have g0:(T[0]'(by omega))=T.data.toList.getD 0 0:=qCy _ _ _;have g1:(T[1]'(by omega))=T.data.toList.getD 1 0:=qCy _ _ _
    obtain⟨a,b,t,ht⟩:∃a b t,T.data.toList=a::b::t:=by
     match h:T.data.toList with
     |[]=>rw[h] at hl;simp at hl;omega
     |[x]=>rw[h] at hl;simp at hl;omega
     |x::y::t=>exact⟨x,y,t,rfl⟩
    rw[ht] at g0 g1;have g0':((T[0]'(by omega)).toNat:Int)=(a.toNat:Int):=by rw[g0];rfl
    have g1':((T[1]'(by omega)).toNat:Int)=(b.toNat:Int):=by rw[g1];rfl
    have hr:=hR.out;rw[ht,qG7] at hr;have c1:=fun w=>Tryz.strings_IndexByte ⟨#[48,49,50,51,52,53,54,55,56,57,97,98,99,100,101,102]⟩ (a.toNat:Int) w
    have c2:=fun w=>Tryz.strings_IndexByte ⟨#[48,49,50,51,52,53,54,55,56,57,97,98,99,100,101,102]⟩ (b.toNat:Int) w
    rw[show(⟨#[48,49,50,51,52,53,54,55,56,57,97,98,99,100,101,102]⟩:ByteArray).data.toList=hexS from rfl] at c1 c2;rw[show((a.toNat:Int)).toNat.toUInt8=a by simp] at c1;rw[show((b.toNat:Int)).toNat.toUInt8=b by simp] at c2;have ba:=zBb a;have bb:=zBb b;have m1:max 0 (indexByte hexS a)=hx a:=rfl;have m2:max 0 (indexByte hexS b)=hx b:=rfl;generalize indexByte hexS a=ia at *; generalize indexByte hexS b=ib at *; generalize hx a=A at *; generalize hx b=B at *; have hrest:(T.extract 2 T.size).data.toList=t:=by rw[ext_list,List.take_of_length_le (by omega),ht];rfl
    have hrz:(T.extract 2 T.size).size=T.size-2:=by simp
    have v1:IntKind.i64.wrap (A*16)=A*16:=IntWalk.i64_in _ (by omega);have v2:=qW2 A B ba.1 (by omega) bb.1 bb.2;have v3:IntKind.u8.wrap (16*A+B)=16*A+B:=IntWalk.u8_in _ (by omega);have hns:∀x∈([16*A+B]:List Int),0≤x∧x<256:=by intro x hx;rw[List.mem_singleton] at hx;subst hx;omega
    have ownA:=(hown.drewN 1).alloc (.cells #[.int .u8 (16*A+B)] 5);have hbs:=hb.size;have BA:Below w1.heap.size w1 (wr.drew.alloc (.cells #[.int .u8 (16*A+B)] 5)):=(qAa hb 1).alloc hbs _;have hsA:=BA.size;have hnew:=qQ5 wr.drew 5 (16*A+B);have hlen:acc.length+1≤140737488355328:=by omega
    have C1:=hh_ c1;have C2:=hh_ c2;have HNS:=hh_ hns;have HOWN:=hh_ ownA;have HSA:=hh_ hsA;have HNEW:=hh_ hnew;have HLEN:=hh_ hlen;have HREST:=hh_ hrest;have HRZ:=hh_ hrz;have HRR:=hh_ hr;have HBA:=hh_ BA;have h2i:(2:Int)≤(T.size:Int):=by omega
    clear c1 c2 hns ownA hsA hnew hlen hrest hrz hr BA ht g0 g1 hR hown ba bb;go_wp2_with fail
    go_region_law (first|(refine qJm rfl _ _ 188 rfl w1.heap.size 5 i0 (.int .u8 0) Tryz.underlying188 hi hz0 hz1 hz2 rfl _ _ rfl HOWN.out ⟨wr.heap.size,0,none⟩ 1 1 rfl [16*A+B] rfl HNEW.out HNS.out HLEN.out HSA.out ?_;intro v' w2 own2 hg2)|(go_simp;(with_reducible refine(C1.out _).mono ?_);rintro e w' ⟨rfl,rfl⟩)|(go_simp;(with_reducible refine(C2.out _).mono ?_);rintro e w' ⟨rfl,rfl⟩))
    all_goals
     have B2:=HOWN.out.below HBA.out HSA.out hg2;have own3:OwnB w2 w1.heap.size 5 v' (acc++[(16*A+B).toNat.toUInt8]):=own2;clear own2 hg2;go_wp2_with fail
     go_roundw
     case rel=>exact⟨T.extract 2 T.size,acc++[(16*A+B).toNat.toUInt8],rfl,by rw[HRZ.out];omega,by rw[HRZ.out,List.length_append,List.length_singleton];omega,own3,by show _=_;rw[HREST.out,List.append_assoc];exact HRR.out,B2⟩
     case measure=>show(T.extract 2 T.size).size<T.size;rw[HRZ.out];omega
  · have hli:¬(1:Int)<(T.size:Int):=by omega
    have hr:=hR.out;rw[qH6 (by omega),List.append_nil] at hr;subst hr;have hcv:=qJf (P:=Tryz.prog) (src:=188) (dst:=9) Tryz.underlying188 Tryz.underlying5 Tryz.underlying9 hown;obtain⟨⟨c0,c1,c2,f0,f1,f2,hlt⟩,bw⟩:=HRES.out _ hb;go_wp2_with fail
    exact bodyPost_ret (v:=.agg #[.bool false,.int .i64 0,.string ⟨acc.toArray⟩]) (by simp[results,Tryz.results163,go_sem,c0,c1,c2]) rfl ⟨rfl,((bw.setCell le_ _).setCell le_ _).setCell le_ _⟩
end Go.Proofs.YtainiaighnjpfaaGreatDoor
namespace Go.Ms
end Go.Ms
namespace Go.Proofs.YtainiaighnjpfaaGreatDoor
open Go.RowKit Go.Ms Go.Lib
end Go.Proofs.YtainiaighnjpfaaGreatDoor
namespace Go.Ms
end Go.Ms
namespace Go.Proofs.YtainiaighnjpfaaGreatDoor
open Go.RowKit Go.Ms Go.Lib
end Go.Proofs.YtainiaighnjpfaaGreatDoor
