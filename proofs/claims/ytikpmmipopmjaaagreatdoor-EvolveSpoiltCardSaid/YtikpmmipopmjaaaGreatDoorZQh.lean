/- Cells: hex. Hex read: plain. Cells: hex read. Numbers of 64 bits: the sign's bit turned; bytes put behind. Cells: whole numbers' bits. Cells: whole numbers' bits taken off. -/
import Derived.Test.YtikpmmipopmjaaaGreatDoorZQf
import Derived.Test.YtikpmmipopmjaaaGreatDoorZQg
import Derived.Lib.ConvBytes
import Derived.Lib.Bytealg
import Derived.Lib.Strings
import Derived.Test.YtikpmmipopmjaaaGreatDoorZQc
import Derived.Laws.BitsAllLaws
import Derived.Laws.Bits64
import Derived.IntWalk
set_option linter.unusedVariables false
namespace Go.Proofs.YtikpmmipopmjaaaGreatDoor
open Go.RowKit Go.Ms Go.Lib
set_option maxRecDepth 100000 in
theorem zBw:∀k:Fin 256,bits .and .u8 ((k.val:Nat):Int) 15=((k.val%16:Nat):Int):=by decide
set_option maxRecDepth 100000 in
theorem qWg:∀k:Fin 256,hexb k.val.toUInt8=[(lowD (k.val/16)).toNat.toUInt8,(lowD (k.val%16)).toNat.toUInt8]:=by decide
theorem qTn:∀k:Fin 16,0≤lowD k.val∧lowD k.val<256:=by decide
theorem qYh (l:Bs) (k:Nat) (h:k<l.length):(l.take (k+1)).flatMap hexb=(l.take k).flatMap hexb++hexb l[k]:=by
 rw[List.take_succ_eq_append_getElem h,List.flatMap_append];simp
theorem zAr (l:Bs):(l.flatMap hexb).length=2*l.length:=by
 induction l with
 |nil=>rfl
 |cons c t ih=>rw[List.flatMap_cons,List.length_append,ih,List.length_cons];simp[hexb];omega
set_option maxRecDepth 100000 in
set_option maxHeartbeats 4000000 in
theorem qZ4 (n:Int) (nu:Bool) (S:ByteArray) (w:World) (hs:S.size≤100000) :
    Calls Tryz.prog 137 #[.agg #[.bool nu,.int .i64 n,.string S]] w fun e w'=>e=.returned (.string ⟨(hexD S.data.toList).toArray⟩)∧Below w.heap.size w w':=by
 have hl:S.data.toList.length=S.size:=by simp
 have kb:=fun (w:World)=>Lib.run_convert_string_bytes (P:=Tryz.prog) w 9 92 5 S Tryz.underlying9 Tryz.underlying92 Tryz.underlying5
 obtain⟨W0,hW0⟩:∃W0,w.alloc (.cells #[.bool nu,.int .i64 n,.string S] 57)=W0:=⟨_,rfl⟩
 have hsz0:W0.heap.size=w.heap.size+1:=by rw[←hW0];simp
 have B0:Below w.heap.size w W0:=by rw[←hW0];exact(Below.refl _ w).alloc (Nat.le_refl _) _
 have res:∀w1,Below W0.heap.size W0 w1→Res3 w1 w.heap.size (.bool nu) (.int .i64 n) (.string S)∧Below w.heap.size w w1:=by
  intro w1 hb
  refine⟨?_,B0.trans (hb.mono (by omega))⟩;subst hW0;exact qH1 _ _ _ _ (hb.mono (by simp))
 have cw:=qP5 ⟨#[120]⟩ W0 (by decide) (by decide);have CW:=Lib.hid cw;have HRES:=Lib.hid res;have HW0:=Lib.hid hW0;have HSZ:=Lib.hid hsz0;clear res cw hsz0 hW0
 go_enter Tryz.func137,Tryz.ntmps137
 go_wp2_with fail
 rw[HW0.out,←HSZ.out];refine CW.out.mono ?_;rintro en w1 ⟨rfl,v,hbo,hb1⟩;obtain⟨⟨c0,c1,c2,f0,f1,f2,hlt⟩,bw⟩:=HRES.out _ hb1
 have hK:w1.heap.size<(Lib.bytesWorld w1 5 S).heap.size:=by rw[Lib.bytesWorld_size];omega
 have hbb:=Joins.below_bytesWorld w1.heap.size w1 5 S (Nat.le_refl _)
 have hvK:v.ownBlock≠some w1.heap.size:=by
  intro e
  have:=(World.ownsRow.lt hbo.own _ e).2;omega
 have hcells:∀j,j<S.size→(Lib.bytesWorld w1 5 S).cell? ⟨w1.heap.size,j,none⟩=some (.int .u8 ((bt S.data.toList j:Nat):Int)):=fun j hj=>Lib.bytesWorld_cell w1 5 S j hj
 have hbo2:=hbo.kept hbb;have hB2:=hb1.trans (hbb.mono hb1.size);have hbz:W0.heap.size<w1.heap.size:=hbo.lt;have HC:=Lib.hid hcells;clear hcells hbb hbo
 go_wp2_with fail
 obtain⟨K,hKe⟩:∃K,w1.heap.size=K:=⟨_,rfl⟩;obtain⟨W2,hW2⟩:∃W2,Lib.bytesWorld w1 5 S=W2:=⟨_,rfl⟩;rw[hKe,hW2] at hK HC;rw[hKe] at hvK hbz;rw[hW2] at hbo2 hB2;rw[hKe,hW2];clear hKe hW2 hb1 c0 c1 c2 f0 f1 f2 hlt bw
 go_loopw [11] (fun i wr=> ∃(k:Nat) (v:Value),i=.int .i64 k∧k≤S.size∧BO W0.heap.size W0.heap.size v (120::(S.data.toList.take k).flatMap hexb) wr∧v.ownBlock≠some K∧wr.heap[K]?=W2.heap[K]?∧K<wr.heap.size∧Below W0.heap.size W0 wr) (fun i _=>S.size-(RowKit.intOf i).toNat)
 case atStart=>exact⟨0,v,rfl,by omega,hbo2,hvK,rfl,hK,hB2⟩
 case round=>
  obtain⟨k,v,rfl,hk,hbo,hvK,hKb,hKl,hb⟩:=hrel
  by_cases hlt:k<S.size
  · have hli:(k:Int)<(S.size:Int):=by omega
    have hck:=HC.out k hlt;rw[←World.cell?_of_block (a:=⟨K,k,none⟩) hKb] at hck;have hsn:=qYh S.data.toList k (by omega)
    have hbe:bt S.data.toList k=(S.data.toList[k]'(by omega)).toNat:=by simp[bt,List.getD_eq_getElem?_getD,hlt]
    have hhb:=qWg ⟨bt S.data.toList k,qEv _ _⟩;have hx:=qEv S.data.toList k;have hll:=zAr (S.data.toList.take k);rw[List.length_take] at hll;simp only at hhb;rw[hbe] at hhb;rw[show((S.data.toList[k]'(by omega)).toNat).toUInt8=S.data.toList[k]'(by omega) by simp] at hhb;rw[hhb,←hbe] at hsn;clear hhb hbe
    generalize bt S.data.toList k=x at *
    have hd1:=qTn ⟨x/16,by omega⟩;have hd2:=qTn ⟨x%16,by omega⟩;have g1:=qY2 ⟨x/16,by omega⟩;have g2:=qY2 ⟨x%16,by omega⟩;simp only at hd1 hd2 g1 g2
    generalize lowD (x/16)=d1 at *
    generalize lowD (x%16)=d2 at *
    have a15:=zBw ⟨x,hx⟩;simp only at a15;have HSN:=Lib.hid hsn;have HLL:=Lib.hid hll;clear hsn hll;have hbs:=hb.size;have hz0:W0.heap.size≤wr.heap.size:=hbs
    have L1:Hid ((120::(S.data.toList.take k).flatMap hexb).length+2≤140737488355328):=by show _≤_;rw[List.length_cons,HLL.out];omega
    go_wp2_with fail
    refine(qY3 W0.heap.size W0.heap.size v _ d1 wr hbo hd1 (by have:=L1.out;omega) hz0).mono ?_;rintro en w3 ⟨rfl,v3,hw3⟩
    have hv3:v3.ownBlock≠some K:=by
     intro e
     rcases hw3.at' with h|⟨q,h,hq⟩
     · exact hvK (by rw[←h];exact e)
     · rw[h] at e;have:=Option.some.inj e;omega
    have hk3:w3.heap[K]?=W2.heap[K]?:=by rw[hw3.keep K hKl (by omega) hvK];exact hKb
    have hb3:=hb.trans hw3.bel;have hs3:=hw3.bel.size
    have hK3:K<w3.heap.size:=by omega
    have hbo3:=hw3.bo;clear hw3 hbo
    go_wp2_with fail
    refine(qY3 W0.heap.size W0.heap.size v3 _ d2 w3 hbo3 hd2 (by have:=L1.out;simp only[List.length_append,List.length_cons,List.length_nil] at this ⊢;omega) (by omega)).mono ?_;rintro en w4 ⟨rfl,v4,hw4⟩
    have hv4:v4.ownBlock≠some K:=by
     intro e
     rcases hw4.at' with h|⟨q,h,hq⟩
     · exact hv3 (by rw[←h];exact e)
     · rw[h] at e;have:=Option.some.inj e;omega
    have hk4:w4.heap[K]?=W2.heap[K]?:=by rw[hw4.keep K hK3 (by omega) hv3];exact hk3
    have hb4:=hb3.trans hw4.bel;have hs4:=hw4.bel.size
    have hK4:K<w4.heap.size:=by omega
    have hbo4:BO W0.heap.size W0.heap.size v4 (120::(S.data.toList.take (k+1)).flatMap hexb) w4:=by
     rw[HSN.out];have:=hw4.bo;rw[List.append_assoc] at this;exact this
    clear hw4 hbo3
    go_wp2_with fail
    go_roundw
    case rel=>exact⟨k+1,v4,by go_num,by omega,hbo4,hv4,hk4,hK4,hb4⟩
    case measure=>simp[RowKit.intOf];omega
  · have hli:¬(k:Int)<(S.size:Int):=by omega
    rw[List.take_of_length_le (by omega)] at hbo;have cs:=Tryz.Builder_String_any_k W0.heap.size W0.heap.size (120::S.data.toList.flatMap hexb) wr hbo.isF hb.size;have CS:=Lib.hid cs;clear cs hbo
    go_wp2_with fail
    refine CS.out.mono ?_;rintro en w3 ⟨rfl,_,b3,_⟩;have bw:=(HRES.out _ (hb.trans b3)).2
    go_wp2_with fail
    go_ret
    exact⟨rfl,bw⟩
end Go.Proofs.YtikpmmipopmjaaaGreatDoor
namespace Go.Ms
open Go.Lib
def hexS:Bs:=[48,49,50,51,52,53,54,55,56,57,97,98,99,100,101,102]
def hx (c:UInt8):Int:=max 0 (indexByte hexS c)
theorem zA8:∀c:Fin 256,0≤hx c.val.toUInt8∧hx c.val.toUInt8<16:=by decide +kernel
theorem zCe (c:UInt8):0≤hx c∧hx c<16:=by
 have:=zA8 ⟨c.toNat,UInt8.toNat_lt c⟩
 simpa using this
def qH3:Bs→Bs
  |a::b::t=>(16*hx a+hx b).toNat.toUInt8::qH3 t
  |_=>[]
def qMg (l:Bs):Bs:=qH3 (trimPrefix l [120])
theorem qIx {l:Bs} (h:l.length≤1):qH3 l=[]:=by
 match l,h with
 |[],_=>rfl
 |[a],_=>rfl
end Go.Ms
namespace Go.Proofs.YtikpmmipopmjaaaGreatDoor
open Go.RowKit Go.Ms Go.Lib
theorem qZ0:(Tryz.prog.info? 5).map (fun i=>(i.zero,i.size,i.bytes))=some (some (.int .u8 0),1,1):=by kernel_rfl
theorem qS7 (w:World) (e:TypeId) (c:Int):∀j u,(([c]:List Int).map (Value.int .u8))[j]?=some u→(w.alloc (.cells #[.int .u8 c] e)).cell? ((⟨w.heap.size,0,none⟩:Addr).add j)=some u:=by
 intro j u hj
 match j,hj with
 |0,hj=>
  simp at hj
  subst hj
  have hadd:(⟨w.heap.size,0,none⟩:Addr).add 0=⟨w.heap.size,0,none⟩:=by unfold Addr.add;simp
  rw[hadd,Lib.cell_of_heap (heap_alloc_new w _)];rfl
set_option maxRecDepth 100000 in
set_option maxHeartbeats 4000000 in
theorem qVb (S:ByteArray) (w:World) (hs:S.size≤100000) :
    Calls Tryz.prog 138 #[.string S] w fun e w'=>e=.returned (.agg #[.bool false,.int .i64 0,.string ⟨(qMg S.data.toList).toArray⟩])∧Below w.heap.size w w':=by
 obtain⟨i0,hi,hz0,hz1,hz2⟩:=info_parts qZ0;obtain⟨R,hR⟩:∃R,qMg S.data.toList=R:=⟨_,rfl⟩;rw[hR];unfold qMg at hR
 have cp:=fun w=>Tryz.strings_CutPrefix S ⟨#[120]⟩ w
 have hpl:(trimPrefix S.data.toList [120]).length≤S.size:=by
  have hl:S.data.toList.length=S.size:=by simp
  unfold trimPrefix
  split
  · rw[List.length_drop];omega
  · omega
 rw[show(⟨#[120]⟩:ByteArray).data.toList=[120] from rfl] at cp
 generalize trimPrefix S.data.toList [120]=P at *
 generalize hasPrefix S.data.toList [120]=hp at *
 have HR:=Lib.hid hR;have CP:=Lib.hid cp;clear hR cp;obtain⟨W0,hW0⟩:∃W0,w.alloc (.cells #[.bool false,.int .i64 0,.string ⟨#[]⟩] 57)=W0:=⟨_,rfl⟩
 have hsz0:W0.heap.size=w.heap.size+1:=by rw[←hW0];simp
 have B0:Below w.heap.size w W0:=by rw[←hW0];exact(Below.refl _ w).alloc (Nat.le_refl _) _
 have res:∀w1,Below W0.heap.size W0 w1→Res3 w1 w.heap.size (.bool false) (.int .i64 0) (.string ⟨#[]⟩)∧Below w.heap.size w w1:=by
  intro w1 hb
  refine⟨?_,B0.trans (hb.mono (by omega))⟩;subst hW0;exact qH1 _ _ _ _ (hb.mono (by simp))
 have HRES:=Lib.hid res;have HW0:=Lib.hid hW0;clear res hsz0 hW0 B0
 go_enter Tryz.func138,Tryz.ntmps138
 go_wp2_with fail
 rw[HW0.out];refine(CP.out _).mono ?_;rintro en w1 ⟨rfl,hw1⟩;subst hw1
 go_wp2_with fail
 go_loopw [0,3] (fun x v wr=> ∃(T:ByteArray) (acc:Bs),x=.string T∧T.size≤100000∧acc.length+T.size≤100000∧OwnB wr w1.heap.size 5 v acc∧Hid (acc++qH3 T.data.toList=R)∧Below w1.heap.size w1 wr) (fun x _ _=>match x with| .string T=>T.size|_=>0)
 case atStart=>exact⟨⟨P.toArray⟩,[],rfl,by rw[qM0];omega,by rw[qM0];simp;omega,OwnB.nil _ _ _,by show _=_;exact HR.out,Below.refl _ _⟩
 case round=>
  obtain⟨T,acc,rfl,hT,hal,hown,hR,hb⟩:=hrel
  have hl:T.data.toList.length=T.size:=by simp
  by_cases hlt:1<T.size
  · have hli:(1:Int)<(T.size:Int):=by omega
    have hp0:(0:Int)<(T.size:Int):=by omega
    have hp0n:0<T.size:=by omega
    have g0:(T[0]'(by omega))=T.data.toList.getD 0 0:=qDg _ _ _;have g1:(T[1]'(by omega))=T.data.toList.getD 1 0:=qDg _ _ _
    obtain⟨a,b,t,ht⟩:∃a b t,T.data.toList=a::b::t:=by
     match h:T.data.toList with
     |[]=>rw[h] at hl;simp at hl;omega
     |[x]=>rw[h] at hl;simp at hl;omega
     |x::y::t=>exact⟨x,y,t,rfl⟩
    rw[ht] at g0 g1
    have g0':((T[0]'(by omega)).toNat:Int)=(a.toNat:Int):=by rw[g0];rfl
    have g1':((T[1]'(by omega)).toNat:Int)=(b.toNat:Int):=by rw[g1];rfl
    have hr:=hR.out;rw[ht,qH3] at hr
    have c1:=fun w=>Tryz.strings_IndexByte ⟨#[48,49,50,51,52,53,54,55,56,57,97,98,99,100,101,102]⟩ (a.toNat:Int) w
    have c2:=fun w=>Tryz.strings_IndexByte ⟨#[48,49,50,51,52,53,54,55,56,57,97,98,99,100,101,102]⟩ (b.toNat:Int) w
    rw[show(⟨#[48,49,50,51,52,53,54,55,56,57,97,98,99,100,101,102]⟩:ByteArray).data.toList=hexS from rfl] at c1 c2;rw[show((a.toNat:Int)).toNat.toUInt8=a by simp] at c1;rw[show((b.toNat:Int)).toNat.toUInt8=b by simp] at c2;have ba:=zCe a;have bb:=zCe b;have m1:max 0 (indexByte hexS a)=hx a:=rfl;have m2:max 0 (indexByte hexS b)=hx b:=rfl
    generalize indexByte hexS a=ia at *
    generalize indexByte hexS b=ib at *
    generalize hx a=A at *
    generalize hx b=B at *
    have hrest:(T.extract 2 T.size).data.toList=t:=by rw[ext_list,List.take_of_length_le (by omega),ht];rfl
    have hrz:(T.extract 2 T.size).size=T.size-2:=by simp
    have v1:IntKind.i64.wrap (A*16)=A*16:=IntWalk.i64_in _ (by omega);have v2:=qXg A B ba.1 (by omega) bb.1 bb.2;have v3:IntKind.u8.wrap (16*A+B)=16*A+B:=IntWalk.u8_in _ (by omega)
    have hns:∀x∈([16*A+B]:List Int),0≤x∧x<256:=by intro x hx;rw[List.mem_singleton] at hx;subst hx;omega
    have ownA:=(hown.drewN 1).alloc (.cells #[.int .u8 (16*A+B)] 5);have hbs:=hb.size;have BA:Below w1.heap.size w1 (wr.drew.alloc (.cells #[.int .u8 (16*A+B)] 5)):=(qAc hb 1).alloc hbs _;have hsA:=BA.size;have hnew:=qS7 wr.drew 5 (16*A+B)
    have hlen:acc.length+1≤140737488355328:=by omega
    have C1:=Lib.hid c1;have C2:=Lib.hid c2;have HNS:=Lib.hid hns;have HOWN:=Lib.hid ownA;have HSA:=Lib.hid hsA;have HNEW:=Lib.hid hnew;have HLEN:=Lib.hid hlen
    have HREST:=Lib.hid hrest;have HRZ:=Lib.hid hrz;have HRR:=Lib.hid hr;have HBA:=Lib.hid BA
    have h2i:(2:Int)≤(T.size:Int):=by omega
    clear c1 c2 hns ownA hsA hnew hlen hrest hrz hr BA ht g0 g1 hR hown ba bb
    go_wp2_with fail
    go_region_law (first|(refine qKv rfl _ _ 92 rfl w1.heap.size 5 i0 (.int .u8 0) Tryz.underlying92 hi hz0 hz1 hz2 rfl _ _ rfl HOWN.out ⟨wr.heap.size,0,none⟩ 1 1 rfl [16*A+B] rfl HNEW.out HNS.out HLEN.out HSA.out ?_;intro v' w2 own2 hg2)|(go_simp;(with_reducible refine(C1.out _).mono ?_);rintro e w' ⟨rfl,rfl⟩)|(go_simp;(with_reducible refine(C2.out _).mono ?_);rintro e w' ⟨rfl,rfl⟩))
    all_goals
     have B2:=HOWN.out.below HBA.out HSA.out hg2;have own3:OwnB w2 w1.heap.size 5 v' (acc++[(16*A+B).toNat.toUInt8]):=own2;clear own2 hg2
     go_wp2_with fail
     go_roundw
     case rel=>exact⟨T.extract 2 T.size,acc++[(16*A+B).toNat.toUInt8],rfl,by rw[HRZ.out];omega,by rw[HRZ.out,List.length_append,List.length_singleton];omega,own3,by show _=_;rw[HREST.out,List.append_assoc];exact HRR.out,B2⟩
     case measure=>show(T.extract 2 T.size).size<T.size;rw[HRZ.out];omega
  · have hli:¬(1:Int)<(T.size:Int):=by omega
    have hr:=hR.out;rw[qIx (by omega),List.append_nil] at hr;subst hr;have hcv:=qJ4 (P:=Tryz.prog) (src:=92) (dst:=9) Tryz.underlying92 Tryz.underlying5 Tryz.underlying9 hown;obtain⟨⟨c0,c1,c2,f0,f1,f2,hlt⟩,bw⟩:=HRES.out _ hb
    go_wp2_with fail
    exact bodyPost_ret (v:=.agg #[.bool false,.int .i64 0,.string ⟨acc.toArray⟩]) (by simp[results,Tryz.results138,go_sem,c0,c1,c2]) rfl ⟨rfl,((bw.setCell (Nat.le_refl _) _).setCell (Nat.le_refl _) _).setCell (Nat.le_refl _) _⟩
end Go.Proofs.YtikpmmipopmjaaaGreatDoor
namespace Go.Ms
end Go.Ms
namespace Go.Proofs.YtikpmmipopmjaaaGreatDoor
open Go.RowKit Go.Ms Go.Lib
end Go.Proofs.YtikpmmipopmjaaaGreatDoor
namespace Go.Ms
end Go.Ms
namespace Go.Proofs.YtikpmmipopmjaaaGreatDoor
open Go.RowKit Go.Ms Go.Lib
end Go.Proofs.YtikpmmipopmjaaaGreatDoor
