/- Facts for the walks. -/
import Derived.Test.YtainiaighnjpfaaGreatDoorZQe
import Derived.Maps.RangeWalk
set_option maxHeartbeats 4000000
set_option linter.unusedVariables false
namespace Go.Proofs.YtainiaighnjpfaaGreatDoor
open Go.RowKit Go.Ms Go.Lib
theorem zAp (a b:Nat) (ha:a<9223372036854775808) (hb:b<9223372036854775808) :
    bits .or .i64 (a:Int) (b:Int)=((a ||| b:Nat):Int):=by
 have hx:a ||| b<2^63:=Nat.or_lt_two_pow (by omega) (by omega)
 have h1:(BitVec.ofInt 64 (a:Int)).toNat=a:=by
  rw[BitVec.ofInt_natCast,BitVec.toNat_ofNat];exact Nat.mod_eq_of_lt (by omega)
 have h2:(BitVec.ofInt 64 (b:Int)).toNat=b:=by
  rw[BitVec.ofInt_natCast,BitVec.toNat_ofNat];exact Nat.mod_eq_of_lt (by omega)
 show IntKind.i64.wrap ((BitVec.ofInt 64 (a:Int) ||| BitVec.ofInt 64 (b:Int)).toNat:Int)=_
 rw[BitVec.toNat_or,h1,h2,IntKind.wrap_i64];omega
theorem qW2 (n d:Int) (h0:0≤n) (h1:n<65536) (h2:0≤d) (h3:d<16):bits .or .i64 (n*16) d=16*n+d:=by
 obtain⟨a,rfl⟩:=Int.eq_ofNat_of_zero_le h0;obtain⟨b,rfl⟩:=Int.eq_ofNat_of_zero_le h2;have e:((a:Int)*(16:Int))=((a <<< 4:Nat):Int):=by rw[Nat.shiftLeft_eq];omega
 rw[e,zAp _ _ (by rw[Nat.shiftLeft_eq];omega) (by omega),←Nat.shiftLeft_add_eq_or_of_lt (by omega:b<2^4),Nat.shiftLeft_eq];simp;omega
theorem qTg (b:Nat) (s:ByteArray) (second:Bool) (n0 n1 n2 n3 e0 E0 e1 E1 e2 e3:Int) (p0 p1 p2 p3:Nat) (w:World)
    (b0:0≤n0∧n0<16) (b1:0≤n1∧n1<16) (b2:0≤n2∧n2<16) (b3:0≤n3∧n3<16)
    (c0:Calls Tryz.prog 259 #[.pointer (some ⟨b,0,none⟩)] w (RdP 263 b s p0 e0 (.int .i64 n0) w))
    (c1:∀w,Tri 263 b (.string s) (.int .i64 p0) (.int .i64 E0) w→Calls Tryz.prog 259 #[.pointer (some ⟨b,0,none⟩)] w (RdP 263 b s p1 e1 (.int .i64 n1) w))
    (c2:∀w,Tri 263 b (.string s) (.int .i64 p1) (.int .i64 E1) w→Calls Tryz.prog 259 #[.pointer (some ⟨b,0,none⟩)] w (RdP 263 b s p2 e2 (.int .i64 n2) w))
    (c3:∀w,Tri 263 b (.string s) (.int .i64 p2) (.int .i64 e2) w→Calls Tryz.prog 259 #[.pointer (some ⟨b,0,none⟩)] w (RdP 263 b s p3 e3 (.int .i64 n3) w))
    (hE0:E0=if second=true∧¬n0=13 then qCa e0 41 else e0)
    (hE1:E1=if second=decide (220≤16*n0+n1∧16*n0+n1≤223) then e1 else qCa e1 41) :
    Calls Tryz.prog 248 #[.pointer (some ⟨b,0,none⟩),.bool second] w (RdP 263 b s p3 e3 (.int .i32 (16*(16*(16*n0+n1)+n2)+n3)) w):=by
 have o1:=qW2 n0 n1 b0.1 (by omega) b1.1 b1.2;have o2:=qW2 (16*n0+n1) n2 (by omega) (by omega) b2.1 b2.2;have o3:=qW2 (16*(16*n0+n1)+n2) n3 (by omega) (by omega) b3.1 b3.2;obtain⟨b00,b01⟩:=b0;obtain⟨b10,b11⟩:=b1;obtain⟨b20,b21⟩:=b2;obtain⟨b30,b31⟩:=b3;have C1:=hh_ c1;have C2:=hh_ c2;have C3:=hh_ c3;clear c1 c2 c3;cases second
 · rw[if_neg (by simp)] at hE0;subst hE0;by_cases hr1:220≤16*n0+n1
   · by_cases hr2:16*n0+n1≤223
     · have q2:decide (16*n0+n1≤223)=true:=by simpa using hr2
       rw[if_neg (by simp[hr1,hr2])] at hE1;subst hE1;go_enter Tryz.func248,Tryz.ntmps248;go_wp2_with fail
       refine c0.mono ?_;rintro en w1 ⟨rfl,t1,k1⟩;go_wp2_with fail
       refine(C1.out _ t1).mono ?_;rintro en w3 ⟨rfl,t3,k3⟩;go_wp2_with fail
       refine(qBq b s _ _ 41 _ t3).mono ?_;rintro en w4 ⟨rfl,t3,k4⟩;go_wp2_with fail
       refine(C2.out _ t3).mono ?_;rintro en w5 ⟨rfl,t5,k5⟩;go_wp2_with fail
       refine(C3.out _ t5).mono ?_;rintro en w6 ⟨rfl,t6,k6⟩;go_wp2_with fail
       go_ret;exact⟨rfl,t6,((((k1.trans k3).trans k4).trans k5).trans k6)⟩
     · have q2:decide (16*n0+n1≤223)=false:=by simpa using hr2
       rw[if_pos (by simp[hr2])] at hE1;subst hE1;go_enter Tryz.func248,Tryz.ntmps248;go_wp2_with fail
       refine c0.mono ?_;rintro en w1 ⟨rfl,t1,k1⟩;go_wp2_with fail
       refine(C1.out _ t1).mono ?_;rintro en w3 ⟨rfl,t3,k3⟩;go_wp2_with fail
       refine(C2.out _ t3).mono ?_;rintro en w5 ⟨rfl,t5,k5⟩;go_wp2_with fail
       refine(C3.out _ t5).mono ?_;rintro en w6 ⟨rfl,t6,k6⟩;go_wp2_with fail
       go_ret;exact⟨rfl,t6,(((k1.trans k3).trans k5).trans k6)⟩
   · rw[if_pos (by simp[hr1])] at hE1;subst hE1;go_enter Tryz.func248,Tryz.ntmps248;go_wp2_with fail
     refine c0.mono ?_;rintro en w1 ⟨rfl,t1,k1⟩;go_wp2_with fail
     refine(C1.out _ t1).mono ?_;rintro en w3 ⟨rfl,t3,k3⟩;go_wp2_with fail
     refine(C2.out _ t3).mono ?_;rintro en w5 ⟨rfl,t5,k5⟩;go_wp2_with fail
     refine(C3.out _ t5).mono ?_;rintro en w6 ⟨rfl,t6,k6⟩;go_wp2_with fail
     go_ret;exact⟨rfl,t6,(((k1.trans k3).trans k5).trans k6)⟩
 · by_cases h13:n0=13
   · rw[if_neg (by simp[h13])] at hE0;subst hE0;have h13b:(n0 != 13)=false:=by simpa using h13
     have h13c:(n0==13)=true:=by simpa using h13
     clear h13;by_cases hr1:220≤16*n0+n1
     · by_cases hr2:16*n0+n1≤223
       · have q2:decide (16*n0+n1≤223)=true:=by simpa using hr2
         rw[if_pos (by simp[hr1,hr2])] at hE1;subst hE1;go_enter Tryz.func248,Tryz.ntmps248;go_wp2_with fail
         refine c0.mono ?_;rintro en w1 ⟨rfl,t1,k1⟩;go_wp2_with fail
         refine(C1.out _ t1).mono ?_;rintro en w3 ⟨rfl,t3,k3⟩;go_wp2_with fail
         refine(C2.out _ t3).mono ?_;rintro en w5 ⟨rfl,t5,k5⟩;go_wp2_with fail
         refine(C3.out _ t5).mono ?_;rintro en w6 ⟨rfl,t6,k6⟩;go_wp2_with fail
         go_ret;exact⟨rfl,t6,(((k1.trans k3).trans k5).trans k6)⟩
       · have q2:decide (16*n0+n1≤223)=false:=by simpa using hr2
         rw[if_neg (by simp[hr2])] at hE1;subst hE1;go_enter Tryz.func248,Tryz.ntmps248;go_wp2_with fail
         refine c0.mono ?_;rintro en w1 ⟨rfl,t1,k1⟩;go_wp2_with fail
         refine(C1.out _ t1).mono ?_;rintro en w3 ⟨rfl,t3,k3⟩;go_wp2_with fail
         refine(qBq b s _ _ 41 _ t3).mono ?_;rintro en w4 ⟨rfl,t3,k4⟩;go_wp2_with fail
         refine(C2.out _ t3).mono ?_;rintro en w5 ⟨rfl,t5,k5⟩;go_wp2_with fail
         refine(C3.out _ t5).mono ?_;rintro en w6 ⟨rfl,t6,k6⟩;go_wp2_with fail
         go_ret;exact⟨rfl,t6,((((k1.trans k3).trans k4).trans k5).trans k6)⟩
     · rw[if_neg (by simp[hr1])] at hE1;subst hE1;go_enter Tryz.func248,Tryz.ntmps248;go_wp2_with fail
       refine c0.mono ?_;rintro en w1 ⟨rfl,t1,k1⟩;go_wp2_with fail
       refine(C1.out _ t1).mono ?_;rintro en w3 ⟨rfl,t3,k3⟩;go_wp2_with fail
       refine(qBq b s _ _ 41 _ t3).mono ?_;rintro en w4 ⟨rfl,t3,k4⟩;go_wp2_with fail
       refine(C2.out _ t3).mono ?_;rintro en w5 ⟨rfl,t5,k5⟩;go_wp2_with fail
       refine(C3.out _ t5).mono ?_;rintro en w6 ⟨rfl,t6,k6⟩;go_wp2_with fail
       go_ret;exact⟨rfl,t6,((((k1.trans k3).trans k4).trans k5).trans k6)⟩
   · rw[if_pos ⟨rfl,h13⟩] at hE0;subst hE0;have h13b:(n0 != 13)=true:=by simpa using h13
     have h13c:(n0==13)=false:=by simpa using h13
     by_cases hr1:220≤16*n0+n1
     · by_cases hr2:16*n0+n1≤223
       · have q2:decide (16*n0+n1≤223)=true:=by simpa using hr2
         rw[if_pos (by simp[hr1,hr2])] at hE1;subst hE1;go_enter Tryz.func248,Tryz.ntmps248;go_wp2_with fail
         refine c0.mono ?_;rintro en w1 ⟨rfl,t1,k1⟩;go_wp2_with fail
         refine(qBq b s _ _ 41 _ t1).mono ?_;rintro en w2 ⟨rfl,t1,k2⟩;go_wp2_with fail
         refine(C1.out _ t1).mono ?_;rintro en w3 ⟨rfl,t3,k3⟩;go_wp2_with fail
         refine(C2.out _ t3).mono ?_;rintro en w5 ⟨rfl,t5,k5⟩;go_wp2_with fail
         refine(C3.out _ t5).mono ?_;rintro en w6 ⟨rfl,t6,k6⟩;go_wp2_with fail
         go_ret;exact⟨rfl,t6,((((k1.trans k2).trans k3).trans k5).trans k6)⟩
       · have q2:decide (16*n0+n1≤223)=false:=by simpa using hr2
         rw[if_neg (by simp[hr2])] at hE1;subst hE1;go_enter Tryz.func248,Tryz.ntmps248;go_wp2_with fail
         refine c0.mono ?_;rintro en w1 ⟨rfl,t1,k1⟩;go_wp2_with fail
         refine(qBq b s _ _ 41 _ t1).mono ?_;rintro en w2 ⟨rfl,t1,k2⟩;go_wp2_with fail
         refine(C1.out _ t1).mono ?_;rintro en w3 ⟨rfl,t3,k3⟩;go_wp2_with fail
         refine(qBq b s _ _ 41 _ t3).mono ?_;rintro en w4 ⟨rfl,t3,k4⟩;go_wp2_with fail
         refine(C2.out _ t3).mono ?_;rintro en w5 ⟨rfl,t5,k5⟩;go_wp2_with fail
         refine(C3.out _ t5).mono ?_;rintro en w6 ⟨rfl,t6,k6⟩;go_wp2_with fail
         go_ret;exact⟨rfl,t6,(((((k1.trans k2).trans k3).trans k4).trans k5).trans k6)⟩
     · rw[if_neg (by simp[hr1])] at hE1;subst hE1;go_enter Tryz.func248,Tryz.ntmps248;go_wp2_with fail
       refine c0.mono ?_;rintro en w1 ⟨rfl,t1,k1⟩;go_wp2_with fail
       refine(qBq b s _ _ 41 _ t1).mono ?_;rintro en w2 ⟨rfl,t1,k2⟩;go_wp2_with fail
       refine(C1.out _ t1).mono ?_;rintro en w3 ⟨rfl,t3,k3⟩;go_wp2_with fail
       refine(qBq b s _ _ 41 _ t3).mono ?_;rintro en w4 ⟨rfl,t3,k4⟩;go_wp2_with fail
       refine(C2.out _ t3).mono ?_;rintro en w5 ⟨rfl,t5,k5⟩;go_wp2_with fail
       refine(C3.out _ t5).mono ?_;rintro en w6 ⟨rfl,t6,k6⟩;go_wp2_with fail
       go_ret;exact⟨rfl,t6,(((((k1.trans k2).trans k3).trans k4).trans k5).trans k6)⟩
theorem qPc (b:Nat) (s:ByteArray) (second:Bool) (p:Nat) (e:Int) (w:World) (hp:p≤s.size) (hs:s.size≤1000000) (h:Tri 263 b (.string s) (.int .i64 p) (.int .i64 e) w) :
    Calls Tryz.prog 248 #[.pointer (some ⟨b,0,none⟩),.bool second] w (RdP 263 b s (qBj s.data.toList second p e).2.1 (qBj s.data.toList second p e).2.2 (.int .i32 (qBj s.data.toList second p e).1) w):=by
 have hl:s.data.toList.length=s.size:=by simp
 have l0:=qZ8 s.data.toList second p e (by omega);have l1:=zAc s.data.toList second p e (by omega);have l2:=zBn s.data.toList second p e (by omega)
 exact qTg b s second _ _ _ _ _ _ _ _ _ _ _ _ _ _ w (qCn s.data.toList p e) (qCn s.data.toList (h0 s.data.toList second p e).2.1 (h0 s.data.toList second p e).2.2)
   (qCn s.data.toList (h1 s.data.toList second p e).2.1 (h1 s.data.toList second p e).2.2) (qCn s.data.toList (h2 s.data.toList second p e).2.1 (h2 s.data.toList second p e).2.2)
   (qHo b s p e w hp hs h) (fun w h=>qHo b s _ _ w (by omega) hs h) (fun w h=>qHo b s _ _ w (by omega) hs h) (fun w h=>qHo b s _ _ w (by omega) hs h) rfl rfl
open Go.MapKept
theorem encode_eq (r:Int):Utf8.encode r=⟨(encodeRune r).toArray⟩:=by
 by_cases h:qBx r=true
 · have hv:Utf8.valid r=true:=by
     rw[qA4] at h;simp[Utf8.valid];omega
   rw[qA4] at h;unfold Utf8.encode encodeRune;simp only[hv,if_true];by_cases c0:r≤127
   · rw[encodeRuneZ_one (by omega) c0,if_pos (by omega)];simp[Nat.toUInt8]
   rw[if_neg (by omega)];by_cases c1:r≤2047
   · rw[encodeRuneZ_two (by omega) c1,if_pos (by omega)];simp only[List.map_cons,List.map_nil,Nat.toUInt8];rw[show(192+r/64).toNat=192+r.toNat/64 by omega,show(128+r%64).toNat=128+r.toNat%64 by omega]
   rw[if_neg (by omega)];by_cases c2:r≤65535
   · rw[encodeRuneZ_three (by omega),if_pos (by omega)];simp only[List.map_cons,List.map_nil,Nat.toUInt8];rw[show(224+r/4096).toNat=224+r.toNat/4096 by omega,show(128+r/64%64).toNat=128+r.toNat/64%64 by omega,show(128+r%64).toNat=128+r.toNat%64 by omega]
   · rw[encodeRuneZ_four (by omega) (by omega),if_neg (by omega)];simp only[List.map_cons,List.map_nil,Nat.toUInt8];rw[show(240+r/262144).toNat=240+r.toNat/262144 by omega,show(128+r/4096%64).toNat=128+r.toNat/4096%64 by omega,show(128+r/64%64).toNat=128+r.toNat/64%64 by omega,show(128+r%64).toNat=128+r.toNat%64 by omega]
 · have hv:Utf8.valid r=false:=by
     rw[Bool.eq_false_iff];intro hv;apply h;rw[qA4];simp[Utf8.valid] at hv;omega
   have hb:r<0∨(55296≤r∧r≤57343)∨1114111<r:=by
    have:¬((0≤r∧r<55296)∨(57344≤r∧r≤1114111)):=fun x=>h ((qA4 r).2 x)
    omega
   unfold Utf8.encode encodeRune;rw[encodeRuneZ_bad hb];simp only[hv,Bool.false_eq_true,if_false];rfl
theorem qZs (e:MapEntry) (he:e∈es7.toList):∃k c:Int,e.key=.int .i32 k∧e.val=.int .u8 c∧qHn c=some k∧0≤k∧k<128:=by
 simp[es7,es6,es5,es4,es3,es2,es1] at he;rcases he with rfl|rfl|rfl|rfl|rfl|rfl|rfl <;> exact⟨_,_,rfl,rfl,by decide,by decide,by decide⟩
theorem qYx (c:Int) (h:∀e∈es7.toList,e.val≠.int .u8 c):qHn c=none:=by
 simp[es7,es6,es5,es4,es3,es2,es1] at h;unfold qHn;obtain⟨h1,h2,h3,h4,h5,h6,h7⟩:=h;simp[Ne.symm h1,Ne.symm h2,Ne.symm h3,Ne.symm h4,Ne.symm h5,Ne.symm h6,Ne.symm h7]
theorem qJi:(es7.toList.map (·.born)).Nodup:=by decide
theorem qZz:∀x∈es7.toList,x.born<7:=by decide
theorem zAd (w:World) (n:Nat) (hn:n=w.heap.size):(Instr.range 257 (.map (some n))).run Tryz.prog (w.alloc (.map es7 7))=.ok (.pointer (some ⟨n+1,0,none⟩)) ((w.alloc (.map es7 7)).alloc (.mapIter (some n) 7 #[] 7)):=by
 subst hn;have hg:(w.alloc (.map es7 7)).heap[w.heap.size]?=some (.map es7 7):=heap_alloc_new w _;simp only[Instr.range,Sem.run_bind,run_underlying Tryz.underlying257,Result.andThen,MapKept.run_getObj_map hg,Sem.run_pure];simp only[newObj,Sem.run];simp;rfl
section
open Go.ChangeMaps (setBlock)
variable {P:Program} (w:World) {ops:Array Oper} {rest:List Oper} {o:Oper} {a:Act} {Q:Exit→Act→World→Prop}
theorem qMq (hg:o.guard=none) (it:Operand) (hop:o.op=Op.next it false) (r m:Nat) (seen:Array Nat) (hit:a.eval it=.pointer (some ⟨r,0,none⟩)) (hne:m≠r)
    (hr:w.heap[r]?=some (.mapIter (some m) 7 seen 7)) (hm:w.heap[m]?=some (.map es7 7))
    (hDone:(leftOf es7 seen).size=0→wpList P ops Q rest (a.put o.dst (.tuple #[.bool false])) w)
    (hMore:∀(e:MapEntry) (k v:Int) (w':World),e∈(leftOf es7 seen).toList→e.val=.int .u8 v→qHn v=some k→0≤k→k<128→w'.heap[r]?=some (.mapIter (some m) 7 (seen.push e.born) 7)→w'.heap[m]?=some (.map es7 7)→Kept r w w'→
      (Instr.entry (.pointer (some ⟨r,0,none⟩))).run P w'=.ok (.tuple #[.int .i32 k,.int .u8 v]) w'→wpList P ops Q rest (a.put o.dst (.tuple #[.bool true,.int .i32 k,.int .u8 v])) w') :
    wpList P ops Q (o::rest) a w:=by
 refine wpList_plain hg fun K' hK'=>?_
 unfold Oper.wp;rcases run_next_at (P:=P) w o.type r m 7 7 seen es7 7 hr hm qZz le_ with⟨h0,hrun⟩|⟨e,he,w1,hw,hrun⟩
 · simp[execOp,hop,hit,hrun,Result.andThen];exact hK' _ _ (hDone h0)
 · obtain⟨k,v,hk,hv,hu,k0,k1⟩:=qZs e (mem_left he).1
   have hlt:r<w1.heap.size:=by
    have:=(Array.getElem?_eq_some_iff.1 hr).1;rcases hw with rfl|rfl <;> exact this
   have hsame:∀j:Nat,w1.heap[j]?=w.heap[j]?:=by intro j;rcases hw with rfl|rfl <;> rfl
   have h1:(setBlock w1 r (.mapIter (some m) 7 (seen.push e.born) 7)).heap[r]?=some (.mapIter (some m) 7 (seen.push e.born) 7):=by
    simp[setBlock,hlt]
   have h2:∀j:Nat,j≠r→(setBlock w1 r (.mapIter (some m) 7 (seen.push e.born) 7)).heap[j]?=w.heap[j]?:=by
    intro j hj;rw[←hsame j];show(w1.heap.setIfInBounds r _)[j]?=_
    rw[Array.getElem?_setIfInBounds_ne (Ne.symm hj)]
   have hkept:Kept r w (setBlock w1 r (.mapIter (some m) 7 (seen.push e.born) 7)):=by
    refine⟨?_,?_,?_,?_,fun j _ hj=>h2 j hj⟩
    · rcases hw with rfl|rfl <;> rfl
    · rcases hw with rfl|rfl <;> rfl
    · rcases hw with rfl|rfl <;> rfl
    · rcases hw with rfl|rfl <;> simp[setBlock]
   have hen:=run_entry_at (P:=P) _ r m 7 seen es7 7 e h1 ((h2 m hne).trans hm) (mem_left he).1 qJi;rw[hk,hv] at hen hrun;simp[execOp,hop,hit,hrun,Result.andThen];exact hK' _ _ (hMore e k v _ he hv hu k0 k1 h1 ((h2 m hne).trans hm) hkept hen)
end
theorem qMa {a b:ByteArray} (h:a=b):Ending.returned (.string a)=.returned (.string b):=by rw[h]
theorem qU5 (b:Nat) (s:ByteArray) (c e1 e2 e3 e4 e5 e6 n m:Int) (p1 p3 p4 p5 p6:Nat) (R:Bs×Nat×Int) (w:World) (hc0:0≤c) (hc1:c<256) (hn:0≤n∧n<65536) (hm:0≤m∧m<65536)
    (ct:Calls Tryz.prog 247 #[.pointer (some ⟨b,0,none⟩)] w (RdP 263 b s p1 e1 (.int .u8 c) w))
    (F1:Hid (∀w,Tri 263 b (.string s) (.int .i64 p1) (.int .i64 e2) w→Calls Tryz.prog 248 #[.pointer (some ⟨b,0,none⟩),.bool false] w (RdP 263 b s p3 e3 (.int .i32 n) w)))
    (F2:Hid (∀w,Tri 263 b (.string s) (.int .i64 p3) (.int .i64 e3) w→Calls Tryz.prog 229 #[.pointer (some ⟨b,0,none⟩),.int .u8 92] w (RdP 263 b s p4 e4 (.tuple #[]) w)))
    (F3:Hid (∀w,Tri 263 b (.string s) (.int .i64 p4) (.int .i64 e4) w→Calls Tryz.prog 229 #[.pointer (some ⟨b,0,none⟩),.int .u8 117] w (RdP 263 b s p5 e5 (.tuple #[]) w)))
    (F4:Hid (∀w,Tri 263 b (.string s) (.int .i64 p5) (.int .i64 e5) w→Calls Tryz.prog 248 #[.pointer (some ⟨b,0,none⟩),.bool true] w (RdP 263 b s p6 e6 (.int .i32 m) w)))
    (he2:Hid (e2=if c=117 then e1 else qCa e1 41))
    (hR:Hid (R=if c=47 then ([47],p1,e1) else match qHn c with
     |some k=>(encodeRune k,p1,e1)
     |none=>if 55296≤n∧n<56320 then (if e6=0 then (encodeRune (65536+(n-55296)*1024+m-56320),p6,e6) else ([],p6,e6)) else if e3=0 then (encodeRune n,p3,e3) else ([],p3,e3))) :
    Calls Tryz.prog 231 #[.pointer (some ⟨b,0,none⟩)] w (RdP 263 b s R.2.1 R.2.2 (.string ⟨R.1.toArray⟩) w):=by
 by_cases h47:c=47
 · have h:=hR.out;rw[if_pos h47] at h;subst h h47;clear hR he2;go_enter Tryz.func231,Tryz.ntmps231;go_wp2_with fail
   refine ct.mono ?_;rintro en w1 ⟨rfl,t1,k1⟩;go_wp2_with fail
   go_ret;exact⟨rfl,t1,k1⟩
 have hR1:=hR.out;rw[if_neg h47] at hR1;have hR2:=hh_ hR1;clear hR1 hR;have g47:(c==47)=false:=by simpa using h47
 have hrg:=zAd;go_enter Tryz.func231,Tryz.ntmps231;go_wp2_with fail
 refine ct.mono ?_;rintro en w1 ⟨rfl,t1,k1⟩;go_wp2_with fail
 refine(qM4 w1).mono ?_;rintro en w2 ⟨rfl,rfl⟩;go_wp2_with fail
 have hbm:b<w1.heap.size:=t1.lt
 have hm0:((w1.alloc (.map es7 7)).alloc (.mapIter (some w1.heap.size) 7 #[] 7)).heap[w1.heap.size]?=some (.map es7 7):=by
  show((w1.heap.push _).push _)[w1.heap.size]?=_
  rw[Array.getElem?_push,if_neg (by simp)];simp
 have hi0:((w1.alloc (.map es7 7)).alloc (.mapIter (some w1.heap.size) 7 #[] 7)).heap[w1.heap.size+1]?=some (.mapIter (some w1.heap.size) 7 #[] 7):=by
  show((w1.heap.push _).push _)[w1.heap.size+1]?=_
  rw[Array.getElem?_push,if_pos (by simp)]
 have ht0:=(t1.alloc (.map es7 7)).alloc (.mapIter (some w1.heap.size) 7 #[] 7);have hk0:=(k1.alloc (.map es7 7)).alloc (.mapIter (some w1.heap.size) 7 #[] 7);clear ct
 go_loopw [] (fun wr=> ∃seen:Array Nat,wr.heap[w1.heap.size+1]?=some (.mapIter (some w1.heap.size) 7 seen 7)∧wr.heap[w1.heap.size]?=some (.map es7 7)∧Tri 263 b (.string s) (.int .i64 p1) (.int .i64 e1) wr∧Kept b w wr∧Hid (∀e∈es7.toList,seen.contains e.born=true→e.val≠.int .u8 c))
   (fun wr=>wr.rangeLeft w1.heap.size (w1.heap.size+1))
 case atStart=>exact⟨#[],hi0,hm0,ht0,hk0,fun e _ h=>by simp at h⟩
 case round =>
  obtain⟨seen,hi,hm,ht,hk,hseen⟩:=hrel;clear hm0 hi0 ht0 hk0;go_wp2_with (at_next;refine qMq _ rfl _ rfl (w1.heap.size+1) w1.heap.size seen rfl (by omega) hi hm ?_ ?_)
  · intro h0;have hall:=all_seen es7 seen (by rw[h0];rfl);have hnone:qHn c=none:=qYx c (fun e he=>hseen.out e he (hall e he));have hR3:=hR2.out;rw[hnone] at hR3;have HR3:=hh_ hR3;clear hall hR2 hseen hR3;have Hn:=hh_ hnone;clear hnone hi hm h0;obtain⟨hn0,hn1⟩:=hn;obtain⟨hm0,hm1⟩:=hm;by_cases h117:c=117
    · have hE:=he2.out;rw[if_pos h117] at hE;subst hE;have t2:=ht;subst h117;go_wp2_with fail
      refine(F1.out _ t2).mono ?_;rintro en w3 ⟨rfl,t3,k3⟩;by_cases hr1:55296≤n∧n<56320
      · obtain⟨r1,r2⟩:=hr1;have hR4:=HR3.out;rw[if_pos ⟨r1,r2⟩] at hR4;by_cases h6:e6=0
        · rw[if_pos h6] at hR4;subst hR4;subst h6;go_wp2_with fail
          refine(F2.out _ t3).mono ?_;rintro en w4 ⟨rfl,t4,k4⟩;go_wp2_with fail
          refine(F3.out _ t4).mono ?_;rintro en w5 ⟨rfl,t5,k5⟩;go_wp2_with fail
          refine(F4.out _ t5).mono ?_;rintro en w6 ⟨rfl,t6,k6⟩;have c2:=t6.c2;go_wp2_with fail
          go_ret;refine⟨?_,t6,hk.trans (((k3.trans k4).trans k5).trans k6)⟩;rw[encode_eq];rfl
        · rw[if_neg h6] at hR4;subst hR4;have g6:(e6==0)=false:=by simpa using h6
          have g7:(e6 != 0)=true:=by simpa using h6
          go_wp2_with fail
          refine(F2.out _ t3).mono ?_;rintro en w4 ⟨rfl,t4,k4⟩;go_wp2_with fail
          refine(F3.out _ t4).mono ?_;rintro en w5 ⟨rfl,t5,k5⟩;go_wp2_with fail
          refine(F4.out _ t5).mono ?_;rintro en w6 ⟨rfl,t6,k6⟩;have c2:=t6.c2;go_wp2_with fail
          go_ret;exact⟨rfl,t6,hk.trans (((k3.trans k4).trans k5).trans k6)⟩
      · have hR4:=HR3.out;rw[if_neg hr1] at hR4;have c2:=t3.c2;have hr2:n<55296∨56320≤n:=by omega
        by_cases h6:e3=0
        · rw[if_pos h6] at hR4;subst hR4;subst h6;rcases hr2 with hr2|hr2
          · have d1:decide (55296≤n)=false:=by simpa using hr2
            go_wp2_with fail
            go_ret;refine⟨?_,t3,hk.trans k3⟩;first|rw[encode_eq]|skip
            exact qMa rfl
          · have d0:55296≤n:=by omega
            have d1:decide (n<56320)=false:=by simpa using hr2
            go_wp2_with fail
            go_ret;refine⟨?_,t3,hk.trans k3⟩;first|rw[encode_eq]|skip
            exact qMa rfl
        · rw[if_neg h6] at hR4;subst hR4;have g6:(e3==0)=false:=by simpa using h6
          clear h6;rcases hr2 with hr2|hr2
          · have d1:decide (55296≤n)=false:=by simpa using hr2
            go_wp2_with fail
            go_ret;exact⟨rfl,t3,hk.trans k3⟩
          · have d0:55296≤n:=by omega
            have d1:decide (n<56320)=false:=by simpa using hr2
            go_wp2_with fail
            go_ret;exact⟨rfl,t3,hk.trans k3⟩
    · have hE:=he2.out;rw[if_neg h117] at hE;subst hE;have g1:(c != 117)=true:=by simpa using h117
      have g2:(c==117)=false:=by simpa using h117
      go_wp2_with fail
      refine(qBq b s p1 e1 41 _ ht).mono ?_;rintro en w2 ⟨rfl,t2,k2⟩;go_wp2_with fail
      refine(F1.out _ t2).mono ?_;rintro en w3 ⟨rfl,t3,k3⟩;by_cases hr1:55296≤n∧n<56320
      · obtain⟨r1,r2⟩:=hr1;have hR4:=HR3.out;rw[if_pos ⟨r1,r2⟩] at hR4;by_cases h6:e6=0
        · rw[if_pos h6] at hR4;subst hR4;subst h6;go_wp2_with fail
          refine(F2.out _ t3).mono ?_;rintro en w4 ⟨rfl,t4,k4⟩;go_wp2_with fail
          refine(F3.out _ t4).mono ?_;rintro en w5 ⟨rfl,t5,k5⟩;go_wp2_with fail
          refine(F4.out _ t5).mono ?_;rintro en w6 ⟨rfl,t6,k6⟩;have c2:=t6.c2;go_wp2_with fail
          go_ret;refine⟨?_,t6,(hk.trans k2).trans (((k3.trans k4).trans k5).trans k6)⟩;rw[encode_eq];rfl
        · rw[if_neg h6] at hR4;subst hR4;have g6:(e6==0)=false:=by simpa using h6
          have g7:(e6 != 0)=true:=by simpa using h6
          go_wp2_with fail
          refine(F2.out _ t3).mono ?_;rintro en w4 ⟨rfl,t4,k4⟩;go_wp2_with fail
          refine(F3.out _ t4).mono ?_;rintro en w5 ⟨rfl,t5,k5⟩;go_wp2_with fail
          refine(F4.out _ t5).mono ?_;rintro en w6 ⟨rfl,t6,k6⟩;have c2:=t6.c2;go_wp2_with fail
          go_ret;exact⟨rfl,t6,(hk.trans k2).trans (((k3.trans k4).trans k5).trans k6)⟩
      · have hR4:=HR3.out;rw[if_neg hr1] at hR4;have c2:=t3.c2;have hr2:n<55296∨56320≤n:=by omega
        by_cases h6:e3=0
        · rw[if_pos h6] at hR4;subst hR4;subst h6;rcases hr2 with hr2|hr2
          · have d1:decide (55296≤n)=false:=by simpa using hr2
            go_wp2_with fail
            go_ret;refine⟨?_,t3,(hk.trans k2).trans k3⟩;first|rw[encode_eq]|skip
            exact qMa rfl
          · have d0:55296≤n:=by omega
            have d1:decide (n<56320)=false:=by simpa using hr2
            go_wp2_with fail
            go_ret;refine⟨?_,t3,(hk.trans k2).trans k3⟩;first|rw[encode_eq]|skip
            exact qMa rfl
        · rw[if_neg h6] at hR4;subst hR4;have g6:(e3==0)=false:=by simpa using h6
          clear h6;rcases hr2 with hr2|hr2
          · have d1:decide (55296≤n)=false:=by simpa using hr2
            go_wp2_with fail
            go_ret;exact⟨rfl,t3,(hk.trans k2).trans k3⟩
          · have d0:55296≤n:=by omega
            have d1:decide (n<56320)=false:=by simpa using hr2
            go_wp2_with fail
            go_ret;exact⟨rfl,t3,(hk.trans k2).trans k3⟩
  · intro e k v w' he hv hu hk0 hk1 hi' hm' hkept hen;have he:e∈(leftOf es7 seen).toList:=by simpa using he
    have ht2:=ht.kept hkept (by omega)
    have hk2:Kept b w w':=by
     refine⟨hkept.os.trans hk.os,hkept.tape.trans hk.tape,hkept.output.trans hk.output,Nat.le_trans hk.size hkept.size,fun j hj hjb=>?_⟩;rw[hkept.block j (Nat.lt_of_lt_of_le hj hk.size) (by have:=k1.size;omega)];exact hk.block j hj hjb
    by_cases hvc:v=c
    · subst hvc;have hR4:=hR2.out;rw[hu] at hR4;subst hR4;clear hR2 hseen hu hv he hi hm hkept hi' hm';go_wp2_with fail
      go_ret;refine⟨?_,ht2,hk2⟩;rw[encode_eq];rfl
    · have g1:(v==c)=false:=by simpa using hvc
      have hlt:=left_shrinks es7 seen e he
      have hs2:Hid (∀e'∈es7.toList,(seen.push e.born).contains e'.born=true→e'.val≠.int .u8 c):=by
       intro e' he' hcon;by_cases hb:e'.born=e.born
       · have:e'=e:=by
           have h1:=find_born e' es7.toList qJi he';have h2:=find_born e es7.toList qJi (mem_left he).1;rw[hb,h2] at h1;exact(Option.some.inj h1).symm
         rw[this,hv];intro hx;injection hx with _ hx
         exact hvc hx
       · refine hseen.out e' he' ?_;rw[Array.contains_push] at hcon
         simpa[hb] using hcon
      have Hlt:=hh_ hlt;clear hR2 hseen hu hv he hlt;go_wp2_with fail
      go_roundw
      case rel=>exact⟨_,hi',hm',ht2,hk2,hs2⟩
      case measure=>
       have:=Hlt.out;simp only[World.rangeLeft,hi,hm,hi',hm'];exact this
end Go.Proofs.YtainiaighnjpfaaGreatDoor
