/- Rows of bytes, as plain functions. Rows of bytes taken off; hex; plain functions. Hex read: plain. The reader of literals, as plain functions: place and error go along. Quote's answer, as a plain function; runes gone over. Cells: what the package answers, as plain functions of a kind, a number and a text. Rows: words for lists that lie in memory, cell by cell: cells, whole numbers, columns. Rows, plainly: what is checked, compared and picked; keys, put together and taken apart. -/
import Derived.Lib.ValidU
import Derived.Lib.RuneBytes
import Derived.Lib.Replace
import Derived.Lib.IndexBytes
import Derived.Lib.Bytealg
import Derived.Lib.Strings
import Derived.Lib.DecodeN
import Derived.Lib.ItoaNum
import Derived.Lib.ParseIntBTie
import Derived.Lib.Small
import Derived.WalkKit
import Derived.Below
import Derived.Deep.Draws
import Derived.Lib.Hide
import Derived.Laws.OwnMore
import Derived.Maps.AppendAt
set_option maxRecDepth 100000
set_option linter.unusedVariables false
namespace Go.Ms
open Go.Lib
abbrev Bs:=List UInt8
def qBx (r:Int):Bool:=(decide (0≤r)&&decide (r<55296))||(decide (57344≤r)&&decide (r≤1114111))
theorem qA4 (r:Int):qBx r=true↔(0≤r∧r<55296)∨(57344≤r∧r≤1114111):=by simp[qBx]
def bt (l:Bs) (i:Nat):Nat:=(l.getD i 0).toNat
theorem qD1 (l:Bs) (i:Nat):bt l i<256:=UInt8.toNat_lt _
theorem get!_list (l:Bs) (i:Nat):ByteArray.get! ⟨l.toArray⟩ i=l.getD i 0:=by
 show(l.toArray)[i]! =_
 simp[List.getD_eq_getElem?_getD];rfl
theorem qH3 (l:Bs):decodeL l=decodeN l.length (bt l 0) (bt l 1) (bt l 2) (bt l 3):=by
 unfold decodeL;rw[decode_at];simp only[get!_list,bt,Nat.zero_add,Nat.sub_zero];rfl
theorem qLa {x:Int} (h0:0≤x) (h1:x<256):((x.toNat.toUInt8).toNat:Int)=x:=by
 simp[Nat.toUInt8];omega
theorem qGz {a:UInt8} {x:Int} (h:(a.toNat:Int)=x):x.toNat.toUInt8=a:=by
 subst h;simp[Nat.toUInt8]
theorem qR7 (l:Bs) (hl:l≠[]) (h:¬((decodeL l).1=65533∧(decodeL l).2<2)) :
    qBx (decodeL l).1=true∧(decodeL l).2≤l.length∧l.take (decodeL l).2=encodeRune (decodeL l).1:=by
 obtain⟨p,hp⟩:∃p,decodeL l=p:=⟨_,rfl⟩;rw[hp] at h ⊢;rw[qH3] at hp;obtain⟨a,l,rfl⟩:=List.exists_cons_of_ne_nil hl;have ha:=UInt8.toNat_lt a;have e0:bt (a::l) 0=a.toNat:=rfl;rw[e0] at hp;unfold decodeN at hp;split at hp
 · rename_i c
   subst hp;refine⟨by rw[qA4];simp only;omega,by simp,?_⟩;simp only;unfold encodeRune;rw[encodeRuneZ_one (by omega) (by omega)];simp[Nat.toUInt8]
 split at hp
 · rename_i c c1
   obtain⟨p1,p2,p3⟩:=c1
   match l,p2 with
   |b::l,_=>
    have e1:bt (a::b::l) 1=b.toNat:=rfl;rw[e1] at hp p3;have hb:=UInt8.toNat_lt b;split at hp
    · subst hp;refine⟨by rw[qA4];simp only;omega,by simp,?_⟩;simp only;unfold encodeRune;rw[encodeRuneZ_two (by omega) (by omega)];simp only[List.take_succ_cons,List.take_zero,List.map_cons,List.map_nil];rw[qGz (a:=a) (by omega),qGz (a:=b) (by omega)]
    · subst hp;exact absurd ⟨rfl,by decide⟩ h
 split at hp
 · rename_i c c1 c2
   obtain⟨p1,⟨p2,p3⟩,p4,p5⟩:=c2
   match l,p4 with
   |b::d::l,_=>
    have e1:bt (a::b::d::l) 1=b.toNat:=rfl;have e2:bt (a::b::d::l) 2=d.toNat:=rfl;rw[e1] at hp p3;rw[e2] at hp p5;have hb:=UInt8.toNat_lt b;have hd:=UInt8.toNat_lt d;split at hp
    · subst hp;refine⟨by rw[qA4];simp only;omega,by simp,?_⟩;simp only;unfold encodeRune;rw[encodeRuneZ_three (by omega)];simp only[List.take_succ_cons,List.take_zero,List.map_cons,List.map_nil];rw[qGz (a:=a) (by omega),qGz (a:=b) (by omega),qGz (a:=d) (by omega)]
    · subst hp;exact absurd ⟨rfl,by decide⟩ h
 split at hp
 · rename_i c c1 c2 c3
   obtain⟨p1,⟨p2,p3⟩,⟨p4,p5⟩,p6,p7⟩:=c3
   match l,p6 with
   |b::d::f::l,_=>
    have e1:bt (a::b::d::f::l) 1=b.toNat:=rfl;have e2:bt (a::b::d::f::l) 2=d.toNat:=rfl;have e3:bt (a::b::d::f::l) 3=f.toNat:=rfl;rw[e1] at hp p3;rw[e2] at hp p5;rw[e3] at hp p7;have hb:=UInt8.toNat_lt b;have hd:=UInt8.toNat_lt d;have hf:=UInt8.toNat_lt f;split at hp
    · subst hp;refine⟨by rw[qA4];simp only;omega,by simp,?_⟩;simp only;unfold encodeRune;rw[encodeRuneZ_four (by omega) (by omega)];simp only[List.take_succ_cons,List.take_zero,List.map_cons,List.map_nil];rw[qGz (a:=a) (by omega),qGz (a:=b) (by omega),qGz (a:=d) (by omega),qGz (a:=f) (by omega)]
    · subst hp;exact absurd ⟨rfl,by decide⟩ h
 · subst hp;exact absurd ⟨rfl,by decide⟩ h
theorem qAx {x:Int} (h0:0≤x) (h1:x<256):(x.toNat.toUInt8).toNat=x.toNat:=by
 have:=qLa h0 h1;omega
theorem qZh (r:Int) (m:Bs) (h:qBx r=true):decodeL (encodeRune r++m)=(r.toNat,(encodeRune r).length):=by
 rw[qA4] at h;rw[qH3];unfold encodeRune;by_cases c0:r≤127
 · rw[encodeRuneZ_one (by omega) c0];simp only[List.map_cons,List.map_nil,List.cons_append,List.nil_append,bt,List.getD_cons_zero,List.getD_cons_succ,List.length_cons,List.length_nil];rw[qAx (by omega) (by omega)];unfold decodeN;rw[if_pos (by omega)]
 by_cases c1:r≤2047
 · rw[encodeRuneZ_two (by omega) c1];simp only[List.map_cons,List.map_nil,List.cons_append,List.nil_append,bt,List.getD_cons_zero,List.getD_cons_succ,List.length_cons,List.length_nil];rw[qAx (by omega) (by omega),qAx (by omega) (by omega)];unfold decodeN;rw[if_neg (by omega),if_pos ⟨by omega,by omega,by omega⟩,if_pos (by omega)];apply Prod.ext <;> simp only <;> omega
 by_cases c2:r≤65535
 · rw[encodeRuneZ_three (by omega)];simp only[List.map_cons,List.map_nil,List.cons_append,List.nil_append,bt,List.getD_cons_zero,List.getD_cons_succ,List.length_cons,List.length_nil];rw[qAx (by omega) (by omega),qAx (by omega) (by omega),qAx (by omega) (by omega)];unfold decodeN;rw[if_neg (by omega),if_neg (by omega),if_pos ⟨by omega,⟨by omega,by omega⟩,by omega,by omega⟩,if_pos (by omega)];apply Prod.ext <;> simp only <;> omega
 · rw[encodeRuneZ_four (by omega) (by omega)];simp only[List.map_cons,List.map_nil,List.cons_append,List.nil_append,bt,List.getD_cons_zero,List.getD_cons_succ,List.length_cons,List.length_nil];rw[qAx (by omega) (by omega),qAx (by omega) (by omega),qAx (by omega) (by omega),qAx (by omega) (by omega)];unfold decodeN;rw[if_neg (by omega),if_neg (by omega),if_neg (by omega),if_pos ⟨by omega,⟨by omega,by omega⟩,⟨by omega,by omega⟩,by omega,by omega⟩,if_pos (by omega)];apply Prod.ext <;> simp only <;> omega
def hexb (c:UInt8):Bs:=[if c.toNat/16<10 then (48+c.toNat/16).toUInt8 else (87+c.toNat/16).toUInt8,if c.toNat%16<10 then (48+c.toNat%16).toUInt8 else (87+c.toNat%16).toUInt8]
def hexD (l:Bs):Bs:=120::l.flatMap hexb
def hexS:Bs:=[48,49,50,51,52,53,54,55,56,57,97,98,99,100,101,102]
def hx (c:UInt8):Int:=max 0 (indexByte hexS c)
theorem zBj:∀c:Fin 256,0≤hx c.val.toUInt8∧hx c.val.toUInt8<16:=by decide +kernel
theorem zBb (c:UInt8):0≤hx c∧hx c<16:=by
 have:=zBj ⟨c.toNat,UInt8.toNat_lt c⟩
 simpa using this
def qG7:Bs→Bs
  |a::b::t=>(16*hx a+hx b).toNat.toUInt8::qG7 t
  |_=>[]
def qLg (l:Bs):Bs:=qG7 (trimPrefix l [120])
theorem qH6 {l:Bs} (h:l.length≤1):qG7 l=[]:=by
 match l,h with
 |[],_=>rfl
 |[a],_=>rfl
def put (r:Int):Bs:=if qBx r=true then encodeRune r else []
theorem qLo {r:Int} (h:qBx r=true):put r=encodeRune r:=by simp[put,h]
theorem qWr {r:Int} (h:qBx r=false):put r=[]:=by simp[put,h]
def qC2 (l:Bs):Nat×Nat×Bool:=if l=[] then (0,0,false) else if (decodeL l).1=65533∧(decodeL l).2<2 then (0,0,false) else ((decodeL l).1,(decodeL l).2,true)
def qA8 (l:Bs):Int:=
  if l.length=1 then bt l 0
  else if l.length=2 then 64*(bt l 0%32:Nat)+(bt l 1%64:Nat)
  else if l.length=3 then 64*(64*(bt l 0%16:Nat)+(bt l 1%64:Nat))+(bt l 2%64:Nat)
  else 64*(64*(64*(bt l 0%8:Nat)+(bt l 1%64:Nat))+(bt l 2%64:Nat))+(bt l 3%64:Nat)
theorem qAz (r:Int):1≤(encodeRune r).length∧(encodeRune r).length≤4:=by
 have:=encodeRuneZ_length r
 simpa[encodeRune] using this
theorem qQ0 (r:Int) (h:qBx r=true):qA8 (encodeRune r)=r:=by
 rw[qA4] at h;unfold encodeRune;by_cases c0:r≤127
 · rw[encodeRuneZ_one (by omega) c0];simp only[qA8,List.map_cons,List.map_nil,bt,List.getD_cons_zero,List.getD_cons_succ,List.length_cons,List.length_nil];rw[qAx (by omega) (by omega)];simp;omega
 by_cases c1:r≤2047
 · rw[encodeRuneZ_two (by omega) c1];simp only[qA8,List.map_cons,List.map_nil,bt,List.getD_cons_zero,List.getD_cons_succ,List.length_cons,List.length_nil];rw[qAx (by omega) (by omega),qAx (by omega) (by omega)];simp;omega
 by_cases c2:r≤65535
 · rw[encodeRuneZ_three (by omega)];simp only[qA8,List.map_cons,List.map_nil,bt,List.getD_cons_zero,List.getD_cons_succ,List.length_cons,List.length_nil];rw[qAx (by omega) (by omega),qAx (by omega) (by omega),qAx (by omega) (by omega)];simp;omega
 · rw[encodeRuneZ_four (by omega) (by omega)];simp only[qA8,List.map_cons,List.map_nil,bt,List.getD_cons_zero,List.getD_cons_succ,List.length_cons,List.length_nil];rw[qAx (by omega) (by omega),qAx (by omega) (by omega),qAx (by omega) (by omega),qAx (by omega) (by omega)];simp;omega
def hit (l:Bs) (n:Nat):Bool:=qBx (qA8 (l.take n))&&put (qA8 (l.take n))==l.take n
theorem qTf (l:Bs) (n:Nat):hit l n=true↔qBx (qA8 (l.take n))=true∧encodeRune (qA8 (l.take n))=l.take n:=by
 unfold hit;constructor
 · intro h;simp only[Bool.and_eq_true,beq_iff_eq] at h;exact⟨h.1,by rw[←qLo h.1];exact h.2⟩
 · intro h;simp only[Bool.and_eq_true,beq_iff_eq];exact⟨h.1,by rw[qLo h.1];exact h.2⟩
theorem qHs {r:Int} (h:qBx r=true):((r.toNat:Nat):Int)=r:=by rw[qA4] at h;omega
theorem qUp:(encodeRune 65533).length=3:=by decide
theorem qIw (r:Int) (m:Bs) (h:qBx r=true):qC2 (encodeRune r++m)=(r.toNat,(encodeRune r).length,true):=by
 have hl:=qAz r;have hne:encodeRune r++m≠[]:=by intro e;rw[List.append_eq_nil_iff] at e;rw[e.1] at hl;simp at hl
 unfold qC2;rw[if_neg hne,qZh r m h,if_neg];intro⟨h1,h2⟩;simp only at h1 h2;have:r=65533:=by have:=qHs h;omega
 rw[this,qUp] at h2;omega
theorem qC6 (l:Bs):qC2 l=(0,0,false)∨∃r:Int,qBx r=true∧qC2 l=(r.toNat,(encodeRune r).length,true)∧l=encodeRune r++l.drop (encodeRune r).length:=by
 unfold qC2;by_cases hl:l=[]
 · exact .inl (by rw[if_pos hl])
 rw[if_neg hl];by_cases h:(decodeL l).1=65533∧(decodeL l).2<2
 · exact .inl (by rw[if_pos h])
 · rw[if_neg h];obtain⟨a,b,c⟩:=qR7 l hl h;have e:(encodeRune (decodeL l).1).length=(decodeL l).2:=by rw[←c];simp;omega
   refine .inr ⟨((decodeL l).1:Nat),a,by rw[e];simp,?_⟩;rw[e,←c];simp
theorem qWi (l:Bs) (n:Nat) (hn:n≤l.length) (h:hit l n=true):qC2 l=((qA8 (l.take n)).toNat,n,true):=by
 rw[qTf] at h;have e:l=encodeRune (qA8 (l.take n))++l.drop n:=by rw[h.2];simp
 have el:(encodeRune (qA8 (l.take n))).length=n:=by rw[h.2];simp;omega
 have:=qIw _ (l.drop n) h.1;rw[←e,el] at this;exact this
theorem zAf (l:Bs) (h:∀n,1≤n→n≤4→n≤l.length→hit l n=false):qC2 l=(0,0,false):=by
 rcases qC6 l with e|⟨r,h1,h2,h3⟩
 · exact e
 · exfalso;have hl:=qAz r;have hll:(encodeRune r).length≤l.length:=by have:=congrArg List.length h3;rw[List.length_append] at this;omega
   have ht:l.take (encodeRune r).length=encodeRune r:=by have:=congrArg (List.take (encodeRune r).length) h3;rw[this];simp
   have:=h _ hl.1 hl.2 hll;rw[Bool.eq_false_iff] at this;apply this;rw[qTf,ht,qQ0 r h1];exact⟨h1,rfl⟩
def qCa (e x:Int):Int:=if e=0 then x else e
def qAt (l:Bs) (p:Nat) (e:Int):Int×Nat×Int:=if e=0 then (if p=l.length then (0,p,3) else ((bt l p:Nat),p+1,0)) else (0,p,e)
def qBd (l:Bs) (c:Int) (p:Nat) (e:Int):Nat×Int:=((qAt l p e).2.1,if (qAt l p e).1=c then (qAt l p e).2.2 else qCa (qAt l p e).2.2 41)
def hexv (c:Int):Int:=if 48≤c∧c≤57 then c-48 else if 65≤c∧c≤70 then c-55 else if 97≤c∧c≤102 then c-87 else 16
def qA3 (l:Bs) (p:Nat) (e:Int):Int×Nat×Int:=
  if hexv (qAt l p e).1=16 then (0,(qAt l p e).2.1,qCa (qAt l p e).2.2 41) else (hexv (qAt l p e).1,(qAt l p e).2.1,(qAt l p e).2.2)
theorem qMz (l:Bs) (p:Nat) (e:Int):0≤(qAt l p e).1∧(qAt l p e).1<256:=by
 have:=qD1 l p;unfold qAt;repeat' split
 all_goals (simp only;omega)
theorem qHi (l:Bs) (p:Nat) (e:Int) (h:p≤l.length):p≤(qAt l p e).2.1∧(qAt l p e).2.1≤l.length:=by
 unfold qAt;repeat' split
 all_goals (simp only;omega)
theorem qS0 (c:Int):0≤hexv c∧hexv c≤16:=by
 unfold hexv;repeat' split
 all_goals omega
theorem qCn (l:Bs) (p:Nat) (e:Int):0≤(qA3 l p e).1∧(qA3 l p e).1<16:=by
 have:=qS0 (qAt l p e).1;unfold qA3;split
 all_goals (simp only;omega)
theorem qFu (l:Bs) (p:Nat) (e:Int) (h:p≤l.length):p≤(qA3 l p e).2.1∧(qA3 l p e).2.1≤l.length:=by
 have:=qHi l p e h;unfold qA3;split
 all_goals (simp only;omega)
def h0 (l:Bs) (second:Bool) (p:Nat) (e:Int):Int×Nat×Int:=
  ((qA3 l p e).1,(qA3 l p e).2.1,if second=true∧¬(qA3 l p e).1=13 then qCa (qA3 l p e).2.2 41 else (qA3 l p e).2.2)
def h1 (l:Bs) (second:Bool) (p:Nat) (e:Int):Int×Nat×Int:=
  (16*(h0 l second p e).1+(qA3 l (h0 l second p e).2.1 (h0 l second p e).2.2).1,(qA3 l (h0 l second p e).2.1 (h0 l second p e).2.2).2.1,
   if second=decide (220≤16*(h0 l second p e).1+(qA3 l (h0 l second p e).2.1 (h0 l second p e).2.2).1∧16*(h0 l second p e).1+(qA3 l (h0 l second p e).2.1 (h0 l second p e).2.2).1≤223)
   then (qA3 l (h0 l second p e).2.1 (h0 l second p e).2.2).2.2 else qCa (qA3 l (h0 l second p e).2.1 (h0 l second p e).2.2).2.2 41)
def h2 (l:Bs) (second:Bool) (p:Nat) (e:Int):Int×Nat×Int:=
  (16*(h1 l second p e).1+(qA3 l (h1 l second p e).2.1 (h1 l second p e).2.2).1,(qA3 l (h1 l second p e).2.1 (h1 l second p e).2.2).2.1,(qA3 l (h1 l second p e).2.1 (h1 l second p e).2.2).2.2)
def qBj (l:Bs) (second:Bool) (p:Nat) (e:Int):Int×Nat×Int:=
  (16*(h2 l second p e).1+(qA3 l (h2 l second p e).2.1 (h2 l second p e).2.2).1,(qA3 l (h2 l second p e).2.1 (h2 l second p e).2.2).2.1,(qA3 l (h2 l second p e).2.1 (h2 l second p e).2.2).2.2)
theorem zBw (l:Bs) (second:Bool) (p:Nat) (e:Int):0≤(h0 l second p e).1∧(h0 l second p e).1<16:=qCn l p e
theorem qZ8 (l:Bs) (second:Bool) (p:Nat) (e:Int) (h:p≤l.length):p≤(h0 l second p e).2.1∧(h0 l second p e).2.1≤l.length:=qFu l p e h
theorem zBz (l:Bs) (second:Bool) (p:Nat) (e:Int):0≤(h1 l second p e).1∧(h1 l second p e).1<256:=by
 have:=zBw l second p e;have:=qCn l (h0 l second p e).2.1 (h0 l second p e).2.2;unfold h1;simp only;omega
theorem zAc (l:Bs) (second:Bool) (p:Nat) (e:Int) (h:p≤l.length):p≤(h1 l second p e).2.1∧(h1 l second p e).2.1≤l.length:=by
 have a:=qZ8 l second p e h;have:=qFu l (h0 l second p e).2.1 (h0 l second p e).2.2 a.2;unfold h1;simp only;omega
theorem zB6 (l:Bs) (second:Bool) (p:Nat) (e:Int):0≤(h2 l second p e).1∧(h2 l second p e).1<4096:=by
 have:=zBz l second p e;have:=qCn l (h1 l second p e).2.1 (h1 l second p e).2.2;unfold h2;simp only;omega
theorem zBn (l:Bs) (second:Bool) (p:Nat) (e:Int) (h:p≤l.length):p≤(h2 l second p e).2.1∧(h2 l second p e).2.1≤l.length:=by
 have a:=zAc l second p e h;have:=qFu l (h1 l second p e).2.1 (h1 l second p e).2.2 a.2;unfold h2;simp only;omega
theorem qM6 (l:Bs) (second:Bool) (p:Nat) (e:Int):0≤(qBj l second p e).1∧(qBj l second p e).1<65536:=by
 have:=zB6 l second p e;have:=qCn l (h2 l second p e).2.1 (h2 l second p e).2.2;unfold qBj;simp only;omega
theorem qJe (l:Bs) (second:Bool) (p:Nat) (e:Int) (h:p≤l.length):p≤(qBj l second p e).2.1∧(qBj l second p e).2.1≤l.length:=by
 have a:=zBn l second p e h;have:=qFu l (h2 l second p e).2.1 (h2 l second p e).2.2 a.2;unfold qBj;simp only;omega
def qIo (l:Bs):Bool:=
  decide (firstT (bt l 0)%8≤l.length)||(decide (1<l.length)&&(decide (bt l 1<accLo (firstT (bt l 0)/16))||decide (accHi (firstT (bt l 0)/16)<bt l 1)))||(decide (2<l.length)&&(decide (bt l 2<128)||decide (191<bt l 2)))
def qBg (l:Bs) (p:Nat) (e:Int):Bs×Nat×Int:=
  if bt l p<32 then ([],p,qCa e 41)
  else if (qC2 (l.drop p)).2.2=true then ((l.drop p).take (qC2 (l.drop p)).2.1,p+(qC2 (l.drop p)).2.1,e)
  else if qIo (l.drop p)=true then ([],p,qCa e 40) else ([],p,qCa e 3)
def qHn (c:Int):Option Int:=
  if c=34 then some 34 else if c=92 then some 92 else if c=98 then some 8 else if c=102 then some 12 else if c=110 then some 10 else if c=114 then some 13 else if c=116 then some 9 else none
def rdPair (l:Bs) (p3:Nat) (e3 n:Int):Bs×Nat×Int:=
  let w1:=qBd l 92 p3 e3
  let w2:=qBd l 117 w1.1 w1.2
  let h:=qBj l true w2.1 w2.2
  if h.2.2=0 then (encodeRune (65536+(n-55296)*1024+h.1-56320),h.2.1,h.2.2) else ([],h.2.1,h.2.2)
def qEz (l:Bs) (p e:Nat×Int):Bs×Nat×Int:=
  let h:=qBj l false p.1 e.2
  if 55296≤h.1∧h.1<56320 then rdPair l h.2.1 h.2.2 h.1
  else if h.2.2=0 then (encodeRune h.1,h.2.1,h.2.2) else ([],h.2.1,h.2.2)
def qAw (l:Bs) (p:Nat) (e:Int):Bs×Nat×Int:=
  let t:=qAt l p e
  if t.1=47 then ([47],t.2.1,t.2.2)
  else match qHn t.1 with
   |some k=>(encodeRune k,t.2.1,t.2.2)
   |none=>qEz l (t.2.1,0) (0,if t.1=117 then t.2.2 else qCa t.2.2 41)
theorem qE8 (l:Bs) (c:Int) (p:Nat) (e:Int) (h:p≤l.length):p≤(qBd l c p e).1∧(qBd l c p e).1≤l.length:=qHi l p e h
theorem qUd (l:Bs) (p3:Nat) (e3 n:Int) (h:p3≤l.length):p3≤(rdPair l p3 e3 n).2.1∧(rdPair l p3 e3 n).2.1≤l.length:=by
 have a:=qE8 l 92 p3 e3 h;have b:=qE8 l 117 (qBd l 92 p3 e3).1 (qBd l 92 p3 e3).2 a.2;have c:=qJe l true (qBd l 117 (qBd l 92 p3 e3).1 (qBd l 92 p3 e3).2).1 (qBd l 117 (qBd l 92 p3 e3).1 (qBd l 92 p3 e3).2).2 b.2;unfold rdPair;simp only;split <;> (simp only;omega)
theorem qUh (l:Bs) (p e:Nat×Int) (h:p.1≤l.length):p.1≤(qEz l p e).2.1∧(qEz l p e).2.1≤l.length:=by
 have a:=qJe l false p.1 e.2 h;unfold qEz;simp only;split
 · have b:=qUd l (qBj l false p.1 e.2).2.1 (qBj l false p.1 e.2).2.2 (qBj l false p.1 e.2).1 a.2;omega
 · split <;> (simp only;omega)
theorem qOl (l:Bs) (p:Nat) (e:Int) (h:p≤l.length):p≤(qAw l p e).2.1∧(qAw l p e).2.1≤l.length:=by
 have a:=qHi l p e h;unfold qAw;simp only;split
 · simp only;omega
 · split
   · simp only;omega
   · have b:=qUh l ((qAt l p e).2.1,0) (0,if (qAt l p e).1=117 then (qAt l p e).2.2 else qCa (qAt l p e).2.2 41) a.2;simp only at b;omega
theorem qRp (l:Bs) (p:Nat) (e:Int) (h:p<l.length):p≤(qBg l p e).2.1∧(qBg l p e).2.1≤l.length∧(e=0→(qBg l p e).2.2=0→p<(qBg l p e).2.1):=by
 unfold qBg;split
 · refine⟨by simp,by simp only;omega,fun he h1=>?_⟩;simp only[qCa,he,if_true] at h1;omega
 · split
   · rename_i hn
     rcases qC6 (l.drop p) with e1|⟨r,h1,h2,h3⟩
     · rw[e1] at hn;simp at hn
     · have hl:=qAz r;have:=congrArg List.length h3;simp only[List.length_append,List.length_drop] at this;rw[h2];refine⟨by simp only;omega,by simp only;omega,fun _ _=>by simp only;omega⟩
   · split
     · refine⟨by simp,by simp only;omega,fun he h1=>?_⟩;simp only[qCa,he,if_true] at h1;omega
     · refine⟨by simp,by simp only;omega,fun he h1=>?_⟩;simp only[qCa,he,if_true] at h1;omega
theorem qFf (l:Bs) (p:Nat) (e:Int):(qAw l p e).1.length≤4:=by
 unfold qAw qEz rdPair;simp only;repeat' split
 all_goals first|exact(qAz _).2|simp
theorem qGk (l:Bs) (p:Nat) (e:Int):(qBg l p e).1.length≤4:=by
 unfold qBg;repeat' split
 · simp
 · rename_i hn
   rcases qC6 (l.drop p) with e1|⟨r,h1,h2,h3⟩
   · rw[e1] at hn;simp at hn
   · have hl:=qAz r;rw[h2];simp only[List.length_take];omega
 · simp
 · simp
def uqGo (l:Bs):Nat→Bs→Nat→Int→Bs×Nat×Int
  |0,_,_,_=>([],0,0)
  |n+1,acc,p,e=>
   if e=0 then
     if p=l.length then ([],0,3)
     else if bt l p=34 then (acc,p+1,0)
     else if bt l p=92 then uqGo l n (acc++(qAw l (p+1) 0).1) (qAw l (p+1) 0).2.1 (qAw l (p+1) 0).2.2
     else uqGo l n (acc++(qBg l p 0).1) (qBg l p 0).2.1 (qBg l p 0).2.2
   else ([],0,e)
theorem qBp (l:Bs) (n:Nat) (acc:Bs) (p:Nat) (e:Int):uqGo l (n+1) acc p e=if e=0 then (if p=l.length then ([],0,3) else if bt l p=34 then (acc,p+1,0)
      else if bt l p=92 then uqGo l n (acc++(qAw l (p+1) 0).1) (qAw l (p+1) 0).2.1 (qAw l (p+1) 0).2.2
      else uqGo l n (acc++(qBg l p 0).1) (qBg l p 0).2.1 (qBg l p 0).2.2) else ([],0,e):=rfl
def qDm (l:Bs):Bs×Nat×Int:=uqGo l (l.length+2) [] (qBd l 34 0 0).1 (qBd l 34 0 0).2
theorem qOm (s:ByteArray) (pos:Nat):Utf8.decode s pos=decodeL (s.data.toList.drop pos):=by
 rw[decode_at,qH3]
 have hg:∀k,s.get! k=s.data.toList.getD k 0:=by
  intro k;have hs:s=⟨s.data.toList.toArray⟩:=by cases s;simp
  have key:∀s':ByteArray,s'=⟨s.data.toList.toArray⟩→s'.get! k=s.data.toList.getD k 0:=fun s' h=>by rw[h];exact get!_list _ _
  exact key s hs
 simp only[hg,bt,List.length_drop,Array.length_toList,ByteArray.size_data,List.getD_eq_getElem?_getD,List.getElem?_drop,Nat.add_zero]
def esc2 (r:Int):Option Int:=
  if r=34 then some 34 else if r=92 then some 92 else if r=8 then some 98 else if r=12 then some 102 else if r=10 then some 110 else if r=13 then some 114 else if r=9 then some 116 else none
def hexd (n:Nat):UInt8:=if n<10 then (48+n).toUInt8 else (87+n).toUInt8
def qb (c:UInt8):Bs:=
  match esc2 c.toNat with
  |some x=>[92,x.toNat.toUInt8]
  |none=>if c.toNat<32 then [92,117,48,48,hexd (c.toNat/16),hexd (c.toNat%16)] else [c]
def qK0 (l:Bs):Bs:=34::(l.flatMap qb++[34])
theorem qMc:∀(n:Nat) (l:Bs),l.length≤n→validGoD n l=validD l:=by
 intro n
 induction n using Nat.strongRecOn with
 | ind n ih=>
  intro l hl
  cases n with
  |zero=>
   have:l=[]:=List.eq_nil_of_length_eq_zero (by omega);subst this;rfl
  | succ n=>
   cases l with
   |nil=>rfl
   |cons a t=>
    unfold validD;simp only[List.length_cons,validGoD];have hw:=decodeL_width (a::t);have h2:((a::t).drop (decodeL (a::t)).2).length≤t.length:=by simp;omega
    rw[ih n (by omega) _ (by simp at hl h2 ⊢;omega)];by_cases hn:t.length=n
    · rw[hn,ih n (by omega) _ (by rw[←hn];exact h2)]
    · rw[ih t.length (by simp at hl;omega) _ h2]
theorem qQv (l:Bs) (h:l≠[]):validD l=if (decodeL l).1=65533∧(decodeL l).2=1 then false else validD (l.drop (decodeL l).2):=by
 obtain⟨a,t,rfl⟩:=List.exists_cons_of_ne_nil h;have hw:=decodeL_width (a::t);show validGoD (a::t).length (a::t)=_
 simp only[List.length_cons,validGoD];rw[qMc _ _ (by simp;omega)];rfl
theorem qKo (l:Bs) (h:l≠[]):validD l=if (qC2 l).2.2=true then validD (l.drop (qC2 l).2.1) else false:=by
 rw[qQv l h];have hw:=decodeL_width l;unfold qC2;rw[if_neg h];by_cases hc:(decodeL l).1=65533∧(decodeL l).2<2
 · rw[if_pos hc,if_pos ⟨hc.1,by omega⟩];simp
 · rw[if_neg hc,if_neg (by omega)];simp
theorem qN8 (l:Bs) (h:l≠[]) (hv:validD l=true):∃r:Int,qBx r=true∧qC2 l=(r.toNat,(encodeRune r).length,true)∧l=encodeRune r++l.drop (encodeRune r).length∧validD (l.drop (encodeRune r).length)=true:=by
 rw[qKo l h] at hv;rcases qC6 l with e|⟨r,h1,h2,h3⟩
 · rw[e] at hv;simp at hv
 · refine⟨r,h1,h2,h3,?_⟩;rw[h2] at hv
   simpa using hv
theorem qVk (l:Bs) (r:Int) (h:l≠[]) (h2:qC2 l=(r.toNat,(encodeRune r).length,true)):decodeL l=(r.toNat,(encodeRune r).length):=by
 unfold qC2 at h2;rw[if_neg h] at h2;split at h2
 · simp at h2
 · simp only[Prod.mk.injEq] at h2;exact Prod.ext h2.1 h2.2.1
theorem qYk (c:UInt8) (h:128≤c.toNat):qb c=[c]:=by
 unfold qb esc2;simp only[show ¬((c.toNat:Int)=34) by omega,show ¬((c.toNat:Int)=92) by omega,show ¬((c.toNat:Int)=8) by omega,show ¬((c.toNat:Int)=12) by omega,show ¬((c.toNat:Int)=10) by omega,show ¬((c.toNat:Int)=13) by omega,show ¬((c.toNat:Int)=9) by omega,if_false];rw[if_neg (by omega)]
theorem qEl {r:Int} (h0:0≤r) (h1:r≤127):encodeRune r=[r.toNat.toUInt8]:=by
 unfold encodeRune;rw[encodeRuneZ_one h0 h1];rfl
theorem qP6 {r:Int} (h:qBx r=true) (h1:128≤r):∀c∈encodeRune r,128≤c.toNat:=by
 rw[qA4] at h
 have key:∀x:Int,x∈encodeRuneZ r→128≤x:=by
  intro x hx;by_cases c1:r≤2047
  · rw[encodeRuneZ_two (by omega) c1] at hx;simp at hx;omega
  by_cases c2:r≤65535
  · rw[encodeRuneZ_three (by omega)] at hx;simp at hx;omega
  · rw[encodeRuneZ_four (by omega) (by omega)] at hx;simp at hx;omega
 intro c hc;unfold encodeRune at hc;rw[List.mem_map] at hc;obtain⟨x,hx,rfl⟩:=hc;have:=key x hx;have:=encodeRuneZ_byte r x hx;rw[qAx (by omega) (by omega)];omega
theorem qTk:∀l:Bs,(∀c∈l,128≤c.toNat)→l.flatMap qb=l:=by
 intro l h
 induction l with
 |nil=>rfl
 |cons a t ih=>rw[List.flatMap_cons,qYk a (h a (by simp)),ih (fun c hc=>h c (by simp[hc]))];rfl
theorem qLf {r:Int} (h0:0≤r) (h1:r≤127):((r.toNat.toUInt8).toNat:Int)=r:=qLa h0 (by omega)
theorem zB7 {r x:Int} (h:qBx r=true) (hx:esc2 r=some x):(encodeRune r).flatMap qb=[92,x.toNat.toUInt8]:=by
 have hr:0≤r∧r≤127:=by
  rw[qA4] at h;unfold esc2 at hx;repeat' split at hx
  all_goals first|omega|(cases hx)
 rw[qEl hr.1 hr.2];simp only[List.flatMap_cons,List.flatMap_nil,List.append_nil,qb];rw[qLf hr.1 hr.2,hx]
theorem zB3 {r:Int} (h0:0≤r) (hx:esc2 r=none) (h1:r<32):(encodeRune r).flatMap qb=[92,117,48,48,hexd (r.toNat/16),hexd (r.toNat%16)]:=by
 rw[qEl h0 (by omega)];simp only[List.flatMap_cons,List.flatMap_nil,List.append_nil,qb];rw[qLf h0 (by omega),hx];have e:(r.toNat.toUInt8).toNat=r.toNat:=by have:=qLf h0 (by omega:r≤127);omega
 simp only[e];rw[if_pos (by omega)]
theorem qZ1 {r:Int} (h:qBx r=true) (hx:esc2 r=none) (h1:¬r<32):(encodeRune r).flatMap qb=encodeRune r:=by
 by_cases c:r≤127
 · rw[qEl (by omega) c];simp only[List.flatMap_cons,List.flatMap_nil,List.append_nil,qb];rw[qLf (by omega) c,hx];have e:(r.toNat.toUInt8).toNat=r.toNat:=by have:=qLf (by omega:0≤r) c;omega
   simp only[e];rw[if_neg (by omega)]
 · exact qTk _ (qP6 h (by omega))
def zAw (l:Bs):Bs:=if validD l=true then qK0 l else []
def qId (l:Bs):Int:=match parseIntB 64 l with
 | .ok v=>v
 | .range=>intSat 64 l
 |_=>0
def zCb:Bs:=[116,114,117,101]
def qNb:Bs:=[110,117,108,108]
def kMay (k:Int):Bool:=decide (1≤k)&&decide (k≤5)
def kIs (k n:Int) (s:Bs):Bool:=
  if k=1 then decide (s=[])&&decide (0≤n)&&decide (n≤1)
  else if k=2 then decide (s=[])&&decide (-2147483648≤n)&&decide (n≤2147483647)
  else if k=3 then decide (s=[])&&decide (-9223372036854775808≤n)&&decide (n≤9223372036854775807)
  else if k=4 then decide (n=0)&&decide (s.length≤1024)&&validD s
  else decide (n=0)&&decide (s.length≤1024)
def kOk (k:Int) (tn nu:Bool) (n:Int) (s:Bs):Bool:=if nu=true then tn&&decide (n=0)&&decide (s=[]) else kIs k n s
def qA1 (k:Int) (tn nu:Bool) (n:Int) (s:Bs):Int:=if kMay k=true then (if kOk k tn nu n s=true then 0 else 90) else 2
def qF4 (k n:Int) (s:Bs):Bs:=if k=1 then formatBool (n==1) else if k=2∨k=3 then itoa n else if k=4 then zAw s else hexD s
def qBy (k:Int) (tn nu:Bool) (n:Int) (s:Bs):Bs:=if qA1 k tn nu n s=0 then (if nu=true then qNb else qF4 k n s) else []
def qCf (k:Int) (l:Bs):Int×Bs:=if k=1 then (if l=zCb then 1 else 0,[]) else if k=2∨k=3 then (qId l,[]) else if k=4 then (0,(qDm l).1) else (0,qLg l)
def qBt (k:Int) (l:Bs):Bool×Int×Bs:=if l=qNb then (true,0,[]) else (false,(qCf k l).1,(qCf k l).2)
def qBr (k:Int) (tn:Bool) (l:Bs):(Bool×Int×Bs)×Int:=
  if kMay k=true then (if qA1 k tn (qBt k l).1 (qBt k l).2.1 (qBt k l).2.2=0∧qBy k tn (qBt k l).1 (qBt k l).2.1 (qBt k l).2.2=l then (qBt k l,0) else ((false,0,[]),4)) else ((false,0,[]),2)
open Go.RowKit
abbrev Cl:=Bool×Int×ByteArray
abbrev Ty:=Int×Bool
def clV (c:Cl):List Value:=[.bool c.1,.int .i64 c.2.1,.string c.2.2]
def rowV (l:List Cl):List Value:=l.flatMap clV
def intV (l:List Int):List Value:=l.map (Value.int .i64)
def Lay (w:World) (B:Nat) (A:Option Addr) (xs:List Value):Prop:= ∀j u,xs[j]?=some u→∃g o,A=some ⟨g,o,none⟩∧g<B∧w.cell? ⟨g,o+j,none⟩=some u
namespace Lay
variable {w w':World} {B B':Nat} {A:Option Addr} {xs:List Value}
theorem keep (h:Lay w B A xs) (hk:∀p:Addr,p.block<B→w'.cell? p=w.cell? p):Lay w' B A xs:=fun j u hu=>by
 obtain⟨g,o,e,hb,hc⟩:=h j u hu;exact⟨g,o,e,hb,(hk _ hb).trans hc⟩
theorem more (h:Lay w B A xs) (hB:B≤B'):Lay w B' A xs:=fun j u hu=>by
 obtain⟨g,o,e,hb,hc⟩:=h j u hu;exact⟨g,o,e,by omega,hc⟩
theorem below (h:Lay w B A xs) (hb:Below B w w'):Lay w' B A xs:=h.keep fun _ hp=>hb.cell hp
theorem some_ (h:Lay w B A xs) (hx:0<xs.length):∃g o,A=some ⟨g,o,none⟩∧g<B∧∀j u,xs[j]?=some u→w.cell? ⟨g,o+j,none⟩=some u:=by
 obtain⟨g,o,e,hb,_⟩:=h 0 _ (List.getElem?_eq_getElem hx);refine⟨g,o,e,hb,fun j u hu=>?_⟩;obtain⟨g',o',e',_,hc⟩:=h j u hu;rw[e] at e';cases e'
 exact hc
theorem of_own {base size n c:Nat} {e:TypeId} (h:w.ownsRow base e size (.slice A n c) n xs) (hB:w.heap.size≤B):Lay w B A xs:=fun j u hu=>by
 have hj:j<xs.length:=(List.getElem?_eq_some_iff.1 hu).1;rcases h.2 with⟨_,h0⟩|⟨g,cap,cur,hv,_,hg,_⟩
 · have:=h.1;rw[h0] at this;omega
 · have hA:A=some ⟨g,0,none⟩:=by injection hv
   subst hA;have hlt:g<w.heap.size:=(Array.getElem?_eq_some_iff.1 hg).1;refine⟨_,_,rfl,by omega,?_⟩;have:=h.cells (g:=g) rfl j u hu;rw[Addr.add_lit] at this;exact this
theorem take (h:Lay w B A xs) (n:Nat):Lay w B A (xs.take n):=fun j u hu=>by
 refine h j u ?_;rw[List.getElem?_take] at hu;split at hu
 · exact hu
 · cases hu
end Lay
theorem qIs (l:List Cl):(rowV l).length=l.length*3:=by
 induction l with
 |nil=>rfl
 |cons a t ih=>show(clV a++rowV t).length=_;rw[List.length_append,ih,List.length_cons];simp[clV];omega
theorem qOb:∀(l:List Cl) (i:Nat) (c:Cl),l[i]?=some c→(rowV l)[i*3]?=some (.bool c.1)∧(rowV l)[i*3+1]?=some (.int .i64 c.2.1)∧(rowV l)[i*3+2]?=some (.string c.2.2)
  |[],i,c,h=>by simp at h
  |a::t,0,c,h=>by
   have h:a=c:=by simpa using h
   subst h;exact⟨rfl,rfl,rfl⟩
  | a::t,i+1,c,h=>by
   obtain⟨h1,h2,h3⟩:=qOb t i c (by simpa using h)
   have e:∀k,(rowV (a::t))[(i+1)*3+k]?=(rowV t)[i*3+k]?:=fun k=>by
    show(clV a++rowV t)[(i+1)*3+k]?=_
    rw[List.getElem?_append_right (by simp[clV];omega)];congr 1
    simp[clV];omega
   exact⟨(e 0).trans h1,(e 1).trans h2,(e 2).trans h3⟩
theorem qIq (l m:List Cl):rowV (l++m)=rowV l++rowV m:=List.flatMap_append
theorem qY7 (l:List Int) (i:Nat) (p:Int) (h:l[i]?=some p):(intV l)[i]?=some (.int .i64 p):=by simp[intV,h]
theorem Lay.cl {w:World} {B:Nat} {A:Option Addr} {l:List Cl} {i:Nat} {c:Cl} (h:Lay w B A (rowV l)) (hi:l[i]?=some c) :
    ∃g o,A=some ⟨g,o,none⟩∧g<B∧w.cell? ⟨g,o+i*3,none⟩=some (.bool c.1)∧w.cell? ⟨g,o+i*3+1,none⟩=some (.int .i64 c.2.1)∧w.cell? ⟨g,o+i*3+2,none⟩=some (.string c.2.2):=by
 obtain⟨h1,h2,h3⟩:=qOb l i c hi;have hl:i<l.length:=(List.getElem?_eq_some_iff.1 hi).1;obtain⟨g,o,e,hb,hc⟩:=h.some_ (by rw[qIs];omega);exact⟨g,o,e,hb,hc _ _ h1,hc _ _ h2,hc _ _ h3⟩
theorem Lay.num {w:World} {B:Nat} {A:Option Addr} {l:List Int} {i:Nat} {p:Int} (h:Lay w B A (intV l)) (hi:l[i]?=some p) :
    ∃g o,A=some ⟨g,o,none⟩∧g<B∧w.cell? ⟨g,o+i,none⟩=some (.int .i64 p):=by
 have h1:=qY7 l i p hi;have hl:i<l.length:=(List.getElem?_eq_some_iff.1 hi).1;obtain⟨g,o,e,hb,hc⟩:=h.some_ (by simp[intV];omega);exact⟨g,o,e,hb,hc _ _ h1⟩
structure Cols (w:World) (B:Nat) (A:Option Addr) (ts:List Ty) (xs:List Value):Prop where
  len:xs.length=ts.length*7
  lay:Lay w B A xs
  kind:∀(i:Nat) t,ts[i]?=some t→xs[i*7+2]?=some (.int .i64 t.1)∧xs[i*7+3]?=some (.bool t.2)
theorem Cols.below {w w':World} {B:Nat} {A:Option Addr} {ts:List Ty} {xs:List Value} (h:Cols w B A ts xs) (hb:Below B w w'):Cols w' B A ts xs:=⟨h.len,h.lay.below hb,h.kind⟩
theorem Cols.more {w:World} {B B':Nat} {A:Option Addr} {ts:List Ty} {xs:List Value} (h:Cols w B A ts xs) (hB:B≤B'):Cols w B' A ts xs:=⟨h.len,h.lay.more hB,h.kind⟩
theorem Cols.ty {w:World} {B:Nat} {A:Option Addr} {ts:List Ty} {xs:List Value} {i:Nat} {t:Ty} (h:Cols w B A ts xs) (hi:ts[i]?=some t) :
    ∃g o,A=some ⟨g,o,none⟩∧g<B∧w.cell? ⟨g,o+i*7+2,none⟩=some (.int .i64 t.1)∧w.cell? ⟨g,o+i*7+2+1,none⟩=some (.bool t.2):=by
 obtain⟨h1,h2⟩:=h.kind i t hi;have hl:i<ts.length:=(List.getElem?_eq_some_iff.1 hi).1;obtain⟨g,o,e,hb,hc⟩:=h.lay.some_ (by rw[h.len];omega);exact⟨g,o,e,hb,hc _ _ h1,hc _ _ h2⟩
end Go.Ms
namespace Go.Ms
def zCl:Cl:=(false,0,⟨#[]⟩)
def qDw (t:Ty) (c:Cl):Int:=qA1 t.1 t.2 c.1 c.2.1 c.2.2.data.toList
def unCl (x:Bool×Int×Bs):Cl:=(x.1,x.2.1,⟨x.2.2.toArray⟩)
def qCv:List Ty→List Cl→Int
  |t::ts,c::cs=>if qDw t c=0 then qCv ts cs else qDw t c
  |_,_=>0
def qCj (ts:List Ty) (cs:List Cl):Int:=if ts.length=cs.length then qCv ts cs else 100
end Go.Ms
