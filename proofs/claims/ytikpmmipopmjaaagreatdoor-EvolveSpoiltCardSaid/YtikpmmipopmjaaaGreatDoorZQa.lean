/- The reader of literals, as plain functions: place and error go along. Words for memory of one's own: all blocks but one stand; a struct of three fields behind a pointer. Small facts for the walks. Rows of bytes of one's own: appended to from a string or a row, read as a string. -/
import Derived.Lib.ValidU
import Derived.Lib.RuneBytes
import Derived.Lib.DecodeN
import Derived.Below
import Derived.Lib.OthersKept
import Derived.Deep.Draws
import Derived.Test.YtikpmmipopmjaaaGreatDoorRows
import Derived.Test.YtikpmmipopmjaaaGreatDoorShelf
import Derived.WalkKit
import Derived.WalkSpells
import Derived.WalkLawsBesides
import Derived.Handy
import Derived.Outline
import Derived.Laws.BytesArg
import Derived.Lib.Hide
import Derived.Deep.QuietTactic
import Derived.BigQuiet
import Derived.Deep.AppendSrc
import Derived.OwnWalk
import Derived.Deep.RegionLaw
set_option linter.unusedVariables false
namespace Go.Ms
open Go.Lib
abbrev Bs:=List UInt8
def qB9 (r:Int):Bool:=(decide (0≤r)&&decide (r<55296))||(decide (57344≤r)&&decide (r≤1114111))
theorem qA5 (r:Int):qB9 r=true↔(0≤r∧r<55296)∨(57344≤r∧r≤1114111):=by simp[qB9]
def bt (l:Bs) (i:Nat):Nat:=(l.getD i 0).toNat
theorem qEv (l:Bs) (i:Nat):bt l i<256:=UInt8.toNat_lt _
theorem get!_list (l:Bs) (i:Nat):ByteArray.get! ⟨l.toArray⟩ i=l.getD i 0:=by
 show(l.toArray)[i]! =_
 simp[List.getD_eq_getElem?_getD]
 rfl
theorem qIk (l:Bs):decodeL l=decodeN l.length (bt l 0) (bt l 1) (bt l 2) (bt l 3):=by
 unfold decodeL;rw[decode_at];simp only[get!_list,bt,Nat.zero_add,Nat.sub_zero];rfl
theorem qL0 {x:Int} (h0:0≤x) (h1:x<256):((x.toNat.toUInt8).toNat:Int)=x:=by
 simp[Nat.toUInt8];omega
theorem qH9 {a:UInt8} {x:Int} (h:(a.toNat:Int)=x):x.toNat.toUInt8=a:=by
 subst h
 simp[Nat.toUInt8]
set_option maxRecDepth 100000 in
theorem qU0 (l:Bs) (hl:l≠[]) (h:¬((decodeL l).1=65533∧(decodeL l).2<2)) :
    qB9 (decodeL l).1=true∧(decodeL l).2≤l.length∧l.take (decodeL l).2=encodeRune (decodeL l).1:=by
 obtain⟨p,hp⟩:∃p,decodeL l=p:=⟨_,rfl⟩;rw[hp] at h ⊢;rw[qIk] at hp;obtain⟨a,l,rfl⟩:=List.exists_cons_of_ne_nil hl;have ha:=UInt8.toNat_lt a;have e0:bt (a::l) 0=a.toNat:=rfl;rw[e0] at hp;unfold decodeN at hp
 split at hp
 · rename_i c
   subst hp;refine⟨by rw[qA5];simp only;omega,by simp,?_⟩
   simp only
   unfold encodeRune;rw[encodeRuneZ_one (by omega) (by omega)]
   simp[Nat.toUInt8]
 split at hp
 · rename_i c c1
   obtain⟨p1,p2,p3⟩:=c1
   match l,p2 with
   |b::l,_=>
    have e1:bt (a::b::l) 1=b.toNat:=rfl;rw[e1] at hp p3;have hb:=UInt8.toNat_lt b
    split at hp
    · subst hp;refine⟨by rw[qA5];simp only;omega,by simp,?_⟩
      simp only
      unfold encodeRune;rw[encodeRuneZ_two (by omega) (by omega)];simp only[List.take_succ_cons,List.take_zero,List.map_cons,List.map_nil];rw[qH9 (a:=a) (by omega),qH9 (a:=b) (by omega)]
    · subst hp;exact absurd ⟨rfl,by decide⟩ h
 split at hp
 · rename_i c c1 c2
   obtain⟨p1,⟨p2,p3⟩,p4,p5⟩:=c2
   match l,p4 with
   |b::d::l,_=>
    have e1:bt (a::b::d::l) 1=b.toNat:=rfl;have e2:bt (a::b::d::l) 2=d.toNat:=rfl;rw[e1] at hp p3;rw[e2] at hp p5;have hb:=UInt8.toNat_lt b;have hd:=UInt8.toNat_lt d
    split at hp
    · subst hp;refine⟨by rw[qA5];simp only;omega,by simp,?_⟩
      simp only
      unfold encodeRune;rw[encodeRuneZ_three (by omega)];simp only[List.take_succ_cons,List.take_zero,List.map_cons,List.map_nil];rw[qH9 (a:=a) (by omega),qH9 (a:=b) (by omega),qH9 (a:=d) (by omega)]
    · subst hp;exact absurd ⟨rfl,by decide⟩ h
 split at hp
 · rename_i c c1 c2 c3
   obtain⟨p1,⟨p2,p3⟩,⟨p4,p5⟩,p6,p7⟩:=c3
   match l,p6 with
   |b::d::f::l,_=>
    have e1:bt (a::b::d::f::l) 1=b.toNat:=rfl;have e2:bt (a::b::d::f::l) 2=d.toNat:=rfl;have e3:bt (a::b::d::f::l) 3=f.toNat:=rfl;rw[e1] at hp p3;rw[e2] at hp p5;rw[e3] at hp p7;have hb:=UInt8.toNat_lt b;have hd:=UInt8.toNat_lt d;have hf:=UInt8.toNat_lt f
    split at hp
    · subst hp;refine⟨by rw[qA5];simp only;omega,by simp,?_⟩
      simp only
      unfold encodeRune;rw[encodeRuneZ_four (by omega) (by omega)];simp only[List.take_succ_cons,List.take_zero,List.map_cons,List.map_nil];rw[qH9 (a:=a) (by omega),qH9 (a:=b) (by omega),qH9 (a:=d) (by omega),qH9 (a:=f) (by omega)]
    · subst hp;exact absurd ⟨rfl,by decide⟩ h
 · subst hp;exact absurd ⟨rfl,by decide⟩ h
theorem qA0 {x:Int} (h0:0≤x) (h1:x<256):(x.toNat.toUInt8).toNat=x.toNat:=by
 have:=qL0 h0 h1;omega
set_option maxRecDepth 100000 in
theorem qZl (r:Int) (m:Bs) (h:qB9 r=true):decodeL (encodeRune r++m)=(r.toNat,(encodeRune r).length):=by
 rw[qA5] at h;rw[qIk];unfold encodeRune
 by_cases c0:r≤127
 · rw[encodeRuneZ_one (by omega) c0];simp only[List.map_cons,List.map_nil,List.cons_append,List.nil_append,bt,List.getD_cons_zero,List.getD_cons_succ,List.length_cons,List.length_nil];rw[qA0 (by omega) (by omega)];unfold decodeN;rw[if_pos (by omega)]
 by_cases c1:r≤2047
 · rw[encodeRuneZ_two (by omega) c1];simp only[List.map_cons,List.map_nil,List.cons_append,List.nil_append,bt,List.getD_cons_zero,List.getD_cons_succ,List.length_cons,List.length_nil];rw[qA0 (by omega) (by omega),qA0 (by omega) (by omega)];unfold decodeN;rw[if_neg (by omega),if_pos ⟨by omega,by omega,by omega⟩,if_pos (by omega)]
   apply Prod.ext <;> simp only <;> omega
 by_cases c2:r≤65535
 · rw[encodeRuneZ_three (by omega)];simp only[List.map_cons,List.map_nil,List.cons_append,List.nil_append,bt,List.getD_cons_zero,List.getD_cons_succ,List.length_cons,List.length_nil];rw[qA0 (by omega) (by omega),qA0 (by omega) (by omega),qA0 (by omega) (by omega)];unfold decodeN;rw[if_neg (by omega),if_neg (by omega),if_pos ⟨by omega,⟨by omega,by omega⟩,by omega,by omega⟩,if_pos (by omega)]
   apply Prod.ext <;> simp only <;> omega
 · rw[encodeRuneZ_four (by omega) (by omega)];simp only[List.map_cons,List.map_nil,List.cons_append,List.nil_append,bt,List.getD_cons_zero,List.getD_cons_succ,List.length_cons,List.length_nil];rw[qA0 (by omega) (by omega),qA0 (by omega) (by omega),qA0 (by omega) (by omega),qA0 (by omega) (by omega)];unfold decodeN;rw[if_neg (by omega),if_neg (by omega),if_neg (by omega),if_pos ⟨by omega,⟨by omega,by omega⟩,⟨by omega,by omega⟩,by omega,by omega⟩,if_pos (by omega)]
   apply Prod.ext <;> simp only <;> omega
end Go.Ms
namespace Go.Ms
open Go.Lib
def put (r:Int):Bs:=if qB9 r=true then encodeRune r else []
theorem qMy {r:Int} (h:qB9 r=true):put r=encodeRune r:=by simp[put,h]
theorem qYn {r:Int} (h:qB9 r=false):put r=[]:=by simp[put,h]
def qDk (l:Bs):Nat×Nat×Bool:=if l=[] then (0,0,false) else if (decodeL l).1=65533∧(decodeL l).2<2 then (0,0,false) else ((decodeL l).1,(decodeL l).2,true)
def qBa (l:Bs):Int:=
  if l.length=1 then bt l 0
  else if l.length=2 then 64*(bt l 0%32:Nat)+(bt l 1%64:Nat)
  else if l.length=3 then 64*(64*(bt l 0%16:Nat)+(bt l 1%64:Nat))+(bt l 2%64:Nat)
  else 64*(64*(64*(bt l 0%8:Nat)+(bt l 1%64:Nat))+(bt l 2%64:Nat))+(bt l 3%64:Nat)
theorem qA2 (r:Int):1≤(encodeRune r).length∧(encodeRune r).length≤4:=by
 have:=encodeRuneZ_length r
 simpa[encodeRune] using this
set_option maxRecDepth 100000 in
theorem qSv (r:Int) (h:qB9 r=true):qBa (encodeRune r)=r:=by
 rw[qA5] at h;unfold encodeRune
 by_cases c0:r≤127
 · rw[encodeRuneZ_one (by omega) c0];simp only[qBa,List.map_cons,List.map_nil,bt,List.getD_cons_zero,List.getD_cons_succ,List.length_cons,List.length_nil];rw[qA0 (by omega) (by omega)]
   simp;omega
 by_cases c1:r≤2047
 · rw[encodeRuneZ_two (by omega) c1];simp only[qBa,List.map_cons,List.map_nil,bt,List.getD_cons_zero,List.getD_cons_succ,List.length_cons,List.length_nil];rw[qA0 (by omega) (by omega),qA0 (by omega) (by omega)]
   simp;omega
 by_cases c2:r≤65535
 · rw[encodeRuneZ_three (by omega)];simp only[qBa,List.map_cons,List.map_nil,bt,List.getD_cons_zero,List.getD_cons_succ,List.length_cons,List.length_nil];rw[qA0 (by omega) (by omega),qA0 (by omega) (by omega),qA0 (by omega) (by omega)]
   simp;omega
 · rw[encodeRuneZ_four (by omega) (by omega)];simp only[qBa,List.map_cons,List.map_nil,bt,List.getD_cons_zero,List.getD_cons_succ,List.length_cons,List.length_nil];rw[qA0 (by omega) (by omega),qA0 (by omega) (by omega),qA0 (by omega) (by omega),qA0 (by omega) (by omega)]
   simp;omega
def hit (l:Bs) (n:Nat):Bool:=qB9 (qBa (l.take n))&&put (qBa (l.take n))==l.take n
theorem qVg (l:Bs) (n:Nat):hit l n=true↔qB9 (qBa (l.take n))=true∧encodeRune (qBa (l.take n))=l.take n:=by
 unfold hit
 constructor
 · intro h
   simp only[Bool.and_eq_true,beq_iff_eq] at h;exact⟨h.1,by rw[←qMy h.1];exact h.2⟩
 · intro h
   simp only[Bool.and_eq_true,beq_iff_eq];exact⟨h.1,by rw[qMy h.1];exact h.2⟩
theorem qIr {r:Int} (h:qB9 r=true):((r.toNat:Nat):Int)=r:=by rw[qA5] at h;omega
theorem qTp:(encodeRune 65533).length=3:=by decide
theorem qJo (r:Int) (m:Bs) (h:qB9 r=true):qDk (encodeRune r++m)=(r.toNat,(encodeRune r).length,true):=by
 have hl:=qA2 r
 have hne:encodeRune r++m≠[]:=by intro e;rw[List.append_eq_nil_iff] at e;rw[e.1] at hl;simp at hl
 unfold qDk;rw[if_neg hne,qZl r m h,if_neg]
 intro⟨h1,h2⟩
 simp only at h1 h2
 have:r=65533:=by have:=qIr h;omega
 rw[this,qTp] at h2;omega
theorem qDl (l:Bs):qDk l=(0,0,false)∨∃r:Int,qB9 r=true∧qDk l=(r.toNat,(encodeRune r).length,true)∧l=encodeRune r++l.drop (encodeRune r).length:=by
 unfold qDk
 by_cases hl:l=[]
 · exact .inl (by rw[if_pos hl])
 rw[if_neg hl]
 by_cases h:(decodeL l).1=65533∧(decodeL l).2<2
 · exact .inl (by rw[if_pos h])
 · rw[if_neg h];obtain⟨a,b,c⟩:=qU0 l hl h
   have e:(encodeRune (decodeL l).1).length=(decodeL l).2:=by rw[←c];simp;omega
   refine .inr ⟨((decodeL l).1:Nat),a,by rw[e];simp,?_⟩;rw[e,←c]
   simp
theorem qXl (l:Bs) (n:Nat) (hn:n≤l.length) (h:hit l n=true):qDk l=((qBa (l.take n)).toNat,n,true):=by
 rw[qVg] at h
 have e:l=encodeRune (qBa (l.take n))++l.drop n:=by rw[h.2];simp
 have el:(encodeRune (qBa (l.take n))).length=n:=by rw[h.2];simp;omega
 have:=qJo _ (l.drop n) h.1;rw[←e,el] at this;exact this
theorem zBx (l:Bs) (h:∀n,1≤n→n≤4→n≤l.length→hit l n=false):qDk l=(0,0,false):=by
 rcases qDl l with e|⟨r,h1,h2,h3⟩
 · exact e
 · exfalso
   have hl:=qA2 r
   have hll:(encodeRune r).length≤l.length:=by have:=congrArg List.length h3;rw[List.length_append] at this;omega
   have ht:l.take (encodeRune r).length=encodeRune r:=by have:=congrArg (List.take (encodeRune r).length) h3;rw[this];simp
   have:=h _ hl.1 hl.2 hll;rw[Bool.eq_false_iff] at this
   apply this
   rw[qVg,ht,qSv r h1];exact⟨h1,rfl⟩
end Go.Ms
namespace Go.Ms
open Go.Lib
def qCp (e x:Int):Int:=if e=0 then x else e
def qAu (l:Bs) (p:Nat) (e:Int):Int×Nat×Int:=if e=0 then (if p=l.length then (0,p,3) else ((bt l p:Nat),p+1,0)) else (0,p,e)
def qBi (l:Bs) (c:Int) (p:Nat) (e:Int):Nat×Int:=((qAu l p e).2.1,if (qAu l p e).1=c then (qAu l p e).2.2 else qCp (qAu l p e).2.2 41)
def hexv (c:Int):Int:=if 48≤c∧c≤57 then c-48 else if 65≤c∧c≤70 then c-55 else if 97≤c∧c≤102 then c-87 else 16
def qA3 (l:Bs) (p:Nat) (e:Int):Int×Nat×Int:=
  if hexv (qAu l p e).1=16 then (0,(qAu l p e).2.1,qCp (qAu l p e).2.2 41) else (hexv (qAu l p e).1,(qAu l p e).2.1,(qAu l p e).2.2)
theorem qN2 (l:Bs) (p:Nat) (e:Int):0≤(qAu l p e).1∧(qAu l p e).1<256:=by
 have:=qEv l p;unfold qAu
 repeat' split
 all_goals (simp only;omega)
theorem qH7 (l:Bs) (p:Nat) (e:Int) (h:p≤l.length):p≤(qAu l p e).2.1∧(qAu l p e).2.1≤l.length:=by
 unfold qAu
 repeat' split
 all_goals (simp only;omega)
theorem qT4 (c:Int):0≤hexv c∧hexv c≤16:=by
 unfold hexv
 repeat' split
 all_goals omega
theorem qC5 (l:Bs) (p:Nat) (e:Int):0≤(qA3 l p e).1∧(qA3 l p e).1<16:=by
 have:=qT4 (qAu l p e).1;unfold qA3
 split
 all_goals (simp only;omega)
theorem qGw (l:Bs) (p:Nat) (e:Int) (h:p≤l.length):p≤(qA3 l p e).2.1∧(qA3 l p e).2.1≤l.length:=by
 have:=qH7 l p e h;unfold qA3
 split
 all_goals (simp only;omega)
def h0 (l:Bs) (second:Bool) (p:Nat) (e:Int):Int×Nat×Int:=
  ((qA3 l p e).1,(qA3 l p e).2.1,if second=true∧¬(qA3 l p e).1=13 then qCp (qA3 l p e).2.2 41 else (qA3 l p e).2.2)
def h1 (l:Bs) (second:Bool) (p:Nat) (e:Int):Int×Nat×Int:=
  (16*(h0 l second p e).1+(qA3 l (h0 l second p e).2.1 (h0 l second p e).2.2).1,(qA3 l (h0 l second p e).2.1 (h0 l second p e).2.2).2.1,
   if second=decide (220≤16*(h0 l second p e).1+(qA3 l (h0 l second p e).2.1 (h0 l second p e).2.2).1∧16*(h0 l second p e).1+(qA3 l (h0 l second p e).2.1 (h0 l second p e).2.2).1≤223)
   then (qA3 l (h0 l second p e).2.1 (h0 l second p e).2.2).2.2 else qCp (qA3 l (h0 l second p e).2.1 (h0 l second p e).2.2).2.2 41)
def h2 (l:Bs) (second:Bool) (p:Nat) (e:Int):Int×Nat×Int:=
  (16*(h1 l second p e).1+(qA3 l (h1 l second p e).2.1 (h1 l second p e).2.2).1,(qA3 l (h1 l second p e).2.1 (h1 l second p e).2.2).2.1,(qA3 l (h1 l second p e).2.1 (h1 l second p e).2.2).2.2)
def qBs (l:Bs) (second:Bool) (p:Nat) (e:Int):Int×Nat×Int:=
  (16*(h2 l second p e).1+(qA3 l (h2 l second p e).2.1 (h2 l second p e).2.2).1,(qA3 l (h2 l second p e).2.1 (h2 l second p e).2.2).2.1,(qA3 l (h2 l second p e).2.1 (h2 l second p e).2.2).2.2)
theorem zCy (l:Bs) (second:Bool) (p:Nat) (e:Int):0≤(h0 l second p e).1∧(h0 l second p e).1<16:=qC5 l p e
theorem zCa (l:Bs) (second:Bool) (p:Nat) (e:Int) (h:p≤l.length):p≤(h0 l second p e).2.1∧(h0 l second p e).2.1≤l.length:=qGw l p e h
theorem zC6 (l:Bs) (second:Bool) (p:Nat) (e:Int):0≤(h1 l second p e).1∧(h1 l second p e).1<256:=by
 have:=zCy l second p e;have:=qC5 l (h0 l second p e).2.1 (h0 l second p e).2.2
 unfold h1;simp only;omega
theorem zBb (l:Bs) (second:Bool) (p:Nat) (e:Int) (h:p≤l.length):p≤(h1 l second p e).2.1∧(h1 l second p e).2.1≤l.length:=by
 have a:=zCa l second p e h;have:=qGw l (h0 l second p e).2.1 (h0 l second p e).2.2 a.2
 unfold h1;simp only;omega
theorem zC1 (l:Bs) (second:Bool) (p:Nat) (e:Int):0≤(h2 l second p e).1∧(h2 l second p e).1<4096:=by
 have:=zC6 l second p e;have:=qC5 l (h1 l second p e).2.1 (h1 l second p e).2.2
 unfold h2;simp only;omega
theorem zBm (l:Bs) (second:Bool) (p:Nat) (e:Int) (h:p≤l.length):p≤(h2 l second p e).2.1∧(h2 l second p e).2.1≤l.length:=by
 have a:=zBb l second p e h;have:=qGw l (h1 l second p e).2.1 (h1 l second p e).2.2 a.2
 unfold h2;simp only;omega
theorem qOc (l:Bs) (second:Bool) (p:Nat) (e:Int):0≤(qBs l second p e).1∧(qBs l second p e).1<65536:=by
 have:=zC1 l second p e;have:=qC5 l (h2 l second p e).2.1 (h2 l second p e).2.2
 unfold qBs;simp only;omega
theorem qKb (l:Bs) (second:Bool) (p:Nat) (e:Int) (h:p≤l.length):p≤(qBs l second p e).2.1∧(qBs l second p e).2.1≤l.length:=by
 have a:=zBm l second p e h;have:=qGw l (h2 l second p e).2.1 (h2 l second p e).2.2 a.2
 unfold qBs;simp only;omega
def qJi (l:Bs):Bool:=
  decide (firstT (bt l 0)%8≤l.length)||(decide (1<l.length)&&(decide (bt l 1<accLo (firstT (bt l 0)/16))||decide (accHi (firstT (bt l 0)/16)<bt l 1)))||(decide (2<l.length)&&(decide (bt l 2<128)||decide (191<bt l 2)))
def qBk (l:Bs) (p:Nat) (e:Int):Bs×Nat×Int:=
  if bt l p<32 then ([],p,qCp e 41)
  else if (qDk (l.drop p)).2.2=true then ((l.drop p).take (qDk (l.drop p)).2.1,p+(qDk (l.drop p)).2.1,e)
  else if qJi (l.drop p)=true then ([],p,qCp e 40) else ([],p,qCp e 3)
def qIc (c:Int):Option Int:=
  if c=34 then some 34 else if c=92 then some 92 else if c=98 then some 8 else if c=102 then some 12 else if c=110 then some 10 else if c=114 then some 13 else if c=116 then some 9 else none
def rdPair (l:Bs) (p3:Nat) (e3 n:Int):Bs×Nat×Int:=
  let w1:=qBi l 92 p3 e3
  let w2:=qBi l 117 w1.1 w1.2
  let h:=qBs l true w2.1 w2.2
  if h.2.2=0 then (encodeRune (65536+(n-55296)*1024+h.1-56320),h.2.1,h.2.2) else ([],h.2.1,h.2.2)
def qFx (l:Bs) (p e:Nat×Int):Bs×Nat×Int:=
  let h:=qBs l false p.1 e.2
  if 55296≤h.1∧h.1<56320 then rdPair l h.2.1 h.2.2 h.1
  else if h.2.2=0 then (encodeRune h.1,h.2.1,h.2.2) else ([],h.2.1,h.2.2)
def qAy (l:Bs) (p:Nat) (e:Int):Bs×Nat×Int:=
  let t:=qAu l p e
  if t.1=47 then ([47],t.2.1,t.2.2)
  else match qIc t.1 with
   |some k=>(encodeRune k,t.2.1,t.2.2)
   |none=>qFx l (t.2.1,0) (0,if t.1=117 then t.2.2 else qCp t.2.2 41)
theorem qF7 (l:Bs) (c:Int) (p:Nat) (e:Int) (h:p≤l.length):p≤(qBi l c p e).1∧(qBi l c p e).1≤l.length:=qH7 l p e h
theorem qVl (l:Bs) (p3:Nat) (e3 n:Int) (h:p3≤l.length):p3≤(rdPair l p3 e3 n).2.1∧(rdPair l p3 e3 n).2.1≤l.length:=by
 have a:=qF7 l 92 p3 e3 h;have b:=qF7 l 117 (qBi l 92 p3 e3).1 (qBi l 92 p3 e3).2 a.2;have c:=qKb l true (qBi l 117 (qBi l 92 p3 e3).1 (qBi l 92 p3 e3).2).1 (qBi l 117 (qBi l 92 p3 e3).1 (qBi l 92 p3 e3).2).2 b.2;unfold rdPair
 simp only
 split <;> (simp only;omega)
theorem qT3 (l:Bs) (p e:Nat×Int) (h:p.1≤l.length):p.1≤(qFx l p e).2.1∧(qFx l p e).2.1≤l.length:=by
 have a:=qKb l false p.1 e.2 h;unfold qFx
 simp only
 split
 · have b:=qVl l (qBs l false p.1 e.2).2.1 (qBs l false p.1 e.2).2.2 (qBs l false p.1 e.2).1 a.2;omega
 · split <;> (simp only;omega)
theorem qQo (l:Bs) (p:Nat) (e:Int) (h:p≤l.length):p≤(qAy l p e).2.1∧(qAy l p e).2.1≤l.length:=by
 have a:=qH7 l p e h;unfold qAy
 simp only
 split
 · simp only;omega
 · split
   · simp only;omega
   · have b:=qT3 l ((qAu l p e).2.1,0) (0,if (qAu l p e).1=117 then (qAu l p e).2.2 else qCp (qAu l p e).2.2 41) a.2;simp only at b;omega
theorem qS4 (l:Bs) (p:Nat) (e:Int) (h:p<l.length):p≤(qBk l p e).2.1∧(qBk l p e).2.1≤l.length∧(e=0→(qBk l p e).2.2=0→p<(qBk l p e).2.1):=by
 unfold qBk
 split
 · refine⟨by simp,by simp only;omega,fun he h1=>?_⟩
   simp only[qCp,he,if_true] at h1;omega
 · split
   · rename_i hn
     rcases qDl (l.drop p) with e1|⟨r,h1,h2,h3⟩
     · rw[e1] at hn;simp at hn
     · have hl:=qA2 r;have:=congrArg List.length h3;simp only[List.length_append,List.length_drop] at this;rw[h2];refine⟨by simp only;omega,by simp only;omega,fun _ _=>by simp only;omega⟩
   · split
     · refine⟨by simp,by simp only;omega,fun he h1=>?_⟩
       simp only[qCp,he,if_true] at h1;omega
     · refine⟨by simp,by simp only;omega,fun he h1=>?_⟩
       simp only[qCp,he,if_true] at h1;omega
theorem qF6 (l:Bs) (p:Nat) (e:Int):(qAy l p e).1.length≤4:=by
 unfold qAy qFx rdPair
 simp only
 repeat' split
 all_goals first|exact(qA2 _).2|simp
theorem qHn (l:Bs) (p:Nat) (e:Int):(qBk l p e).1.length≤4:=by
 unfold qBk
 repeat' split
 · simp
 · rename_i hn
   rcases qDl (l.drop p) with e1|⟨r,h1,h2,h3⟩
   · rw[e1] at hn;simp at hn
   · have hl:=qA2 r
     rw[h2];simp only[List.length_take];omega
 · simp
 · simp
def uqGo (l:Bs):Nat→Bs→Nat→Int→Bs×Nat×Int
  |0,_,_,_=>([],0,0)
  |n+1,acc,p,e=>
   if e=0 then
     if p=l.length then ([],0,3)
     else if bt l p=34 then (acc,p+1,0)
     else if bt l p=92 then uqGo l n (acc++(qAy l (p+1) 0).1) (qAy l (p+1) 0).2.1 (qAy l (p+1) 0).2.2
     else uqGo l n (acc++(qBk l p 0).1) (qBk l p 0).2.1 (qBk l p 0).2.2
   else ([],0,e)
theorem qB2 (l:Bs) (n:Nat) (acc:Bs) (p:Nat) (e:Int):uqGo l (n+1) acc p e=if e=0 then (if p=l.length then ([],0,3) else if bt l p=34 then (acc,p+1,0)
      else if bt l p=92 then uqGo l n (acc++(qAy l (p+1) 0).1) (qAy l (p+1) 0).2.1 (qAy l (p+1) 0).2.2
      else uqGo l n (acc++(qBk l p 0).1) (qBk l p 0).2.1 (qBk l p 0).2.2) else ([],0,e):=rfl
def qEd (l:Bs):Bs×Nat×Int:=uqGo l (l.length+2) [] (qBi l 34 0 0).1 (qBi l 34 0 0).2
end Go.Ms
namespace Go.Ms
open Go.RowKit Go.Lib
structure Kept (R:Nat) (w w':World):Prop where
  os:w'.os=w.os
  tape:w'.tape=w.tape
  output:w'.output=w.output
  size:w.heap.size≤w'.heap.size
  block:∀k,k<w.heap.size→k≠R→w'.heap[k]?=w.heap[k]?
namespace Kept
variable {R B:Nat} {a w w':World}
theorem refl (R:Nat) (w:World):Kept R w w:=⟨rfl,rfl,rfl,Nat.le_refl _,fun _ _ _=>rfl⟩
theorem trans (h:Kept R a w) (k:Kept R w w'):Kept R a w':=
  ⟨k.os.trans h.os,k.tape.trans h.tape,k.output.trans h.output,Nat.le_trans h.size k.size,fun i hi hr=>(k.block i (Nat.lt_of_lt_of_le hi h.size) hr).trans (h.block i hi hr)⟩
theorem of_below (h:Below w.heap.size w w'):Kept R w w':=⟨h.os,h.tape,h.output,h.size,fun k hk _=>h.block k hk⟩
theorem drewN (h:Kept R a w) (n:Nat):Kept R a (w.drewN n):=⟨h.os,h.tape,h.output,h.size,h.block⟩
theorem drew (h:Kept R a w):Kept R a w.drew:=⟨h.os,h.tape,h.output,h.size,h.block⟩
theorem alloc (h:Kept R a w) (o:Obj):Kept R a (w.alloc o):=
  h.trans (of_below ((Below.refl _ w).alloc (Nat.le_refl _) o))
theorem setCell (h:Kept R a w) {p:Addr} (hp:p.block=R) (u:Value):Kept R a (w.setCell p u):=
  h.trans ⟨rfl,rfl,rfl,by simp[World.setCell],fun k _ hk=>Below.heap_setCell _ _ _ _ (by omega)⟩
theorem below (h:Kept R w w') (hR:B≤R) (hB:B≤w.heap.size):Below B w w':=⟨h.os,h.tape,h.output,h.size,fun k hk=>h.block k (by omega) (by omega)⟩
end Kept
theorem qAc {B:Nat} {a w:World} (h:Below B a w) (n:Nat):Below B a (w.drewN n):=⟨h.os,h.tape,h.output,h.size,h.block⟩
def Tri (T b:Nat) (x y z:Value) (w:World):Prop:=w.heap[b]?=some (.cells #[x,y,z] T (0,0))
namespace Tri
variable {T b R B:Nat} {x y z u:Value} {w w':World}
theorem lt (h:Tri T b x y z w):b<w.heap.size:=by
 rcases Nat.lt_or_ge b w.heap.size with hl|hg
 · exact hl
 · unfold Tri at h;rw[Array.getElem?_eq_none hg] at h;cases h
theorem c0 (h:Tri T b x y z w):w.cell? ⟨b,0,none⟩=some x:=by rw[Lib.cell_of_heap h];rfl
theorem c1 (h:Tri T b x y z w):w.cell? ⟨b,1,none⟩=some y:=by rw[Lib.cell_of_heap h];rfl
theorem c2 (h:Tri T b x y z w):w.cell? ⟨b,2,none⟩=some z:=by rw[Lib.cell_of_heap h];rfl
theorem fr (h:Tri T b x y z w) (i:Nat):w.frozen? ⟨b,i,none⟩=false:=Lib.frozen_of_heap h i
theorem set1 (h:Tri T b x y z w) (u:Value):Tri T b x u z (w.setCell ⟨b,1,none⟩ u):=by
 unfold Tri at *; simp[World.setCell,Array.getElem?_modify,h]
theorem set2 (h:Tri T b x y z w) (u:Value):Tri T b x y u (w.setCell ⟨b,2,none⟩ u):=by
 unfold Tri at *; simp[World.setCell,Array.getElem?_modify,h]
theorem drew (h:Tri T b x y z w):Tri T b x y z w.drew:=h
theorem drewN (h:Tri T b x y z w) (n:Nat):Tri T b x y z (w.drewN n):=h
theorem alloc (h:Tri T b x y z w) (o:Obj):Tri T b x y z (w.alloc o):=(Below.heap_alloc w o b h.lt).trans h
theorem below (h:Tri T b x y z w) (hb:Below B w w') (hB:b<B):Tri T b x y z w':=(hb.block b hB).trans h
theorem kept (h:Tri T b x y z w) (hb:Kept R w w') (hB:b≠R):Tri T b x y z w':=(hb.block b h.lt hB).trans h
theorem others {e:TypeId} {b':Nat} (h:Tri T b x y z w) (hb:OthersKept e (some b') w w') (hB:b≠b') (hT:T≠e):Tri T b x y z w':=
  hb b _ h (by intro e1;exact hB (Option.some.inj e1)) (by intro c fz e1;injection e1 with _ e2;exact hT e2)
end Tri
structure RdP (T b:Nat) (s:ByteArray) (p:Nat) (e:Int) (v:Value) (w:World) (en:Ending) (w':World):Prop where
  ret:en=.returned v
  tri:Tri T b (.string s) (.int .i64 p) (.int .i64 e) w'
  kept:Kept b w w'
theorem qM2 {T e:TypeId} {B b:Nat} {bs:List Value} {w w':World} (h:IsBuilderF T e B b bs w) (hk:∀(k:Nat) (c:Array Value) (t:TypeId) (fz:Nat×Nat),w.heap[k]?=some (Obj.cells c t fz)→(t=T∨t=e)→w'.heap[k]?=w.heap[k]?) :
    IsBuilderF T e B b bs w':=by
 have one:∀p,BuilderAtF T e B b p bs w→BuilderAtF T e B b p bs w':=by
  intro p ⟨hB,v,hb,hown,hne⟩
  refine⟨hB,v,(hk b _ _ _ hb (.inl rfl)).trans hb,⟨hown.1,?_⟩,hne⟩
  rcases hown.2 with hn|⟨g,cap,cur,fz,hv,hbg,hg,rest⟩
  · exact .inl hn
  · exact .inr ⟨g,cap,cur,fz,hv,hbg,(hk g _ _ _ hg (.inr rfl)).trans hg,rest⟩
 exact h.elim (fun x=>.inl (one _ x)) (fun x=>.inr (one _ x))
theorem qNb {T e:TypeId} {B b R:Nat} {bs:List Value} {w w':World} (h:IsBuilderF T e B b bs w) (hk:Kept R w w') {T':Nat} {x y z:Value} (hR:Tri T' R x y z w) (h1:T'≠T) (h2:T'≠e):IsBuilderF T e B b bs w':=by
 refine qM2 h (fun k c t fz hc ht=>?_);have hlt:k<w.heap.size:=(Array.getElem?_eq_some_iff.1 hc).1;refine hk.block k hlt (fun e1=>?_);subst e1;unfold Tri at hR;rw[hc] at hR
 injection hR with hR
 injection hR with _ e2
 rcases ht with rfl|rfl
 · exact h1 e2.symm
 · exact h2 e2.symm
theorem qUh {T e:TypeId} {B b:Nat} {bs:List Value} {w w':World} (h:IsBuilderF T e B b bs w) (hk:Below w.heap.size w w'):IsBuilderF T e B b bs w':=
  qM2 h (fun k _ _ _ hc _=>hk.block k (Array.getElem?_eq_some_iff.1 hc).1)
end Go.Ms
namespace Go.Proofs.YtikpmmipopmjaaaGreatDoor
open Go.RowKit Go.Ms Go.Lib
theorem qQg (r:Int):strOfNums (encodeRuneZ r)=⟨(encodeRune r).toArray⟩:=by
 unfold strOfNums encodeRune;rfl
theorem qJl {P:Program} (w:World) (n:Nat) (hn:n=w.heap.size) (src e:TypeId) (hs:P.underlying src=some (.slice e)) (he:P.underlying e=some (.int .u8)) (ns:List Int) (dst:TypeId) (hd:P.underlying dst=some .string) :
    (convert src dst (.slice (some ⟨n,0,none⟩) ns.length ns.length)).run P (w.alloc (.cells (ns.map (Value.int .u8)).toArray e))=.ok (.string (strOfNums ns)) (w.alloc (.cells (ns.map (Value.int .u8)).toArray e)):=by
 refine run_convert_bytes_arg _ src e hs he _ 0 _ _ ns rfl (fun i hi=>?_) dst hd;rw[Nat.zero_add,World.cell?_alloc_at _ _ _ _ hn]
 simp[hi]
theorem qDg (s:ByteArray) (k:Nat) (h:k<s.size):s[k]'h=s.data.toList.getD k 0:=by
 cases s with
 |mk d=>
  have:k<d.size:=h
  simp[List.getD_eq_getElem?_getD,this]
  rfl
theorem qMx {k:IntKind} {a b:Int} (h:a=b):Ending.returned (.int k a)=.returned (.int k b):=by rw[h]
theorem zCz {a a':Int} {b b':Int} {c c':Bool} (h:a=a') (h1:b=b') (h2:c=c'):Ending.returned (.tuple #[.int .i32 a,.int .i64 b,.bool c])=.returned (.tuple #[.int .i32 a',.int .i64 b',.bool c']):=by rw[h,h1,h2]
theorem ext_list (s:ByteArray) (a b:Nat):(s.extract a b).data.toList=(s.data.toList.take b).drop a:=by
 rw[Lib.extract_data,List.drop_take]
def Tabs (w:World):Prop:=Lib.Utf8Tabs 1 2 w
theorem qMc {w:World} (h:Tabs w) (n:Nat):Tabs (w.drewN n):=h
theorem qDj {w w':World} (h:Tabs w) (hb:Below w.heap.size w w'):Tabs w':=Utf8Tabs_below h hb
theorem qB8 {s:ByteArray} {l:Bs} (h:s.data.toList=l):s=⟨l.toArray⟩:=by
 subst h;cases s;simp
end Go.Proofs.YtikpmmipopmjaaaGreatDoor
namespace Go.Ms
open Go.RowKit Go.Lib
theorem qDe {P:Program} (w:World) (base:Nat) (t tx ty e:TypeId) (i:TypeInfo) (z:Value) (size bytes:Nat) (ht:P.underlying t=some (.slice e)) (hi:P.info? e=some i) (hz:i.zero=some z)
    (hsize:i.size=size) (hby:i.bytes=bytes) (hzs:z.cells.size=size) (hsz:0<size)
    (v:Value) (n:Nat) (xs:List Value) (hown:w.ownsRow base e size v n xs) (x:Value) (m:Nat) (news:List Value) (hs:Src P size tx x m news w)
    (h63:n+m≤maxLen) (hbytes:(n+m)*bytes≤140737488355328) (hbase:base≤w.heap.size) :
    ∃v' w',(Builtin.append_ #[t,tx] ty #[v,x]).run P w=.ok v' w'∧w'.ownsRow base e size v' (n+m) (xs++news)∧w.grownBy w' v.ownBlock:=by
 subst hsize
 subst hby
 have hl:=hs.newsLen
 have hsmall:n+m≤9223372036854775807:=by simp only[maxLen] at h63;omega
 have hlen:(xs++news).length=(n+m)*i.size:=by rw[List.length_append,hown.1,hl,Nat.add_mul]
 have grown:∀(old:Nat),old<n+m→∀(row:Option Nat),
     (w.drew.alloc (.cells ((xs++news).toArray++Builtin.zeroCells z.cells (grownCap w (n+m) old e-(n+m))) e)).ownsRow base e i.size
       (.slice (some ⟨w.heap.size,0,none⟩) (n+m) (grownCap w (n+m) old e)) (n+m) (xs++news)∧
     w.grownBy (w.drew.alloc (.cells ((xs++news).toArray++Builtin.zeroCells z.cells (grownCap w (n+m) old e-(n+m))) e)) row:=by
   intro old ho row
   have hge:=grownCap_ge w (n+m) old e;have hcm:grownCap w (n+m) old e≤maxLen:=grownCap_le_maxLen w (n+m) old e h63;refine⟨⟨hlen,.inr ⟨w.heap.size,_,_,rfl,hbase,heap_alloc_new w.drew _,hge,hcm,?_,?_⟩⟩,⟨rfl,rfl,rfl,by simp,fun k hk _=>(World.grownBy_alloc w.drew _ none).block k hk (by simp)⟩⟩
   · simp only[Array.size_append,List.size_toArray,size_zeroCells,hzs,hlen,←Nat.add_mul]
     congr 1
     omega
   · simp only[Array.toList_append];rw[←hlen];exact List.take_left
 rcases hown.2 with⟨rfl,rfl⟩|⟨g,cap,cur,rfl,hbg,hg,hnc,hcm,hcs,htake⟩
 · have hx:xs=[]:=List.eq_nil_of_length_eq_zero (by simpa using hown.1);subst hx
   by_cases hm:m=0
   · subst hm;have hn:news=[]:=List.eq_nil_of_length_eq_zero (by simpa using hl);subst hn;refine⟨.slice none 0 0,w,?_,World.ownsRow_nil w base e i.size,⟨rfl,rfl,rfl,Nat.le_refl _,fun _ _ _=>rfl⟩⟩;have hc:=hs.cells
     rcases hs.kind with⟨e',hk⟩|hk <;>
       simp[Builtin.append_,run_underlying ht,run_underlying hk,sizeOf,typeInfo,hi,hs.len,hc]
   · have hr:=run_append_grow_src (P:=P) w t tx ty e i z ht hi hz none 0 0 [] (run_firstCells_none w.drew i.size 0 0 0) x m news hs (by omega) (by omega) (growslice_fits (by omega) (by simpa using hbytes));have hgr:=grown 0 (by omega) (Value.ownBlock (.slice none 0 0));simp only[Nat.zero_add,List.nil_append] at hgr hr ⊢;exact⟨_,_,hr,hgr.1,hgr.2⟩
 · by_cases hroom:n+m≤cap
   · have hfit:n*i.size+news.length≤cur.size:=by rw[hl,hcs,←Nat.add_mul];exact Nat.mul_le_mul_right _ hroom
     have hst:=run_storeCells_at P g (n*i.size) e news 0 cur w hg (by simpa using hfit) hs.one;simp only[Nat.add_zero] at hst
     have hr:(Builtin.append_ #[t,tx] ty #[.slice (some ⟨g,0,none⟩) n cap,x]).run P w=.ok (.slice (some ⟨g,0,none⟩) (n+m) cap) (w.setRow g (cur.toList.take (n*i.size)++news++cur.toList.drop (n*i.size+news.length)).toArray):=by
      rcases hs.kind with⟨e',hk⟩|hk <;>
        simp[Builtin.append_,run_underlying ht,run_underlying hk,sizeOf,typeInfo,hi,hs.len,hroom,hs.cells,Addr.add_lit,hst]
     refine⟨_,_,hr,⟨hlen,.inr ⟨g,cap,_,rfl,hbg,setRow_heap w g cur _ e _ hg,hroom,hcm,?_,?_⟩⟩,⟨rfl,rfl,rfl,by simp,fun k _ hk=>setRow_other w g k _ (fun e=>hk (by simp[Value.ownBlock,e]))⟩⟩
     · simp only[List.size_toArray,List.length_append,List.length_take,List.length_drop,Array.length_toList];omega
     · rw[htake,←hlen];exact List.take_left
   · have holds:∀j u,xs[j]?=some u→w.drew.cell? ((⟨g,0,none⟩:Addr).add j)=some u:=fun j u hu=>by simpa using hown.cells (g:=g) rfl j u hu
     have hr:=run_append_grow_src (P:=P) w t tx ty e i z ht hi hz (some ⟨g,0,none⟩) n cap xs (run_firstCells_some (P:=P) w.drew i.size n ⟨g,0,none⟩ n cap xs hown.1 holds) x m news hs (by omega) (by omega) (growslice_fits (by omega) hbytes);have hgr:=grown cap (by omega) (Value.ownBlock (.slice (some ⟨g,0,none⟩) n cap));exact⟨_,_,hr,hgr.1,hgr.2⟩
def OwnB (w:World) (base:Nat) (e:TypeId) (v:Value) (l:List UInt8):Prop:=w.ownsRow base e 1 v l.length (l.map fun b=>Value.int .u8 b.toNat)
theorem OwnB.nil (w:World) (base:Nat) (e:TypeId):OwnB w base e (.slice none 0 0) []:=World.ownsRow_nil w base e 1
theorem OwnB.kept {w w':World} {base:Nat} {e:TypeId} {v:Value} {l:List UInt8} (h:OwnB w base e v l) (hb:Below w.heap.size w w'):OwnB w' base e v l:=
  World.ownsRow.kept h (row:=none) ⟨hb.os,hb.tape,hb.output,hb.size,fun k hk _=>hb.block k hk⟩ (by cases hv:v.ownBlock <;> simp)
theorem OwnB.drewN {w:World} {base:Nat} {e:TypeId} {v:Value} {l:List UInt8} (h:OwnB w base e v l) (n:Nat):OwnB (w.drewN n) base e v l:=h
theorem OwnB.alloc {w:World} {base:Nat} {e:TypeId} {v:Value} {l:List UInt8} (h:OwnB w base e v l) (o:Obj):OwnB (w.alloc o) base e v l:=World.ownsRow.alloc h o
theorem OwnB.below {w0 w w':World} {e:TypeId} {v:Value} {l:List UInt8} {B:Nat} (h:OwnB w B e v l) (hb:Below B w0 w) (hB:B≤w.heap.size) (hg:w.grownBy w' v.ownBlock):Below B w0 w':=by
 exact hb.grown hg hB (fun k hk=>(World.ownsRow.lt h k hk).1)
theorem qGh {n m:Nat} (h:n+m≤140737488355328):n+m≤maxLen:=by unfold maxLen;omega
theorem qKv {P:Program} {w:World} {ops:Array Oper} {o:Oper} {a:Act} {K:Act→World→Prop} {Q:Exit→Act→World→Prop} {E:Prop} (hgd:o.guard=none) (s x:Operand) (t:TypeId)
    (ho:o.op=.call { callee:=.builtin .append,args:=#[s,x],argTypes:=#[t,t] })
    (base:Nat) (e:TypeId) (i:TypeInfo) (z:Value) (ht:P.underlying t=some (.slice e)) (hi:P.info? e=some i) (hz:i.zero=some z)
    (hsize:i.size=1) (hby:i.bytes=1) (hzs:z.cells.size=1) (v:Value) (l:List UInt8) (hs:a.eval s=v) (hown:OwnB w base e v l) (ad:Addr) (m c:Nat) (hx:a.eval x=.slice (some ad) m c) (ns:List Int)
    (hm:ns.length=m) (hcell:∀j u,(ns.map (Value.int .u8))[j]?=some u→w.cell? (ad.add j)=some u) (hn:∀x∈ns,0≤x∧x<256)
    (hb:l.length+m≤140737488355328) (hbase:base≤w.heap.size)
    (h:∀v' w',OwnB w' base e v' (l++ns.map fun x=>x.toNat.toUInt8)→w.grownBy w' v.ownBlock→K (a.put o.dst v') w') :
    if Region.wanted o (yielded ops a.tmps)=true then Oper.wp P o a w K Q else E:=by
 subst hm
 have hw:Region.wanted o (yielded ops a.tmps)=true:=by simp[Region.wanted,hgd]
 rw[if_pos hw]
 have hone:∀u∈ns.map (Value.int .u8),u.oneCell'=true:=by
  intro u hu
  obtain⟨_,_,rfl⟩:=List.mem_map.1 hu;rfl
 obtain⟨v',w',hr,h2,h3⟩:=qDe (P:=P) w base t t o.type e i z 1 1 ht hi hz hsize hby hzs (by omega) v l.length _ hown (.slice (some ad) ns.length c) ns.length (ns.map (Value.int .u8)) (Src.ofSlice w ht ad ns.length c _ (by simp) hcell hone) (qGh hb) (by omega) hbase
 have he:(ns.map fun x=>x.toNat.toUInt8).map (fun b=>Value.int .u8 b.toNat)=ns.map (Value.int .u8):=by
  rw[List.map_map]
  apply List.map_congr_left
  intro x hx
  have:=hn x hx
  have h2:(x.toNat.toUInt8).toNat=x.toNat:=by simp[Nat.toUInt8];omega
  simp only[Function.comp,h2];rw[show((x.toNat:Nat):Int)=x by omega]
 unfold Oper.wp execOp;simp only[ho,resolve,invoke,builtin,Sem.run_bind,Sem.run_pure,Result.andThen_ok,List.map_toArray,List.map_cons,List.map_nil,hs,hx,hr];refine h v' w' ?_ h3;unfold OwnB;rw[List.length_append,List.map_append,he,List.length_map];exact h2
theorem qJ4 {P:Program} {w:World} {base:Nat} {src dst e:TypeId} (hs:P.underlying src=some (.slice e)) (he:P.underlying e=some (.int .u8)) (hd:P.underlying dst=some .string) {v:Value} {l:List UInt8} (hown:OwnB w base e v l) :
    (convert src dst v).run P w=.ok (.string ⟨l.toArray⟩) w:=by
 have hown':w.ownsRow base e 1 v l.length (l.map fun b=>Value.int .u8 b.toNat):=hown
 rcases hown'.2 with⟨rfl,h0⟩|⟨g,cap,cur,rfl,hb,hg,hc⟩
 · have:l=[]:=List.eq_nil_of_length_eq_zero h0;subst this;exact run_convert_bytes_nil w src e hs he 0 0 dst hd
 · have hcell:=hown'.cells (g:=g) rfl
   have:=run_convert_bytes_arg (P:=P) w src e hs he g 0 l.length cap (l.map fun b=>(b.toNat:Int)) (by simp) (fun i hi=>by
    have h1:=hcell i (.int .u8 (l[i]).toNat) (by simp[hi])
    have hadd:(⟨g,0,none⟩:Addr).add i=⟨g,0+i,none⟩:=by unfold Addr.add;split <;> simp_all
    rw[hadd] at h1;rw[h1]
    simp[List.getD_eq_getElem?_getD,hi]) dst hd
   rw[this]
   congr 2
   have:(strOfNums (l.map fun b=>(b.toNat:Int))).data.toList=l:=by
    rw[strOfNums_data,List.map_map]
    have:((fun n:Int=>UInt8.ofNat n.toNat)∘fun b:UInt8=>((b.toNat:Nat):Int))=id:=by funext b;simp
    rw[this,List.map_id]
   cases hX:strOfNums (l.map fun b=>(b.toNat:Int)) with
   |mk d=>rw[hX] at this;simp only at this;subst this;simp
end Go.Ms
