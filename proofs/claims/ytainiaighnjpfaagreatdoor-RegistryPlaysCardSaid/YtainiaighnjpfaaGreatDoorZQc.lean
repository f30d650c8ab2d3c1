/- Literals, part by part: what the reader makes of them. Literals as rows of parts: read, and cut. Cells, plain: what is written is read; what is put together is taken apart. Cells, plain: what is taken off has just those bits; what was read was written so. Cells, plain: orders. Cells, plain: the laws. Schemas that follow each other, plainly: a row that is moved is a row of the later columns, and has the same key. Schemas that follow each other, plainly: as the package asks it. Registry's laws, plainly: a schema that is offered; subjects apart. Rows of bytes of one's own: appended to from a string or a row, read as a string. Pointers that are loaded, stored and swapped at once, in one goroutine; a pointer seen as one to its own type. A range over a function that only reads what its captured block holds: the law for the loop, and what such an iterator promises. -/
import GoSem.Op.String
import Derived.Test.YtainiaighnjpfaaGreatDoorZQb
import Derived.Deep.AppendSrc
import Derived.Laws.BytesArg
import Derived.OwnWalk
import Derived.Deep.RegionLaw
import Derived.Laws.LoneSync
import Derived.Lib.Builder
import Derived.RangeFuncBox
import Derived.RangeFuncCalls
import Derived.RangeFuncBound
import Derived.RangeFuncNested
set_option linter.unusedVariables false
namespace Go.Ms
open Go.Lib
theorem qAk {l:Bs} {p:Nat} {c:UInt8} {r:Bs} (h:l.drop p=c::r):p<l.length∧bt l p=c.toNat∧l.drop (p+1)=r:=by
 have hp:p<l.length:=by
  rcases Nat.lt_or_ge p l.length with h1|h1
  · exact h1
  · rw[List.drop_of_length_le h1] at h;cases h
 rw[List.drop_eq_getElem_cons hp] at h;injection h with h1 h2
 refine⟨hp,?_,h2⟩;unfold bt;rw[List.getD_eq_getElem?_getD,List.getElem?_eq_getElem hp,←h1];rfl
theorem qPm {l q r:Bs} {p:Nat} (h:l.drop p=q++r):l.drop (p+q.length)=r:=by
 rw[←List.drop_drop,h];simp
theorem qDu {l:Bs} {p:Nat} {c:UInt8} {r:Bs} (h:l.drop p=c::r):qAt l p 0=(((c.toNat:Nat):Int),p+1,(0:Int)):=by
 obtain⟨h1,h2,_⟩:=qAk h;unfold qAt;rw[if_pos rfl,if_neg (by omega),h2]
theorem qL9 {l:Bs} {p:Nat} (hp:p≤l.length) (h:l.drop p=[]):qAt l p 0=((0:Int),p,(3:Int)):=by
 have:p=l.length:=by
  have:=congrArg List.length h;simp at this;omega
 unfold qAt;rw[if_pos rfl,if_pos this]
theorem qP2 (l:Bs) (p:Nat) {e:Int} (he:e≠0):qAt l p e=((0:Int),p,e):=by
 unfold qAt;rw[if_neg he]
theorem qEs {e x:Int} (he:e≠0):qCa e x=e:=by unfold qCa;rw[if_neg he]
theorem zAb:hexv 0=16:=by decide
theorem qC5 {l:Bs} {p:Nat} {c:UInt8} {r:Bs} (h:l.drop p=c::r) (hc:hexv c.toNat≠16):qA3 l p 0=(hexv c.toNat,p+1,(0:Int)):=by
 unfold qA3;rw[qDu h];simp only;rw[if_neg hc]
theorem qHd {l:Bs} {p:Nat} (hp:p≤l.length) (h:l.drop p=[]):qA3 l p 0=((0:Int),p,(3:Int)):=by
 unfold qA3;rw[qL9 hp h];simp only;rw[if_pos zAb,qEs (by omega)]
theorem qCk (l:Bs) (p:Nat) {e:Int} (he:e≠0):qA3 l p e=((0:Int),p,e):=by
 unfold qA3;rw[qP2 l p he];simp only;rw[if_pos zAb,qEs he]
def num4 (a b c d:Int):Int:=16*(16*(16*a+b)+c)+d
def qJt (second:Bool) (a b:Int):Prop:= ¬(second=true∧¬a=13)∧second=decide (220≤16*a+b∧16*a+b≤223)
theorem qLw {l:Bs} {p:Nat} {c1 c2 c3 c4:UInt8} {r:Bs} (second:Bool) (h:l.drop p=c1::c2::c3::c4::r)
    (k1:hexv c1.toNat≠16) (k2:hexv c2.toNat≠16) (k3:hexv c3.toNat≠16) (k4:hexv c4.toNat≠16) (ho:qJt second (hexv c1.toNat) (hexv c2.toNat)) :
    qBj l second p 0=(num4 (hexv c1.toNat) (hexv c2.toNat) (hexv c3.toNat) (hexv c4.toNat),p+4,(0:Int)):=by
 have e1:=(qAk h).2.2;have e2:=(qAk e1).2.2;have e3:=(qAk e2).2.2
 have g0:h0 l second p 0=(hexv c1.toNat,p+1,(0:Int)):=by
  unfold h0;rw[qC5 h k1];simp only;rw[if_neg ho.1]
 have g1:h1 l second p 0=(16*hexv c1.toNat+hexv c2.toNat,p+2,(0:Int)):=by
  unfold h1;rw[g0];simp only;rw[qC5 e1 k2];simp only;rw[if_pos ho.2]
 have g2:h2 l second p 0=(16*(16*hexv c1.toNat+hexv c2.toNat)+hexv c3.toNat,p+3,(0:Int)):=by
  unfold h2;rw[g1];simp only;rw[qC5 e2 k3]
 unfold qBj;rw[g2];simp only;rw[qC5 e3 k4];rfl
theorem qIz (l:Bs) (second:Bool) (p:Nat) {e:Int} (he:e≠0):(qBj l second p e).2.2=e∧(qBj l second p e).2.1=p:=by
 have g0:(h0 l second p e).2.2=e∧(h0 l second p e).2.1=p:=by
  unfold h0;rw[qCk l p he];simp only;refine⟨?_,trivial⟩;split
  · exact qEs he
  · rfl
 have g1:(h1 l second p e).2.2=e∧(h1 l second p e).2.1=p:=by
  unfold h1;rw[g0.1,g0.2,qCk l p he];simp only;refine⟨?_,trivial⟩;split
  · rfl
  · exact qEs he
 have g2:(h2 l second p e).2.2=e∧(h2 l second p e).2.1=p:=by
  unfold h2;rw[g1.1,g1.2,qCk l p he];exact⟨rfl,rfl⟩
 unfold qBj;rw[g2.1,g2.2,qCk l p he];exact⟨rfl,rfl⟩
theorem qLm {l:Bs} {p:Nat} {c:UInt8} {r:Bs} (h:l.drop p=c::r):qBd l c.toNat p 0=(p+1,(0:Int)):=by
 unfold qBd;rw[qDu h];simp
theorem qPg {l:Bs} {p:Nat} {x:Int} (hp:p≤l.length) (h:l.drop p=[]) (hx:x≠0):qBd l x p 0=(p,(3:Int)):=by
 unfold qBd;rw[qL9 hp h];simp only;rw[if_neg (Ne.symm hx)];rfl
theorem qPz (l:Bs) (x:Int) (p:Nat) {e:Int} (he:e≠0):qBd l x p e=(p,e):=by
 unfold qBd;rw[qP2 l p he];simp only;split
 · rfl
 · rw[qEs he]
inductive Part:Bs→Bs→Prop
  |rune (r:Int) (h:qBx r=true) (h1:32≤r) (h2:r≠34) (h3:r≠92):Part (encodeRune r) (encodeRune r)
  |slash:Part [92,47] [47]
  |short (c:UInt8) (k:Int) (h:qHn c.toNat=some k):Part [92,c] (encodeRune k)
  |four (c1 c2 c3 c4:UInt8) (k1:hexv c1.toNat≠16) (k2:hexv c2.toNat≠16) (k3:hexv c3.toNat≠16) (k4:hexv c4.toNat≠16)
      (ho:qJt false (hexv c1.toNat) (hexv c2.toNat)) (hn:¬(55296≤num4 (hexv c1.toNat) (hexv c2.toNat) (hexv c3.toNat) (hexv c4.toNat)∧num4 (hexv c1.toNat) (hexv c2.toNat) (hexv c3.toNat) (hexv c4.toNat)<56320)) :
      Part [92,117,c1,c2,c3,c4] (encodeRune (num4 (hexv c1.toNat) (hexv c2.toNat) (hexv c3.toNat) (hexv c4.toNat)))
  |pair (c1 c2 c3 c4 d1 d2 d3 d4:UInt8) (k1:hexv c1.toNat≠16) (k2:hexv c2.toNat≠16) (k3:hexv c3.toNat≠16) (k4:hexv c4.toNat≠16)
      (j1:hexv d1.toNat≠16) (j2:hexv d2.toNat≠16) (j3:hexv d3.toNat≠16) (j4:hexv d4.toNat≠16)
      (ho:qJt false (hexv c1.toNat) (hexv c2.toNat)) (hn:55296≤num4 (hexv c1.toNat) (hexv c2.toNat) (hexv c3.toNat) (hexv c4.toNat)∧num4 (hexv c1.toNat) (hexv c2.toNat) (hexv c3.toNat) (hexv c4.toNat)<56320)
      (hp:qJt true (hexv d1.toNat) (hexv d2.toNat)) :
      Part [92,117,c1,c2,c3,c4,92,117,d1,d2,d3,d4]
        (encodeRune (65536+(num4 (hexv c1.toNat) (hexv c2.toNat) (hexv c3.toNat) (hexv c4.toNat)-55296)*1024+num4 (hexv d1.toNat) (hexv d2.toNat) (hexv d3.toNat) (hexv d4.toNat)-56320))
theorem qPi {r:Int} (h:qBx r=true):∃c t,encodeRune r=c::t∧(r≤127→((c.toNat:Nat):Int)=r)∧(128≤r→128≤c.toNat):=by
 have hl:=qAz r;obtain⟨c,t,e⟩:=List.exists_cons_of_ne_nil (l:=encodeRune r) (by intro e;rw[e] at hl;simp at hl);refine⟨c,t,e,fun h1=>?_,fun h1=>?_⟩
 · have hb:=(qA4 r).1 h;rw[qEl (by omega) h1] at e;injection e with e1 _
   rw[←e1];exact qLf (by omega) h1
 · exact qP6 h h1 c (by rw[e];simp)
theorem qVz {c k:Int} (h:qHn c=some k):c≠47∧c≠117∧0≤k∧k<128:=by
 unfold qHn at h;repeat' split at h
 all_goals first|(cases h;done)|(injection h with h;omega)
theorem qZm {l q t rest:Bs} (hq:Part q t) {p n:Nat} {acc:Bs} (h:l.drop p=q++rest):uqGo l (n+1) acc p 0=uqGo l n (acc++t) (p+q.length) 0:=by
 cases hq with
 | rune r hr h1 h2 h3=>
  obtain⟨c,tl,e,ea,eh⟩:=qPi hr;have hc:=h;rw[e,List.cons_append] at hc;obtain⟨g1,g2,_⟩:=qAk hc;have hb:=(qA4 r).1 hr
  have hx:32≤c.toNat∧c.toNat≠34∧c.toNat≠92:=by
   by_cases c1:r≤127
   · have:=ea c1;omega
   · have:=eh (by omega);omega
  rw[qBp,if_pos rfl,if_neg (by omega),if_neg (by omega),if_neg (by omega)];have hn:=qIw r rest hr
  have hp:qBg l p 0=(encodeRune r,p+(encodeRune r).length,(0:Int)):=by
   unfold qBg;rw[if_neg (by omega),h,hn];simp
  rw[hp]
 | slash=>
  obtain⟨g1,g2,g3⟩:=qAk h;rw[qBp,if_pos rfl,if_neg (by omega),if_neg (by rw[g2];decide),if_pos (by rw[g2];rfl)]
  have he:qAw l (p+1) 0=([47],p+2,(0:Int)):=by
   unfold qAw;simp only[qDu g3];rfl
  rw[he];rfl
 | short c k hk=>
  obtain⟨g1,g2,g3⟩:=qAk h;rw[qBp,if_pos rfl,if_neg (by omega),if_neg (by rw[g2];decide),if_pos (by rw[g2];rfl)]
  have he:qAw l (p+1) 0=(encodeRune k,p+2,(0:Int)):=by
   unfold qAw;simp only[qDu g3];rw[if_neg (qVz hk).1,hk]
  rw[he];rfl
 | four c1 c2 c3 c4 k1 k2 k3 k4 ho hn=>
  obtain⟨g1,g2,g3⟩:=qAk h;obtain⟨_,_,g4⟩:=qAk g3;rw[qBp,if_pos rfl,if_neg (by omega),if_neg (by rw[g2];decide),if_pos (by rw[g2];rfl)];have hh:=qLw false g4 k1 k2 k3 k4 ho
  have he:qAw l (p+1) 0=(encodeRune (num4 (hexv c1.toNat) (hexv c2.toNat) (hexv c3.toNat) (hexv c4.toNat)),p+6,(0:Int)):=by
   unfold qAw qEz;simp only[qDu g3];rw[if_neg (by decide)];simp only[show(((117:UInt8).toNat:Nat):Int)=117 from rfl,if_true,show qHn 117=none from by decide];rw[hh];simp only;rw[if_neg hn];rfl
  rw[he];rfl
 | pair c1 c2 c3 c4 d1 d2 d3 d4 k1 k2 k3 k4 j1 j2 j3 j4 ho hn hp=>
  obtain⟨g1,g2,g3⟩:=qAk h;obtain⟨_,_,g4⟩:=qAk g3
  have g5:l.drop (p+1+1+4)=92::117::d1::d2::d3::d4::rest:=by
   have:=qPm (q:=[c1,c2,c3,c4]) (r:=92::117::d1::d2::d3::d4::rest) (p:=p+1+1) (l:=l) (by rw[g4];rfl);exact this
  obtain⟨_,_,g6⟩:=qAk g5;obtain⟨_,_,g7⟩:=qAk g6;rw[qBp,if_pos rfl,if_neg (by omega),if_neg (by rw[g2];decide),if_pos (by rw[g2];rfl)];have hh:=qLw false g4 k1 k2 k3 k4 ho;have hh2:=qLw true g7 j1 j2 j3 j4 hp;have w1:qBd l 92 (p+1+1+4) 0=(p+1+1+4+1,(0:Int)):=qLm g5;have w2:qBd l 117 (p+1+1+4+1) 0=(p+1+1+4+1+1,(0:Int)):=qLm g6
  have he:qAw l (p+1) 0=(encodeRune (65536+(num4 (hexv c1.toNat) (hexv c2.toNat) (hexv c3.toNat) (hexv c4.toNat)-55296)*1024+num4 (hexv d1.toNat) (hexv d2.toNat) (hexv d3.toNat) (hexv d4.toNat)-56320),p+12,(0:Int)):=by
   unfold qAw qEz rdPair;simp only[qDu g3];rw[if_neg (by decide)];simp only[show(((117:UInt8).toNat:Nat):Int)=117 from rfl,if_true,show qHn 117=none from by decide];rw[hh];simp only;rw[if_pos hn,w1];simp only;rw[w2];simp only;rw[hh2];simp
  rw[he];rfl
inductive Lits:Nat→Bs→Bs→Prop
  |nil:Lits 0 [] []
  |cons {n:Nat} {q t q' t':Bs} (h:Part q t) (h':Lits n q' t'):Lits (n+1) (q++q') (t++t')
theorem Part.pos {q t:Bs} (h:Part q t):1≤q.length:=by
 cases h
 case rune r _ _ _ _=>exact(qAz r).1
 all_goals simp
theorem Lits.le {k:Nat} {q t:Bs} (h:Lits k q t):k≤q.length:=by
 induction h with
 |nil=>simp
 |cons h _ ih=>have:=h.pos;simp only[List.length_append];omega
theorem Lits.one {q t:Bs} (h:Part q t):Lits 1 q t:=by
 have:=Lits.cons h .nil
 simpa using this
theorem qYc (l:Bs) (n:Nat) (acc:Bs) (p:Nat) {e:Int} (he:e≠0):uqGo l (n+1) acc p e=([],0,e):=by
 rw[qBp,if_neg he]
theorem qX5 (M:Nat):∀(l r:Bs) (acc:Nat),parseUintM M acc (l++r)=match parseUintM M acc l with
    | .ok a=>parseUintM M a r
    |e=>e
  |[],r,acc=>rfl
  |c::l,r,acc=>by
   rw[List.cons_append,parseUintM,parseUintM];split
   · split
     · rfl
     · split
       · rfl
       · exact qX5 M l r _
   · rfl
theorem zAo:∀(u:Nat),u≤18446744073709551615→parseUintM 18446744073709551615 0 (decDigits u)=.ok u:=by
 intro u
 induction u using Nat.strongRecOn with
 |_ u ih=>
  intro hu;by_cases h:u<10
  · rw[decDigits,dif_pos h];have e:(UInt8.ofNat (48+u)).toNat=48+u:=by simp;omega
    simp only[parseUintM,e];rw[if_pos ⟨by omega,by omega⟩,if_neg (by omega),if_neg (by omega)];congr 1;omega
  · rw[decDigits,dif_neg h,qX5,ih (u/10) (by omega) (by omega)];have e:(UInt8.ofNat (48+u%10)).toNat=48+u%10:=by simp;omega
    simp only[parseUintM,e];rw[if_pos ⟨by omega,by omega⟩,if_neg (by omega),if_neg (by omega)];congr 1;omega
theorem qZ6 (u:Nat):decDigits u≠[]:=by
 rw[decDigits];split <;> simp
theorem qWc (u:Nat):∃c r,decDigits u=c::r∧48≤c.toNat∧c.toNat≤57:=by
 induction u using Nat.strongRecOn with
 |_ u ih=>
  by_cases h:u<10
  · rw[decDigits,dif_pos h];have e:(UInt8.ofNat (48+u)).toNat=48+u:=by simp;omega
    exact⟨_,_,rfl,by omega,by omega⟩
  · rw[decDigits,dif_neg h];obtain⟨c,r,h1,h2⟩:=ih (u/10) (by omega);rw[h1];exact⟨c,_,rfl,h2⟩
theorem qYf (u:Nat) (h:u≤18446744073709551615):parseUintB 64 (decDigits u)=.ok u:=by
 unfold parseUintB;rw[if_neg (qZ6 u),show(2:Nat)^64-1=18446744073709551615 by decide,zAo u h]
theorem qE3 {k:Int} (h:kMay k=true):k=1∨k=2∨k=3∨k=4∨k=5:=by
 unfold kMay at h;rw[Bool.and_eq_true,decide_eq_true_iff,decide_eq_true_iff] at h;omega
theorem qKq {k:Int} {tn nu:Bool} {n:Int} {s:Bs} (h:qA1 k tn nu n s=0):kMay k=true∧kOk k tn nu n s=true:=by
 unfold qA1 at h;split at h
 · rename_i h1
   split at h
   · rename_i h2;exact⟨h1,h2⟩
   · omega
 · omega
theorem qHl {k:Int} {tn nu:Bool} {n:Int} {s:Bs} (h:kMay k=true) (h2:kOk k tn nu n s=true):qA1 k tn nu n s=0:=by
 unfold qA1;rw[if_pos h,if_pos h2]
theorem is1 {n:Int} {s:Bs}:kIs 1 n s=true↔s=[]∧0≤n∧n≤1:=by simp[kIs,and_assoc]
theorem is2 {n:Int} {s:Bs}:kIs 2 n s=true↔s=[]∧ -2147483648≤n∧n≤2147483647:=by simp[kIs,and_assoc]
theorem is3 {n:Int} {s:Bs}:kIs 3 n s=true↔s=[]∧ -9223372036854775808≤n∧n≤9223372036854775807:=by simp[kIs,and_assoc]
theorem is4 {n:Int} {s:Bs}:kIs 4 n s=true↔n=0∧s.length≤1024∧validD s=true:=by simp[kIs,and_assoc]
theorem is5 {n:Int} {s:Bs}:kIs 5 n s=true↔n=0∧s.length≤1024:=by simp[kIs]
theorem is23 {k n:Int} {s:Bs} (hk:k=2∨k=3) (h:kIs k n s=true):s=[]∧ -9223372036854775808≤n∧n≤9223372036854775807:=by
 rcases hk with rfl|rfl
 · have:=is2.1 h;exact⟨this.1,by omega,by omega⟩
 · exact is3.1 h
theorem is45 {k n:Int} {s:Bs} (hk:k=4∨k=5) (h:kIs k n s=true):n=0∧s.length≤1024:=by
 rcases hk with rfl|rfl
 · exact⟨(is4.1 h).1,(is4.1 h).2.1⟩
 · exact is5.1 h
theorem qZy {k:Int} {tn:Bool} {n:Int} {s:Bs} (h:kOk k tn false n s=true):kIs k n s=true:=by
 simpa[kOk] using h
theorem qS9 {k:Int} {tn nu:Bool} {n:Int} {s l:Bs} (h:qBr k tn l=((nu,n,s),0)):qA1 k tn nu n s=0∧qBy k tn nu n s=l:=by
 unfold qBr at h;split at h
 · split at h
   · rename_i h1
     injection h with h2 _
     rw[h2] at h1;exact h1
   · injection h with _ h2;omega
 · injection h with _ h2;omega
set_option linter.unusedSimpArgs false
theorem qH5 {ts:List Ty} {cs:List Cl} (h:qCj ts cs=0):ts.length=cs.length∧qCv ts cs=0:=by
 unfold qCj at h;split at h
 · exact⟨by assumption,h⟩
 · omega
theorem qGq (cs:List Co):(qF6 cs).length=cs.length:=by unfold qF6;rw[List.length_map]
def qUl (c:Co):Co:=(c.1,c.2.1,(3,c.2.2.1.2),c.2.2.2)
def evAs (c:Co):Co:=if c.2.2.1.1=2 then qUl c else c
theorem qZt {c d:Co} (h:c.1=d.1):(decide (evAs c=evAs d)&& !(decide (c.2.2.1.1=3)&&decide (d.2.2.1.1=2)))=qFa c d:=by
 obtain⟨i,nm,⟨k,u⟩,df⟩:=c;obtain⟨j,nm',⟨k',u'⟩,df'⟩:=d;simp only at h;subst h;rw[Bool.eq_iff_iff];unfold evAs qFa qUl;simp only[Bool.and_eq_true,Bool.or_eq_true,Bool.not_eq_true',Bool.and_eq_false_iff,decide_eq_true_eq,decide_eq_false_iff_not,beq_iff_eq];by_cases h1:k=2
 · by_cases h2:k'=2
   · rw[if_pos h1,if_pos h2];simp only[Prod.mk.injEq,true_and];constructor
     · rintro⟨⟨a,b,c⟩,_⟩;exact⟨⟨⟨a,c⟩,b⟩,.inl (h1.trans h2.symm)⟩
     · rintro⟨⟨⟨a,c⟩,b⟩,_⟩;exact⟨⟨a,b,c⟩,.inl (by omega)⟩
   · rw[if_pos h1,if_neg h2];simp only[Prod.mk.injEq,true_and];constructor
     · rintro⟨⟨a,⟨e,b⟩,c⟩,_⟩;exact⟨⟨⟨a,c⟩,b⟩,.inr ⟨h1,e.symm⟩⟩
     · rintro⟨⟨⟨a,c⟩,b⟩,e⟩;exact⟨⟨a,⟨by omega,b⟩,c⟩,.inl (by omega)⟩
 · by_cases h2:k'=2
   · rw[if_neg h1,if_pos h2];simp only[Prod.mk.injEq,true_and];constructor
     · rintro⟨⟨a,⟨e,b⟩,c⟩,n⟩;omega
     · rintro⟨⟨⟨a,c⟩,b⟩,e⟩;omega
   · rw[if_neg h1,if_neg h2];simp only[Prod.mk.injEq,true_and];constructor
     · rintro⟨⟨a,⟨e,b⟩,c⟩,n⟩;exact⟨⟨⟨a,c⟩,b⟩,.inl e⟩
     · rintro⟨⟨⟨a,c⟩,b⟩,e⟩;exact⟨⟨a,⟨by omega,b⟩,c⟩,.inr h2⟩
theorem qTh (cs:List Co) (c:Co):qB6 (cs++[c])=c.1:=by unfold qB6;simp
def qGb (a:List Co) (r:List Cl) (i:Nat) (id:Int):Option Cl:=match evAt (a.take i) id with
 |some k=>some (r.getD k zCl)
 |none=>none
theorem qWo (a:List Co) (r:List Cl) (id:Int):qGb a r 0 id=none:=by unfold qGb;simp[evAt]
theorem qV6 {a:List Co} (hu:qOs a) {r:List Cl} {i:Nat} {c:Co} (h:a[i]?=some c) (id:Int):qGb a r (i+1) id=if id=c.1 then some (r.getD i zCl) else qGb a r i id:=by
 have hut:qOs (a.take (i+1)):=fun j q x y hq hx hy=>by
  rw[List.getElem?_take] at hx hy;split at hx
  · split at hy
    · exact hu j q x y hq hx hy
    · cases hy
  · cases hx
 have hl:=(List.getElem?_eq_some_iff.1 h).1;have hat:(a.take (i+1))[i]?=some c:=by rw[List.getElem?_take,if_pos (by omega)];exact h
 unfold qGb;by_cases e:id=c.1
 · rw[if_pos e,e,qY0 hut hat]
 · rw[if_neg e]
   have:evAt (a.take (i+1)) id=evAt (a.take i) id:=by
    rw[List.take_add_one,h];unfold evAt;rw[List.findIdx?_append]
    have hn:([c]:List Co).findIdx? (fun c=>decide (c.1=id))=none:=by
     rw[List.findIdx?_eq_none_iff];intro x hx;obtain rfl:=List.mem_singleton.1 hx
     simpa using fun e'=>e e'.symm
    simp only[Option.toList_some,hn,Option.map_none,Option.or_none]
   rw[this]
theorem qZn {a:List Co} {r:List Cl} (id:Int):qGb a r a.length id=match evAt a id with
    |some k=>some (r.getD k zCl)
    |none=>none:=by unfold qGb;rw[List.take_length]
theorem qSs {s:Sc} (h:scOk s.1 s.2=true):qAs [s]=0:=by
 unfold qAs;simp[h,qC4]
open Go.RowKit
theorem qCu {P:Program} (w:World) (base:Nat) (t tx ty e:TypeId) (i:TypeInfo) (z:Value) (size bytes:Nat) (ht:P.underlying t=some (.slice e)) (hi:P.info? e=some i) (hz:i.zero=some z)
    (hsize:i.size=size) (hby:i.bytes=bytes) (hzs:z.cells.size=size) (hsz:0<size)
    (v:Value) (n:Nat) (xs:List Value) (hown:w.ownsRow base e size v n xs) (x:Value) (m:Nat) (news:List Value) (hs:Src P size tx x m news w)
    (h63:n+m≤maxLen) (hbytes:(n+m)*bytes≤140737488355328) (hbase:base≤w.heap.size) :
    ∃v' w',(Builtin.append_ #[t,tx] ty #[v,x]).run P w=.ok v' w'∧w'.ownsRow base e size v' (n+m) (xs++news)∧w.grownBy w' v.ownBlock:=by
 subst hsize
 subst hby
 have hl:=hs.newsLen;have hsmall:n+m≤9223372036854775807:=by simp only[maxLen] at h63;omega
 have hlen:(xs++news).length=(n+m)*i.size:=by rw[List.length_append,hown.1,hl,Nat.add_mul]
 have grown:∀(old:Nat),old<n+m→∀(row:Option Nat),
     (w.drew.alloc (.cells ((xs++news).toArray++Builtin.zeroCells z.cells (grownCap w (n+m) old e-(n+m))) e)).ownsRow base e i.size
       (.slice (some ⟨w.heap.size,0,none⟩) (n+m) (grownCap w (n+m) old e)) (n+m) (xs++news)∧
     w.grownBy (w.drew.alloc (.cells ((xs++news).toArray++Builtin.zeroCells z.cells (grownCap w (n+m) old e-(n+m))) e)) row:=by
   intro old ho row;have hge:=grownCap_ge w (n+m) old e;have hcm:grownCap w (n+m) old e≤maxLen:=grownCap_le_maxLen w (n+m) old e h63;refine⟨⟨hlen,.inr ⟨w.heap.size,_,_,rfl,hbase,heap_alloc_new w.drew _,hge,hcm,?_,?_⟩⟩,⟨rfl,rfl,rfl,by simp,fun k hk _=>(World.grownBy_alloc w.drew _ none).block k hk (by simp)⟩⟩
   · simp only[Array.size_append,List.size_toArray,size_zeroCells,hzs,hlen,←Nat.add_mul];congr 1
     omega
   · simp only[Array.toList_append];rw[←hlen];exact List.take_left
 rcases hown.2 with⟨rfl,rfl⟩|⟨g,cap,cur,rfl,hbg,hg,hnc,hcm,hcs,htake⟩
 · have hx:xs=[]:=List.eq_nil_of_length_eq_zero (by simpa using hown.1);subst hx;by_cases hm:m=0
   · subst hm;have hn:news=[]:=List.eq_nil_of_length_eq_zero (by simpa using hl);subst hn;refine⟨.slice none 0 0,w,?_,World.ownsRow_nil w base e i.size,⟨rfl,rfl,rfl,Nat.le_refl _,fun _ _ _=>rfl⟩⟩;have hc:=hs.cells
     rcases hs.kind with⟨e',hk⟩|hk <;>
       simp[Builtin.append_,run_underlying ht,run_underlying hk,sizeOf,typeInfo,hi,hs.len,hc]
   · have hr:=run_append_grow_src (P:=P) w t tx ty e i z ht hi hz none 0 0 [] (run_firstCells_none w.drew i.size 0 0 0) x m news hs (by omega) (by omega) (growslice_fits (by omega) (by simpa using hbytes));have hgr:=grown 0 (by omega) (Value.ownBlock (.slice none 0 0));simp only[Nat.zero_add,List.nil_append] at hgr hr ⊢;exact⟨_,_,hr,hgr.1,hgr.2⟩
 · by_cases hroom:n+m≤cap
   · have hfit:n*i.size+news.length≤cur.size:=by rw[hl,hcs,←Nat.add_mul];exact Nat.mul_le_mul_right _ hroom
     have hst:=run_storeCells_at P g (n*i.size) e news 0 cur w hg (by simpa using hfit) hs.one;simp only[Nat.add_zero] at hst
     have hr:(Builtin.append_ #[t,tx] ty #[.slice (some ⟨g,0,none⟩) n cap,x]).run P w=.ok (.slice (some ⟨g,0,none⟩) (n+m) cap) (w.setRow g (cur.toList.take (n*i.size)++news++cur.toList.drop (n*i.size+news.length)).toArray):=by
      rcases hs.kind with⟨e',hk⟩|hk <;>
        simp[Builtin.append_,run_underlying ht,run_underlying hk,sizeOf,typeInfo,hi,hs.len,hroom,hs.cells,Addr.add_lit,hst]
     refine⟨_,_,hr,⟨hlen,.inr ⟨g,cap,_,rfl,hbg,setRow_heap w g cur _ e _ hg,hroom,hcm,?_,?_⟩⟩,⟨rfl,rfl,rfl,by simp,fun k _ hk=>setRow_other w g k _ (fun e=>hk (by simp[Value.ownBlock,e]))⟩⟩
     · simp only[List.size_toArray,List.length_append,List.length_take,List.length_drop,Array.length_toList];omega
     · rw[htake,←hlen];exact List.take_left
   · have holds:∀j u,xs[j]?=some u→w.drew.cell? ((⟨g,0,none⟩:Addr).add j)=some u:=fun j u hu=>by simpa using hown.cells (g:=g) rfl j u hu
     have hr:=run_append_grow_src (P:=P) w t tx ty e i z ht hi hz (some ⟨g,0,none⟩) n cap xs (run_firstCells_some (P:=P) w.drew i.size n ⟨g,0,none⟩ n cap xs hown.1 holds) x m news hs (by omega) (by omega) (growslice_fits (by omega) hbytes);have hgr:=grown cap (by omega) (Value.ownBlock (.slice (some ⟨g,0,none⟩) n cap));exact⟨_,_,hr,hgr.1,hgr.2⟩
def OwnB (w:World) (base:Nat) (e:TypeId) (v:Value) (l:List UInt8):Prop:=w.ownsRow base e 1 v l.length (l.map fun b=>Value.int .u8 b.toNat)
theorem OwnB.nil (w:World) (base:Nat) (e:TypeId):OwnB w base e (.slice none 0 0) []:=World.ownsRow_nil w base e 1
theorem OwnB.kept {w w':World} {base:Nat} {e:TypeId} {v:Value} {l:List UInt8} (h:OwnB w base e v l) (hb:Below w.heap.size w w'):OwnB w' base e v l:=
  World.ownsRow.kept h (row:=none) ⟨hb.os,hb.tape,hb.output,hb.size,fun k hk _=>hb.block k hk⟩ (by cases hv:v.ownBlock <;> simp)
theorem OwnB.drewN {w:World} {base:Nat} {e:TypeId} {v:Value} {l:List UInt8} (h:OwnB w base e v l) (n:Nat):OwnB (w.drewN n) base e v l:=h
theorem OwnB.alloc {w:World} {base:Nat} {e:TypeId} {v:Value} {l:List UInt8} (h:OwnB w base e v l) (o:Obj):OwnB (w.alloc o) base e v l:=World.ownsRow.alloc h o
theorem OwnB.below {w0 w w':World} {e:TypeId} {v:Value} {l:List UInt8} {B:Nat} (h:OwnB w B e v l) (hb:Below B w0 w) (hB:B≤w.heap.size) (hg:w.grownBy w' v.ownBlock):Below B w0 w':=by
 exact hb.grown hg hB (fun k hk=>(World.ownsRow.lt h k hk).1)
theorem qFj {n m:Nat} (h:n+m≤140737488355328):n+m≤maxLen:=by unfold maxLen;omega
theorem qJm {P:Program} {w:World} {ops:Array Oper} {o:Oper} {a:Act} {K:Act→World→Prop} {Q:Exit→Act→World→Prop} {E:Prop} (hgd:o.guard=none) (s x:Operand) (t:TypeId)
    (ho:o.op=.call { callee:=.builtin .append,args:=#[s,x],argTypes:=#[t,t] })
    (base:Nat) (e:TypeId) (i:TypeInfo) (z:Value) (ht:P.underlying t=some (.slice e)) (hi:P.info? e=some i) (hz:i.zero=some z)
    (hsize:i.size=1) (hby:i.bytes=1) (hzs:z.cells.size=1) (v:Value) (l:List UInt8) (hs:a.eval s=v) (hown:OwnB w base e v l) (ad:Addr) (m c:Nat) (hx:a.eval x=.slice (some ad) m c) (ns:List Int)
    (hm:ns.length=m) (hcell:∀j u,(ns.map (Value.int .u8))[j]?=some u→w.cell? (ad.add j)=some u) (hn:∀x∈ns,0≤x∧x<256)
    (hb:l.length+m≤140737488355328) (hbase:base≤w.heap.size)
    (h:∀v' w',OwnB w' base e v' (l++ns.map fun x=>x.toNat.toUInt8)→w.grownBy w' v.ownBlock→K (a.put o.dst v') w') :
    if Region.wanted o (yielded ops a.tmps)=true then Oper.wp P o a w K Q else E:=by
 subst hm;have hw:Region.wanted o (yielded ops a.tmps)=true:=by simp[Region.wanted,hgd]
 rw[if_pos hw]
 have hone:∀u∈ns.map (Value.int .u8),u.oneCell'=true:=by
  intro u hu;obtain⟨_,_,rfl⟩:=List.mem_map.1 hu;rfl
 obtain⟨v',w',hr,h2,h3⟩:=qCu (P:=P) w base t t o.type e i z 1 1 ht hi hz hsize hby hzs (by omega) v l.length _ hown (.slice (some ad) ns.length c) ns.length (ns.map (Value.int .u8)) (Src.ofSlice w ht ad ns.length c _ (by simp) hcell hone) (qFj hb) (by omega) hbase
 have he:(ns.map fun x=>x.toNat.toUInt8).map (fun b=>Value.int .u8 b.toNat)=ns.map (Value.int .u8):=by
  rw[List.map_map];apply List.map_congr_left;intro x hx;have:=hn x hx;have h2:(x.toNat.toUInt8).toNat=x.toNat:=by simp[Nat.toUInt8];omega
  simp only[Function.comp,h2];rw[show((x.toNat:Nat):Int)=x by omega]
 unfold Oper.wp execOp;simp only[ho,resolve,invoke,builtin,Sem.run_bind,Sem.run_pure,Result.andThen_ok,List.map_toArray,List.map_cons,List.map_nil,hs,hx,hr];refine h v' w' ?_ h3;unfold OwnB;rw[List.length_append,List.map_append,he,List.length_map];exact h2
theorem qJf {P:Program} {w:World} {base:Nat} {src dst e:TypeId} (hs:P.underlying src=some (.slice e)) (he:P.underlying e=some (.int .u8)) (hd:P.underlying dst=some .string) {v:Value} {l:List UInt8} (hown:OwnB w base e v l) :
    (convert src dst v).run P w=.ok (.string ⟨l.toArray⟩) w:=by
 have hown':w.ownsRow base e 1 v l.length (l.map fun b=>Value.int .u8 b.toNat):=hown;rcases hown'.2 with⟨rfl,h0⟩|⟨g,cap,cur,rfl,hb,hg,hc⟩
 · have:l=[]:=List.eq_nil_of_length_eq_zero h0;subst this;exact run_convert_bytes_nil w src e hs he 0 0 dst hd
 · have hcell:=hown'.cells (g:=g) rfl
   have:=run_convert_bytes_arg (P:=P) w src e hs he g 0 l.length cap (l.map fun b=>(b.toNat:Int)) (by simp) (fun i hi=>by
    have h1:=hcell i (.int .u8 (l[i]).toNat) (by simp[hi]);have hadd:(⟨g,0,none⟩:Addr).add i=⟨g,0+i,none⟩:=by unfold Addr.add;split <;> simp_all
    rw[hadd] at h1;rw[h1]
    simp[List.getD_eq_getElem?_getD,hi]) dst hd
   rw[this];congr 2
   have:(strOfNums (l.map fun b=>(b.toNat:Int))).data.toList=l:=by
    rw[strOfNums_data,List.map_map];have:((fun n:Int=>UInt8.ofNat n.toNat)∘fun b:UInt8=>((b.toNat:Nat):Int))=id:=by funext b;simp
    rw[this,List.map_id]
   cases hX:strOfNums (l.map fun b=>(b.toNat:Int)) with
   |mk d=>rw[hX] at this;simp only at this;subst this;simp
section
variable {P:Program} {f:FuncId} {fn:Func}
theorem qF7 (hf:P.funcs[f]?=some fn) (hname:(fn.name== "runtime.NumGoroutine")=false) (hb:fn.body.isNone=true) (hn:Extern.findNext fn=none)
    (he:Extern.find fn=some (Extern.Atomic.loadT .ptr)) {a:Addr} {x:Option Addr} {w:World} (hc:w.cell? a=some (.pointer x)) :
    (callFunc f #[.pointer (some a)]).run P w=.ok (.value (.pointer x)) w:=by
 rw[run_callFunc_extern hf hname hb hn he];change (Sem.run P (do Extern.Atomic.read .ptr (←asAddr (.pointer (some a)))) w).andThen _=_;simp[Extern.Atomic.read,asAddr,hc,Result.andThen]
theorem qJj (hf:P.funcs[f]?=some fn) (hname:(fn.name== "runtime.NumGoroutine")=false) (hb:fn.body.isNone=true) (hn:Extern.findNext fn=none)
    (he:Extern.find fn=some Extern.Atomic.storeT) {a:Addr} {y:Option Addr} {u:Value} {w:World} (hc:w.cell? a=some u) (hz:w.frozen? a=false) :
    (callFunc f #[.pointer (some a),.pointer y]).run P w=.ok (.value (.tuple #[])) (w.setCell a (.pointer y)):=by
 rw[run_callFunc_extern hf hname hb hn he]
 change (Sem.run P (do
   store (←asAddr (.pointer (some a))) (.pointer y) .atomic
   pure Extern.Atomic.none_) w).andThen _=_
 simp[asAddr,hc,hz,run_store P w a (.pointer y) .atomic rfl,Result.andThen,Extern.Atomic.none_]
theorem qLy (hf:P.funcs[f]?=some fn) (hname:(fn.name== "runtime.NumGoroutine")=false) (hb:fn.body.isNone=true) (hn:Extern.findNext fn=none)
    (he:Extern.find fn=some (Extern.Atomic.casT .ptr)) {a x:Addr} {y:Option Addr} {w:World} (hc:w.cell? a=some (.pointer (some x))) (hz:w.frozen? a=false) :
    (callFunc f #[.pointer (some a),.pointer (some x),.pointer y]).run P w=.ok (.value (.bool true)) (w.setCell a (.pointer y)):=by
 rw[run_callFunc_extern hf hname hb hn he]
 change (Sem.run P (do
   let a' ←asAddr (.pointer (some a))
   if ←Extern.Atomic.touchesFrozen a' then unsupported (.unsafePointer "a write to bytes that a string shares")
   let eq ←match Extern.Atomic.T.ptr,←Extern.Atomic.read .ptr a',Value.pointer (some x) with
    |_,.int _ x,.int _ y=>pure (x==y)
    | .ptr,.pointer x,.pointer y=>samePointer x y
    | .int _,.pointer (some _),.int _ 0| .int _,.int _ 0,.pointer (some _)=>pure false
    | .int _,.pointer (some _),_| .int _,_,.pointer (some _)=>unsupported .addressObserved
    |_,_,_=>stuck "atomic.CompareAndSwap: old is no T"
   if eq then store a' (.pointer y) .atomic
   pure (Value.bool eq)) w).andThen _=_
 simp[Extern.Atomic.touchesFrozen,Extern.Atomic.read,asAddr,viewAt,World.shape?_isSome_of_cell? hc,hc,hz,samePointer,sameAddr,run_store P w a (.pointer y) .atomic rfl,Result.andThen]
theorem qEy {src dst u e:TypeId} (hs:P.underlying src=some .unsafePointer) (hd:P.underlying dst=some (.pointer u)) {b:Nat} {cs:Array Value} {w:World}
    (hb':w.heap[b]?=some (.cells cs e (0,0))) (h0:0<cs.size) (hsz:(P.info? u).isSome=true) (hl:liesAt P P.depth e (cs.size/P.cellsOf e) 0 u 1=true) :
    (convert src dst (.pointer (some ⟨b,0,none⟩))).run P w=.ok (.pointer (some ⟨b,0,none⟩)) w:=by
 obtain⟨i,hi⟩:=Option.isSome_iff_exists.1 hsz;have hc:w.cell? ⟨b,0,none⟩=some cs[0]:=by rw[Lib.cell_of_heap hb'];exact Array.getElem?_eq_getElem h0
 have hsh:w.shape? b=some (e,cs.size):=by
  unfold World.shape?;simp[hb']
 simp[convert,Conv.unsafePointer,Conv.seenAt,viewAt,cellsIn,sizeOf,typeInfo,run_underlying hs,run_underlying hd,hi,variablesAt,hsh,hl,Result.andThen]
end
variable {F:Fence} {n:Nat} {P:Program}
def qKi {β:Type} (base:Nat) (J:β→World→Prop):Prop:=
  ∀s A B row,J s A→A.grownBy B row→(∀r,row=some r→base≤r∧∃o:Obj,A.heap[r]?=some o∧o.isCells=false)→J s B
def qOj {α:Type} (F:Fence) (n:Nat) (P:Program) (g:Nat) (Bs:Nat) (encs:α→Array Value) (xs:List α) (R:World→Prop):Prop:=
  ∀ (l:Nat) (J Jx:List α→World→Prop) (W:World),(∀s A,J s A→R A)→
    (∀s A B,J s A→A.grownBy B none→J s B)→(∀s A B,Jx s A→A.grownBy B none→Jx s B)→
    (∀pre x W1,J pre W1→(pre++[x]) <+: xs→YieldAt F (n-1) P l (encs x) W1 fun e W'=>
     (e=.returned (.bool true)∧J (pre++[x]) W')∨(e=.returned (.bool false)∧Jx (pre++[x]) W'))→
    J [] W→
    CallsIn F n P g #[.func (.yield l) #[] #[],.pointer (some ⟨Bs,0,none⟩)] W fun e W'=>(∃v,e=.returned v)∧(J xs W'∨∃pre,Jx pre W')
def qPd {α:Type} (base:Nat) (I:List α→World→Prop) (Ix:Code→List α→World→Prop) (xs:List α) (W:World):Exit→Act→World→Prop
  | .normal,_,W'=>KeepsFrom base W W'∧I xs W'
  | .ret,_,W'=>KeepsFrom base W W'∧Ix .ret xs W'
  | .exit id,_,W'=>KeepsFrom base W W'∧Ix (.exit id) xs W'
  | .goto t,_,W'=>KeepsFrom base W W'∧Ix (.goto t) xs W'
  | .panic _,_,_=>False
  | .outgrown,_,_=>False
theorem qKi.turn {β:Type} {base:Nat} {J:β→World→Prop} (h:qKi base J) {s:β} {W:World} {l:Nat} {o:Obj} (o':Obj) (hj:J s W) (hl:base≤l) (ho:W.heap[l]?=some o) (hc:o.isCells=false):J s (W.putObj l o'):=
  h s _ _ (some l) hj (grownBy_putObj' W l o') (fun r e=>by cases e;exact⟨hl,o,ho,hc⟩)
theorem qKi.new {β:Type} {base:Nat} {J:β→World→Prop} (h:qKi base J) {s:β} {W:World} (o:Obj) (hj:J s W):J s (W.alloc o):=
  h s _ _ none hj (World.grownBy_alloc W o none) (fun r e=>by cases e)
end Go.Ms
