/- Cells, plain: the laws. Schemas that follow each other, plainly: a row that is moved is a row of the later columns, and has the same key. Schemas that follow each other, plainly: as the package asks it. Registry's laws, plainly: a schema that is offered; subjects apart. Rows of bytes of one's own: appended to from a string or a row, read as a string. Pointers that are loaded, stored and swapped at once, in one goroutine; a pointer seen as one to its own type. A range over a function that only reads what its captured block holds: the law for the loop, and what such an iterator promises. A range over a function that only reads: what is assigned may lie in a box. -/
import Derived.Test.YtainiaighnjpfaaGreatDoorZQb
import Derived.WalkKit
import Derived.Below
import Derived.Deep.Draws
import Derived.Lib.Hide
import Derived.Deep.AppendSrc
import Derived.Laws.BytesArg
import Derived.OwnWalk
import Derived.Deep.RegionLaw
import Derived.Laws.LoneSync
import Derived.Lib.Builder
import Derived.RangeFuncBox
import Derived.RangeFuncCalls
import Derived.RangeFuncBound
import Derived.RangeFuncNested
set_option linter.unusedVariables false
namespace Go.Ms
open Go.Lib
theorem qFm {k:Int} (h:kMay k=true):k=1∨k=2∨k=3∨k=4∨k=5:=by
 unfold kMay at h;rw[Bool.and_eq_true,decide_eq_true_iff,decide_eq_true_iff] at h;omega
theorem qIh {k:Int} {tn nu:Bool} {n:Int} {s:Bs} (h:qAt k tn nu n s=0):kMay k=true∧kOk k tn nu n s=true:=by
 unfold qAt at h
 split at h
 · rename_i h1
   split at h
   · rename_i h2;exact⟨h1,h2⟩
   · omega
 · omega
theorem qFw {k:Int} {tn nu:Bool} {n:Int} {s:Bs} (h:kMay k=true) (h2:kOk k tn nu n s=true):qAt k tn nu n s=0:=by
 unfold qAt;rw[if_pos h,if_pos h2]
theorem is2 {n:Int} {s:Bs}:kIs 2 n s=true↔s=[]∧ -2147483648≤n∧n≤2147483647:=by simp[kIs,and_assoc]
theorem is3 {n:Int} {s:Bs}:kIs 3 n s=true↔s=[]∧ -9223372036854775808≤n∧n≤9223372036854775807:=by simp[kIs,and_assoc]
theorem is23 {k n:Int} {s:Bs} (hk:k=2∨k=3) (h:kIs k n s=true):s=[]∧ -9223372036854775808≤n∧n≤9223372036854775807:=by
 rcases hk with rfl|rfl
 · have:=is2.1 h;exact⟨this.1,by omega,by omega⟩
 · exact is3.1 h
theorem qT6 {k:Int} {tn:Bool} {n:Int} {s:Bs} (h:kOk k tn false n s=true):kIs k n s=true:=by
 simpa[kOk] using h
theorem qPn {k:Int} {tn nu:Bool} {n:Int} {s l:Bs} (h:qBg k tn l=((nu,n,s),0)):qAt k tn nu n s=0∧qBk k tn nu n s=l:=by
 unfold qBg at h
 split at h
 · split at h
   · rename_i h1
     injection h with h2 _
     rw[h2] at h1;exact h1
   · injection h with _ h2;omega
 · injection h with _ h2;omega
end Go.Ms
set_option linter.unusedSimpArgs false
namespace Go.Ms
theorem qWf:∀{ts:List Ty} {cs:List Cl},(∀(q:Nat) t c,ts[q]?=some t→cs[q]?=some c→qDw t c=0)→qDf ts cs=0
  |[],_,_=>by unfold qDf;rfl
  |_::_,[],_=>by unfold qDf;rfl
  |t::ts,c::cs,h=>by
   unfold qDf;rw[if_pos (h 0 t c rfl rfl)]
   exact qWf fun q t' c' ht hc=>h (q+1) t' c' (by simpa using ht) (by simpa using hc)
theorem qJ7 {ts:List Ty} {cs:List Cl} (h:qDb ts cs=0):ts.length=cs.length∧qDf ts cs=0:=by
 unfold qDb at h
 split at h
 · exact⟨by assumption,h⟩
 · omega
theorem qKv (cs:List Co):(qGh cs).length=cs.length:=by unfold qGh;rw[List.length_map]
def qP5 (c:Co):Co:=(c.1,c.2.1,(3,c.2.2.1.2),c.2.2.2)
end Go.Ms
set_option linter.unusedSimpArgs false
namespace Go.Ms
def evAs (c:Co):Co:=if c.2.2.1.1=2 then qP5 c else c
theorem qTp {c d:Co} (h:c.1=d.1):(decide (evAs c=evAs d)&& !(decide (c.2.2.1.1=3)&&decide (d.2.2.1.1=2)))=qHu c d:=by
 obtain⟨i,nm,⟨k,u⟩,df⟩:=c;obtain⟨j,nm',⟨k',u'⟩,df'⟩:=d;simp only at h;subst h;rw[Bool.eq_iff_iff];unfold evAs qHu qP5;simp only[Bool.and_eq_true,Bool.or_eq_true,Bool.not_eq_true',Bool.and_eq_false_iff,decide_eq_true_eq,decide_eq_false_iff_not,beq_iff_eq]
 by_cases h1:k=2
 · by_cases h2:k'=2
   · rw[if_pos h1,if_pos h2];simp only[Prod.mk.injEq,true_and]
     constructor
     · rintro⟨⟨a,b,c⟩,_⟩;exact⟨⟨⟨a,c⟩,b⟩,.inl (h1.trans h2.symm)⟩
     · rintro⟨⟨⟨a,c⟩,b⟩,_⟩;exact⟨⟨a,b,c⟩,.inl (by omega)⟩
   · rw[if_pos h1,if_neg h2];simp only[Prod.mk.injEq,true_and]
     constructor
     · rintro⟨⟨a,⟨e,b⟩,c⟩,_⟩;exact⟨⟨⟨a,c⟩,b⟩,.inr ⟨h1,e.symm⟩⟩
     · rintro⟨⟨⟨a,c⟩,b⟩,e⟩;exact⟨⟨a,⟨by omega,b⟩,c⟩,.inl (by omega)⟩
 · by_cases h2:k'=2
   · rw[if_neg h1,if_pos h2];simp only[Prod.mk.injEq,true_and]
     constructor
     · rintro⟨⟨a,⟨e,b⟩,c⟩,n⟩;omega
     · rintro⟨⟨⟨a,c⟩,b⟩,e⟩;omega
   · rw[if_neg h1,if_neg h2];simp only[Prod.mk.injEq,true_and]
     constructor
     · rintro⟨⟨a,⟨e,b⟩,c⟩,n⟩;exact⟨⟨⟨a,c⟩,b⟩,.inl e⟩
     · rintro⟨⟨⟨a,c⟩,b⟩,e⟩;exact⟨⟨a,⟨by omega,b⟩,c⟩,.inr h2⟩
theorem qOo (cs:List Co) (c:Co):qCe (cs++[c])=c.1:=by unfold qCe;simp
def qE4 (a:List Co) (r:List Cl) (i:Nat) (id:Int):Option Cl:=match evAt (a.take i) id with
 |some k=>some (r.getD k zCl)
 |none=>none
theorem qQs (a:List Co) (r:List Cl) (id:Int):qE4 a r 0 id=none:=by unfold qE4;simp[evAt]
theorem qRc {a:List Co} (hu:qOe a) {r:List Cl} {i:Nat} {c:Co} (h:a[i]?=some c) (id:Int):qE4 a r (i+1) id=if id=c.1 then some (r.getD i zCl) else qE4 a r i id:=by
 have hut:qOe (a.take (i+1)):=fun j q x y hq hx hy=>by
  rw[List.getElem?_take] at hx hy
  split at hx
  · split at hy
    · exact hu j q x y hq hx hy
    · cases hy
  · cases hx
 have hl:=(List.getElem?_eq_some_iff.1 h).1
 have hat:(a.take (i+1))[i]?=some c:=by rw[List.getElem?_take,if_pos (by omega)];exact h
 unfold qE4
 by_cases e:id=c.1
 · rw[if_pos e,e,qTg hut hat]
 · rw[if_neg e]
   have:evAt (a.take (i+1)) id=evAt (a.take i) id:=by
    rw[List.take_add_one,h];unfold evAt;rw[List.findIdx?_append]
    have hn:([c]:List Co).findIdx? (fun c=>decide (c.1=id))=none:=by
     rw[List.findIdx?_eq_none_iff]
     intro x hx
     obtain rfl:=List.mem_singleton.1 hx
     simpa using fun e'=>e e'.symm
    simp only[Option.toList_some,hn,Option.map_none,Option.or_none]
   rw[this]
theorem qTt {a:List Co} {r:List Cl} (id:Int):qE4 a r a.length id=match evAt a id with
    |some k=>some (r.getD k zCl)
    |none=>none:=by unfold qE4;rw[List.take_length]
end Go.Ms
set_option linter.unusedSimpArgs false
namespace Go.Ms
def ofNm (i:Nat):ByteArray:=⟨#[99,UInt8.ofNat (97+i)]⟩
def qPv (wide:Int):Co:=(1,⟨#[107]⟩,(2+wide%2,false),(false,0,⟨#[]⟩))
def qJ6 (wide fr:Int) (i:Nat):Co:=(2+(i:Int)+7*(fr/2),ofNm i,(2+(wide/2^(i+1))%2,false),(false,(i:Int),⟨#[]⟩))
def qEu:Co:=(30,⟨#[108,97,115,116]⟩,(4,true),(true,0,⟨#[]⟩))
def qCt (has wide fr:Int):Nat→List Co
  |0=>[qPv wide]
  |i+1=>if (has/2^i)%2=1 then qCt has wide fr i++[qJ6 wide fr i] else qCt has wide fr i
def qBx (x:Int×Int×Int):Sc:=(qCt (x.1%256) (x.2.1%256) (x.2.2%4) 7++(if (x.2.2%4)%2=1 then [qEu] else []),[0])
theorem qQ0:∀i<7,∀j<7,ofNm i=ofNm j→i=j:=by decide
theorem qSg:∀i<7,ofNm i≠(⟨#[107]⟩:ByteArray):=by decide
theorem qW1:∀i<7,ofNm i≠(⟨#[108,97,115,116]⟩:ByteArray):=by decide
theorem qXe:∀i<7,isNm (ofNm i).data.toList=true:=by decide
theorem qWn:∀i<7,qDw (2,false) (false,((i:Nat):Int),⟨#[]⟩)=0∧qDw (3,false) (false,((i:Nat):Int),⟨#[]⟩)=0:=by decide
structure qVu (wide fr:Int) (n:Nat) (cs:List Co):Prop where
  mem:∀c∈cs,c=qPv wide∨∃i,i<n∧c=qJ6 wide fr i
  up:cs.Pairwise (fun a b=>a.1<b.1∧a.2.1≠b.2.1)
  len:cs.length≤n+1
  hd:cs[0]?=some (qPv wide)
theorem qVf {has wide fr:Int} (h0:0≤fr) (h4:fr<4):∀n,n≤7→qVu wide fr n (qCt has wide fr n)
  |0,_=>⟨fun c hc=>.inl (List.mem_singleton.1 hc),List.pairwise_singleton _ _,Nat.le_refl _,rfl⟩
  |n+1,hn=>by
   have ih:=qVf (has:=has) (wide:=wide) h0 h4 n (by omega);unfold qCt
   split
   · refine⟨fun c hc=>?_,?_,by rw[List.length_append];have:=ih.len;simp only[List.length_singleton];omega,?_⟩
     · rcases List.mem_append.1 hc with hc|hc
       · rcases ih.mem c hc with h|⟨i,hi,h⟩
         · exact .inl h
         · exact .inr ⟨i,by omega,h⟩
       · exact .inr ⟨n,by omega,List.mem_singleton.1 hc⟩
     · refine List.pairwise_append.2 ⟨ih.up,List.pairwise_singleton _ _,fun a ha b hb=>?_⟩;rw[List.mem_singleton.1 hb]
       rcases ih.mem a ha with h|⟨i,hi,h⟩
       · rw[h];exact⟨by show(1:Int)<2+(n:Int)+7*(fr/2);omega,fun e=>qSg n (by omega) e.symm⟩
       · rw[h];exact⟨by show 2+(i:Int)+7*(fr/2)<2+(n:Int)+7*(fr/2);omega,fun e=>by have:=qQ0 i (by omega) n (by omega) e;omega⟩
     · rw[List.getElem?_append_left (List.getElem?_eq_some_iff.1 ih.hd).1];exact ih.hd
   · exact⟨fun c hc=>by
       rcases ih.mem c hc with h|⟨i,hi,h⟩
       · exact .inl h
       · exact .inr ⟨i,by omega,h⟩,ih.up,Nat.le_succ_of_le ih.len,ih.hd⟩
theorem qN5 {x:Int×Int×Int}:∀c∈(qBx x).1,c=qPv (x.2.1%256)∨(∃i,i<7∧c=qJ6 (x.2.1%256) (x.2.2%4) i)∨c=qEu:=by
 intro c hc
 have ih:=qVf (has:=x.1%256) (wide:=x.2.1%256) (fr:=x.2.2%4) (by omega) (by omega) 7 (Nat.le_refl _)
 rcases List.mem_append.1 hc with hc|hc
 · rcases ih.mem c hc with h|h
   · exact .inl h
   · exact .inr (.inl h)
 · split at hc
   · exact .inr (.inr (List.mem_singleton.1 hc))
   · cases hc
theorem qWw (x:Int×Int×Int):(qBx x).1.Pairwise (fun a b=>a.1<b.1∧a.2.1≠b.2.1)∧(qBx x).1[0]?=some (qPv (x.2.1%256))∧(qBx x).1.length≤9:=by
 have ih:=qVf (has:=x.1%256) (wide:=x.2.1%256) (fr:=x.2.2%4) (by omega) (by omega) 7 (Nat.le_refl _);have hl:=ih.len;unfold qBx
 simp only
 split
 · refine⟨List.pairwise_append.2 ⟨ih.up,List.pairwise_singleton _ _,fun a ha b hb=>?_⟩,?_,by rw[List.length_append];simp only[List.length_singleton];omega⟩
   · rw[List.mem_singleton.1 hb]
     rcases ih.mem a ha with h|⟨i,hi,h⟩
     · rw[h];exact⟨show(1:Int)<30 by decide,show(⟨#[107]⟩:ByteArray)≠⟨#[108,97,115,116]⟩ by decide⟩
     · rw[h];exact⟨by show 2+(i:Int)+7*((x.2.2%4)/2)<30;omega,qW1 i hi⟩
   · rw[List.getElem?_append_left (List.getElem?_eq_some_iff.1 ih.hd).1];exact ih.hd
 · rw[List.append_nil];exact⟨ih.up,ih.hd,by omega⟩
theorem qV2 (x:Int×Int×Int):scOk (qBx x).1 (qBx x).2=true:=by
 obtain⟨hu,hh,hl⟩:=qWw x;have hpos:0<(qBx x).1.length:=(List.getElem?_eq_some_iff.1 hh).1;have hp:=List.pairwise_iff_getElem.1 hu
 have hat:∀(i j:Nat) a b,i<j→(qBx x).1[i]?=some a→(qBx x).1[j]?=some b→a.1<b.1∧a.2.1≠b.2.1:=fun i j a b hij ha hb=>by
  obtain⟨h1,e1⟩:=List.getElem?_eq_some_iff.1 ha;obtain⟨h2,e2⟩:=List.getElem?_eq_some_iff.1 hb;have:=hp i j h1 h2 hij;rw[e1,e2] at this;exact this
 have w1:x.2.1%256%2=0∨x.2.1%256%2=1:=by omega
 refine(qFf _ _).2 ⟨fun i c hc=>?_,hpos,by omega,fun i j a b hij ha hb=>(hat i j a b hij ha hb).2,fun i c hc=>?_,fun i a b ha hb=>(hat i (i+1) a b (by omega) ha hb).1,(by show 1≤8;omega),fun i k hk=>?_,fun i a b ha hb=>?_,fun i k c hk hc=>?_⟩
 · rcases qN5 c (List.mem_of_getElem? hc) with h|⟨j,hj,h⟩|h
   · subst h;refine⟨show isNm [107]=true by decide,?_⟩
     show qDw (2+x.2.1%256%2,false) (false,0,⟨#[]⟩)=0
     rcases w1 with e|e <;> rw[e] <;> decide
   · subst h;refine⟨qXe j hj,?_⟩
     show qDw (2+(x.2.1%256/2^(j+1))%2,false) (false,(j:Int),⟨#[]⟩)=0
     rcases(by omega:(x.2.1%256/2^(j+1))%2=0∨(x.2.1%256/2^(j+1))%2=1) with e|e <;> rw[e]
     · exact(qWn j hj).1
     · exact(qWn j hj).2
   · subst h;exact⟨by decide,by decide⟩
 · rcases qN5 c (List.mem_of_getElem? hc) with h|⟨j,hj,h⟩|h
   · subst h;exact⟨show(1:Int)≤1 by decide,show(1:Int)≤1048576 by decide⟩
   · subst h
     constructor
     · show 1≤2+(j:Int)+7*((x.2.2%4)/2);omega
     · show 2+(j:Int)+7*((x.2.2%4)/2)≤1048576;omega
   · subst h;exact⟨by decide,by decide⟩
 · rcases i with _|i
   · cases hk;exact⟨by decide,by omega⟩
   · cases hk
 · rcases i with _|i
   · cases hb
   · cases ha
 · rcases i with _|i
   · cases hk
     rw[show(0:Int).toNat=0 from rfl,hh] at hc
     cases hc
     rfl
   · cases hk
theorem qWk (x:Int×Int×Int):(qBx x).2≠[]:=by unfold qBx;simp
theorem qWl {s:Sc} (h:scOk s.1 s.2=true):qAu [s]=0:=by
 unfold qAu
 simp[h,qE5]
end Go.Ms
namespace Go.Ms
open Go.RowKit Go.Lib
theorem qC9 {P:Program} (w:World) (base:Nat) (t tx ty e:TypeId) (i:TypeInfo) (z:Value) (size bytes:Nat) (ht:P.underlying t=some (.slice e)) (hi:P.info? e=some i) (hz:i.zero=some z)
    (hsize:i.size=size) (hby:i.bytes=bytes) (hzs:z.cells.size=size) (hsz:0<size)
    (v:Value) (n:Nat) (xs:List Value) (hown:w.ownsRow base e size v n xs) (x:Value) (m:Nat) (news:List Value) (hs:Src P size tx x m news w)
    (h63:n+m≤maxLen) (hbytes:(n+m)*bytes≤140737488355328) (hbase:base≤w.heap.size) :
    ∃v' w',(Builtin.append_ #[t,tx] ty #[v,x]).run P w=.ok v' w'∧w'.ownsRow base e size v' (n+m) (xs++news)∧w.grownBy w' v.ownBlock:=by
 subst hsize
 subst hby
 have hl:=hs.newsLen
 have hsmall:n+m≤9223372036854775807:=by simp only[maxLen] at h63;omega
 have hlen:(xs++news).length=(n+m)*i.size:=by rw[List.length_append,hown.1,hl,Nat.add_mul]
 have grown:∀(old:Nat),old<n+m→∀(row:Option Nat),
     (w.drew.alloc (.cells ((xs++news).toArray++Builtin.zeroCells z.cells (grownCap w (n+m) old e-(n+m))) e)).ownsRow base e i.size
       (.slice (some ⟨w.heap.size,0,none⟩) (n+m) (grownCap w (n+m) old e)) (n+m) (xs++news)∧
     w.grownBy (w.drew.alloc (.cells ((xs++news).toArray++Builtin.zeroCells z.cells (grownCap w (n+m) old e-(n+m))) e)) row:=by
   intro old ho row
   have hge:=grownCap_ge w (n+m) old e;have hcm:grownCap w (n+m) old e≤maxLen:=grownCap_le_maxLen w (n+m) old e h63;refine⟨⟨hlen,.inr ⟨w.heap.size,_,_,rfl,hbase,heap_alloc_new w.drew _,hge,hcm,?_,?_⟩⟩,⟨rfl,rfl,rfl,by simp,fun k hk _=>(World.grownBy_alloc w.drew _ none).block k hk (by simp)⟩⟩
   · simp only[Array.size_append,List.size_toArray,size_zeroCells,hzs,hlen,←Nat.add_mul]
     congr 1
     omega
   · simp only[Array.toList_append];rw[←hlen];exact List.take_left
 rcases hown.2 with⟨rfl,rfl⟩|⟨g,cap,cur,rfl,hbg,hg,hnc,hcm,hcs,htake⟩
 · have hx:xs=[]:=List.eq_nil_of_length_eq_zero (by simpa using hown.1);subst hx
   by_cases hm:m=0
   · subst hm;have hn:news=[]:=List.eq_nil_of_length_eq_zero (by simpa using hl);subst hn;refine⟨.slice none 0 0,w,?_,World.ownsRow_nil w base e i.size,⟨rfl,rfl,rfl,Nat.le_refl _,fun _ _ _=>rfl⟩⟩;have hc:=hs.cells
     rcases hs.kind with⟨e',hk⟩|hk <;>
       simp[Builtin.append_,run_underlying ht,run_underlying hk,sizeOf,typeInfo,hi,hs.len,hc]
   · have hr:=run_append_grow_src (P:=P) w t tx ty e i z ht hi hz none 0 0 [] (run_firstCells_none w.drew i.size 0 0 0) x m news hs (by omega) (by omega) (growslice_fits (by omega) (by simpa using hbytes));have hgr:=grown 0 (by omega) (Value.ownBlock (.slice none 0 0));simp only[Nat.zero_add,List.nil_append] at hgr hr ⊢;exact⟨_,_,hr,hgr.1,hgr.2⟩
 · by_cases hroom:n+m≤cap
   · have hfit:n*i.size+news.length≤cur.size:=by rw[hl,hcs,←Nat.add_mul];exact Nat.mul_le_mul_right _ hroom
     have hst:=run_storeCells_at P g (n*i.size) e news 0 cur w hg (by simpa using hfit) hs.one;simp only[Nat.add_zero] at hst
     have hr:(Builtin.append_ #[t,tx] ty #[.slice (some ⟨g,0,none⟩) n cap,x]).run P w=.ok (.slice (some ⟨g,0,none⟩) (n+m) cap) (w.setRow g (cur.toList.take (n*i.size)++news++cur.toList.drop (n*i.size+news.length)).toArray):=by
      rcases hs.kind with⟨e',hk⟩|hk <;>
        simp[Builtin.append_,run_underlying ht,run_underlying hk,sizeOf,typeInfo,hi,hs.len,hroom,hs.cells,Addr.add_lit,hst]
     refine⟨_,_,hr,⟨hlen,.inr ⟨g,cap,_,rfl,hbg,setRow_heap w g cur _ e _ hg,hroom,hcm,?_,?_⟩⟩,⟨rfl,rfl,rfl,by simp,fun k _ hk=>setRow_other w g k _ (fun e=>hk (by simp[Value.ownBlock,e]))⟩⟩
     · simp only[List.size_toArray,List.length_append,List.length_take,List.length_drop,Array.length_toList];omega
     · rw[htake,←hlen];exact List.take_left
   · have holds:∀j u,xs[j]?=some u→w.drew.cell? ((⟨g,0,none⟩:Addr).add j)=some u:=fun j u hu=>by simpa using hown.cells (g:=g) rfl j u hu
     have hr:=run_append_grow_src (P:=P) w t tx ty e i z ht hi hz (some ⟨g,0,none⟩) n cap xs (run_firstCells_some (P:=P) w.drew i.size n ⟨g,0,none⟩ n cap xs hown.1 holds) x m news hs (by omega) (by omega) (growslice_fits (by omega) hbytes);have hgr:=grown cap (by omega) (Value.ownBlock (.slice (some ⟨g,0,none⟩) n cap));exact⟨_,_,hr,hgr.1,hgr.2⟩
def OwnB (w:World) (base:Nat) (e:TypeId) (v:Value) (l:List UInt8):Prop:=w.ownsRow base e 1 v l.length (l.map fun b=>Value.int .u8 b.toNat)
theorem OwnB.nil (w:World) (base:Nat) (e:TypeId):OwnB w base e (.slice none 0 0) []:=World.ownsRow_nil w base e 1
theorem OwnB.kept {w w':World} {base:Nat} {e:TypeId} {v:Value} {l:List UInt8} (h:OwnB w base e v l) (hb:Below w.heap.size w w'):OwnB w' base e v l:=
  World.ownsRow.kept h (row:=none) ⟨hb.os,hb.tape,hb.output,hb.size,fun k hk _=>hb.block k hk⟩ (by cases hv:v.ownBlock <;> simp)
theorem OwnB.drewN {w:World} {base:Nat} {e:TypeId} {v:Value} {l:List UInt8} (h:OwnB w base e v l) (n:Nat):OwnB (w.drewN n) base e v l:=h
theorem OwnB.alloc {w:World} {base:Nat} {e:TypeId} {v:Value} {l:List UInt8} (h:OwnB w base e v l) (o:Obj):OwnB (w.alloc o) base e v l:=World.ownsRow.alloc h o
theorem OwnB.below {w0 w w':World} {e:TypeId} {v:Value} {l:List UInt8} {B:Nat} (h:OwnB w B e v l) (hb:Below B w0 w) (hB:B≤w.heap.size) (hg:w.grownBy w' v.ownBlock):Below B w0 w':=by
 exact hb.grown hg hB (fun k hk=>(World.ownsRow.lt h k hk).1)
theorem qD8 {n m:Nat} (h:n+m≤140737488355328):n+m≤maxLen:=by unfold maxLen;omega
theorem qHw {P:Program} {w:World} {ops:Array Oper} {o:Oper} {a:Act} {K:Act→World→Prop} {Q:Exit→Act→World→Prop} {E:Prop} (hgd:o.guard=none) (s x:Operand) (t:TypeId)
    (ho:o.op=.call { callee:=.builtin .append,args:=#[s,x],argTypes:=#[t,t] })
    (base:Nat) (e:TypeId) (i:TypeInfo) (z:Value) (ht:P.underlying t=some (.slice e)) (hi:P.info? e=some i) (hz:i.zero=some z)
    (hsize:i.size=1) (hby:i.bytes=1) (hzs:z.cells.size=1) (v:Value) (l:List UInt8) (hs:a.eval s=v) (hown:OwnB w base e v l) (ad:Addr) (m c:Nat) (hx:a.eval x=.slice (some ad) m c) (ns:List Int)
    (hm:ns.length=m) (hcell:∀j u,(ns.map (Value.int .u8))[j]?=some u→w.cell? (ad.add j)=some u) (hn:∀x∈ns,0≤x∧x<256)
    (hb:l.length+m≤140737488355328) (hbase:base≤w.heap.size)
    (h:∀v' w',OwnB w' base e v' (l++ns.map fun x=>x.toNat.toUInt8)→w.grownBy w' v.ownBlock→K (a.put o.dst v') w') :
    if Region.wanted o (yielded ops a.tmps)=true then Oper.wp P o a w K Q else E:=by
 subst hm
 have hw:Region.wanted o (yielded ops a.tmps)=true:=by simp[Region.wanted,hgd]
 rw[if_pos hw]
 have hone:∀u∈ns.map (Value.int .u8),u.oneCell'=true:=by
  intro u hu
  obtain⟨_,_,rfl⟩:=List.mem_map.1 hu;rfl
 obtain⟨v',w',hr,h2,h3⟩:=qC9 (P:=P) w base t t o.type e i z 1 1 ht hi hz hsize hby hzs (by omega) v l.length _ hown (.slice (some ad) ns.length c) ns.length (ns.map (Value.int .u8)) (Src.ofSlice w ht ad ns.length c _ (by simp) hcell hone) (qD8 hb) (by omega) hbase
 have he:(ns.map fun x=>x.toNat.toUInt8).map (fun b=>Value.int .u8 b.toNat)=ns.map (Value.int .u8):=by
  rw[List.map_map]
  apply List.map_congr_left
  intro x hx
  have:=hn x hx
  have h2:(x.toNat.toUInt8).toNat=x.toNat:=by simp[Nat.toUInt8];omega
  simp only[Function.comp,h2];rw[show((x.toNat:Nat):Int)=x by omega]
 unfold Oper.wp execOp;simp only[ho,resolve,invoke,builtin,Sem.run_bind,Sem.run_pure,Result.andThen_ok,List.map_toArray,List.map_cons,List.map_nil,hs,hx,hr];refine h v' w' ?_ h3;unfold OwnB;rw[List.length_append,List.map_append,he,List.length_map];exact h2
theorem qHk {P:Program} {w:World} {base:Nat} {src dst e:TypeId} (hs:P.underlying src=some (.slice e)) (he:P.underlying e=some (.int .u8)) (hd:P.underlying dst=some .string) {v:Value} {l:List UInt8} (hown:OwnB w base e v l) :
    (convert src dst v).run P w=.ok (.string ⟨l.toArray⟩) w:=by
 have hown':w.ownsRow base e 1 v l.length (l.map fun b=>Value.int .u8 b.toNat):=hown
 rcases hown'.2 with⟨rfl,h0⟩|⟨g,cap,cur,rfl,hb,hg,hc⟩
 · have:l=[]:=List.eq_nil_of_length_eq_zero h0;subst this;exact run_convert_bytes_nil w src e hs he 0 0 dst hd
 · have hcell:=hown'.cells (g:=g) rfl
   have:=run_convert_bytes_arg (P:=P) w src e hs he g 0 l.length cap (l.map fun b=>(b.toNat:Int)) (by simp) (fun i hi=>by
    have h1:=hcell i (.int .u8 (l[i]).toNat) (by simp[hi])
    have hadd:(⟨g,0,none⟩:Addr).add i=⟨g,0+i,none⟩:=by unfold Addr.add;split <;> simp_all
    rw[hadd] at h1;rw[h1]
    simp[List.getD_eq_getElem?_getD,hi]) dst hd
   rw[this]
   congr 2
   have:(strOfNums (l.map fun b=>(b.toNat:Int))).data.toList=l:=by
    rw[strOfNums_data,List.map_map]
    have:((fun n:Int=>UInt8.ofNat n.toNat)∘fun b:UInt8=>((b.toNat:Nat):Int))=id:=by funext b;simp
    rw[this,List.map_id]
   cases hX:strOfNums (l.map fun b=>(b.toNat:Int)) with
   |mk d=>rw[hX] at this;simp only at this;subst this;simp
end Go.Ms
set_option linter.unusedSimpArgs false
namespace Go.Ms
open Go.RowKit Go.Lib
section
variable {P:Program} {f:FuncId} {fn:Func}
theorem qIc (hf:P.funcs[f]?=some fn) (hname:(fn.name== "runtime.NumGoroutine")=false) (hb:fn.body.isNone=true) (hn:Extern.findNext fn=none)
    (he:Extern.find fn=some (Extern.Atomic.loadT .ptr)) {a:Addr} {x:Option Addr} {w:World} (hc:w.cell? a=some (.pointer x)) :
    (callFunc f #[.pointer (some a)]).run P w=.ok (.value (.pointer x)) w:=by
 rw[run_callFunc_extern hf hname hb hn he]
 change (Sem.run P (do Extern.Atomic.read .ptr (←asAddr (.pointer (some a)))) w).andThen _=_
 simp[Extern.Atomic.read,asAddr,hc,Result.andThen]
theorem qHy (hf:P.funcs[f]?=some fn) (hname:(fn.name== "runtime.NumGoroutine")=false) (hb:fn.body.isNone=true) (hn:Extern.findNext fn=none)
    (he:Extern.find fn=some Extern.Atomic.storeT) {a:Addr} {y:Option Addr} {u:Value} {w:World} (hc:w.cell? a=some u) (hz:w.frozen? a=false) :
    (callFunc f #[.pointer (some a),.pointer y]).run P w=.ok (.value (.tuple #[])) (w.setCell a (.pointer y)):=by
 rw[run_callFunc_extern hf hname hb hn he]
 change (Sem.run P (do
   store (←asAddr (.pointer (some a))) (.pointer y) .atomic
   pure Extern.Atomic.none_) w).andThen _=_
 simp[asAddr,hc,hz,run_store P w a (.pointer y) .atomic rfl,Result.andThen,Extern.Atomic.none_]
theorem qJo (hf:P.funcs[f]?=some fn) (hname:(fn.name== "runtime.NumGoroutine")=false) (hb:fn.body.isNone=true) (hn:Extern.findNext fn=none)
    (he:Extern.find fn=some (Extern.Atomic.casT .ptr)) {a x:Addr} {y:Option Addr} {w:World} (hc:w.cell? a=some (.pointer (some x))) (hz:w.frozen? a=false) :
    (callFunc f #[.pointer (some a),.pointer (some x),.pointer y]).run P w=.ok (.value (.bool true)) (w.setCell a (.pointer y)):=by
 rw[run_callFunc_extern hf hname hb hn he]
 change (Sem.run P (do
   let a' ←asAddr (.pointer (some a))
   if ←Extern.Atomic.touchesFrozen a' then unsupported (.unsafePointer "a write to bytes that a string shares")
   let eq ←match Extern.Atomic.T.ptr,←Extern.Atomic.read .ptr a',Value.pointer (some x) with
    |_,.int _ x,.int _ y=>pure (x==y)
    | .ptr,.pointer x,.pointer y=>samePointer x y
    | .int _,.pointer (some _),.int _ 0| .int _,.int _ 0,.pointer (some _)=>pure false
    | .int _,.pointer (some _),_| .int _,_,.pointer (some _)=>unsupported .addressObserved
    |_,_,_=>stuck "atomic.CompareAndSwap: old is no T"
   if eq then store a' (.pointer y) .atomic
   pure (Value.bool eq)) w).andThen _=_
 simp[Extern.Atomic.touchesFrozen,Extern.Atomic.read,asAddr,viewAt,World.shape?_isSome_of_cell? hc,hc,hz,samePointer,sameAddr,run_store P w a (.pointer y) .atomic rfl,Result.andThen]
theorem qDs {src dst u e:TypeId} (hs:P.underlying src=some .unsafePointer) (hd:P.underlying dst=some (.pointer u)) {b:Nat} {cs:Array Value} {w:World}
    (hb':w.heap[b]?=some (.cells cs e (0,0))) (h0:0<cs.size) (hsz:(P.info? u).isSome=true) (hl:liesAt P P.depth e (cs.size/P.cellsOf e) 0 u 1=true) :
    (convert src dst (.pointer (some ⟨b,0,none⟩))).run P w=.ok (.pointer (some ⟨b,0,none⟩)) w:=by
 obtain⟨i,hi⟩:=Option.isSome_iff_exists.1 hsz
 have hc:w.cell? ⟨b,0,none⟩=some cs[0]:=by rw[Lib.cell_of_heap hb'];exact Array.getElem?_eq_getElem h0
 have hsh:w.shape? b=some (e,cs.size):=by
  unfold World.shape?
  simp[hb']
 simp[convert,Conv.unsafePointer,Conv.seenAt,viewAt,cellsIn,sizeOf,typeInfo,run_underlying hs,run_underlying hd,hi,variablesAt,hsh,hl,Result.andThen]
end
end Go.Ms
set_option linter.unusedSimpArgs false
namespace Go.Ms
open Go.RowKit
variable {F:Fence} {n:Nat} {P:Program}
def qIb {β:Type} (base:Nat) (J:β→World→Prop):Prop:=
  ∀s A B row,J s A→A.grownBy B row→(∀r,row=some r→base≤r∧∃o:Obj,A.heap[r]?=some o∧o.isCells=false)→J s B
def qLr {α:Type} (F:Fence) (n:Nat) (P:Program) (g:Nat) (Bs:Nat) (encs:α→Array Value) (xs:List α) (R:World→Prop):Prop:=
  ∀ (l:Nat) (J Jx:List α→World→Prop) (W:World),(∀s A,J s A→R A)→
    (∀s A B,J s A→A.grownBy B none→J s B)→(∀s A B,Jx s A→A.grownBy B none→Jx s B)→
    (∀pre x W1,J pre W1→(pre++[x]) <+: xs→YieldAt F (n-1) P l (encs x) W1 fun e W'=>
     (e=.returned (.bool true)∧J (pre++[x]) W')∨(e=.returned (.bool false)∧Jx (pre++[x]) W'))→
    J [] W→
    CallsIn F n P g #[.func (.yield l) #[] #[],.pointer (some ⟨Bs,0,none⟩)] W fun e W'=>(∃v,e=.returned v)∧(J xs W'∨∃pre,Jx pre W')
def qMj {α:Type} (base:Nat) (I:List α→World→Prop) (Ix:Code→List α→World→Prop) (xs:List α) (W:World):Exit→Act→World→Prop
  | .normal,_,W'=>KeepsFrom base W W'∧I xs W'
  | .ret,_,W'=>KeepsFrom base W W'∧Ix .ret xs W'
  | .exit id,_,W'=>KeepsFrom base W W'∧Ix (.exit id) xs W'
  | .goto t,_,W'=>KeepsFrom base W W'∧Ix (.goto t) xs W'
  | .panic _,_,_=>False
  | .outgrown,_,_=>False
theorem qIb.turn {β:Type} {base:Nat} {J:β→World→Prop} (h:qIb base J) {s:β} {W:World} {l:Nat} {o:Obj} (o':Obj) (hj:J s W) (hl:base≤l) (ho:W.heap[l]?=some o) (hc:o.isCells=false):J s (W.putObj l o'):=
  h s _ _ (some l) hj (grownBy_putObj' W l o') (fun r e=>by cases e;exact⟨hl,o,ho,hc⟩)
theorem qIb.new {β:Type} {base:Nat} {J:β→World→Prop} (h:qIb base J) {s:β} {W:World} (o:Obj) (hj:J s W):J s (W.alloc o):=
  h s _ _ none hj (World.grownBy_alloc W o none) (fun r e=>by cases e)
end Go.Ms
set_option linter.unusedSimpArgs false
namespace Go.Ms
open Go.RowKit
variable {F:Fence} {n:Nat} {P:Program}
theorem qEp {α:Type} {g:Operand} {ps:Array Tmp} {assign body:Code} {Q:Exit→Act→World→Prop} {a:Act} {w:World}
    (hro:F.round=none) (h1:1≤n) {gf:Nat} {Bs:Nat} {R:World→Prop} (hg:a.eval g=.func (.func gf) #[] #[.pointer (some ⟨Bs,0,none⟩)]) (hFg:F.fn gf) (eg:∀args w,(callFunc gf args).run P w=.ok (.enter gf args) w)
    {encs:α→Array Value} {xs:List α} (hseq:qLr F (n-1) P gf Bs encs xs R) (hps:∀x,(encs x).size=ps.size)
    (I:List α→World→Prop) (I1:α→List α→World→Prop) (Ix:Code→List α→World→Prop) (hR:∀s A,I s A→R A) (hI:qIb w.heap.size I) (hIa:∀x,qIb w.heap.size (I1 x)) (hIx:∀c,qIb w.heap.size (Ix c)) (h0:I [] w) (a₁:α→Act)
    (hassign:∀(l:Nat) (pre:List α) (x:α) (W:World) (K:Act→World→Prop),(pre++[x]) <+: xs→I pre W→(∀W',KeepsFrom w.heap.size W W'→I1 x pre W'→K (a₁ x) W')→
      assign.wpIn (F.inRound l) (n-1-1) P (Exit.then K (fun _ _ _=>False)) { tmps:=(ps.zip (encs x)).foldl (fun t (p,v)=>t.setIfInBounds p v) a.tmps,defers:=[] } W)
    (hbody:∀(l:Nat) (pre:List α) (x:α) (W:World),(pre++[x]) <+: xs→I1 x pre W→body.wpIn (F.inRound l) (n-1-1) P (qMj w.heap.size I Ix (pre++[x]) W) (a₁ x) W)
    (hdone:∀(D:Nat) (W:World),w.heap.size≤D→I xs W→W.heap[D]?=some (.deferred (some []))→Q .normal { a with defers:={ target:=.collected D,args:=#[] }::a.defers } W)
    (hstop:∀(D:Nat) (c:Code) (pre:List α) (W:World),w.heap.size≤D→Ix c pre W→W.heap[D]?=some (.deferred (some []))→c.wpIn F n P Q { a with defers:={ target:=.collected D,args:=#[] }::a.defers } W) :
    (Code.rangeFunc g ps assign body).wpIn F n P Q a w:=by
 refine wpIn_rangeFunc fun fn hfn=>?_
 rw[hro]
 obtain⟨rec,hrec⟩:∃rec:LoopState→Option Code→Loop,rec=fun st pe=>{ state:=st,pending:=pe,fn,tmps:=a.tmps,params:=ps,assign,body,defers:=w.heap.size }:=⟨_,rfl⟩
 obtain⟨W1,hW1⟩:∃W1,(w.alloc (.deferred (some []))).alloc (.loop (rec .ready none))=W1:=⟨_,rfl⟩
 have hL1:W1.heap[w.heap.size+1]?=some (.loop (rec .ready none)):=by
  rw[←hW1];have:=World.alloc_heap_new (w.alloc (.deferred (some []))) (.loop (rec .ready none));rwa [World.size_alloc] at this
 have hK1:W1.heap[w.heap.size]?=some (.deferred (some [])):=by
  rw[←hW1];exact(Below.heap_alloc _ _ _ (by simp)).trans (World.alloc_heap_new w _)
 have hI1:I [] W1:=by rw[←hW1];exact hI.new _ (hI.new _ h0)
 refine⟨w.heap.size+1,[{ target:=.collected w.heap.size,args:=#[] }],W1,{ target:=.fn (.func gf) #[.pointer (some ⟨Bs,0,none⟩)],args:=#[.func (.yield (w.heap.size+1)) #[] #[]] },W1,gf,
   #[.func (.yield (w.heap.size+1)) #[] #[],.pointer (some ⟨Bs,0,none⟩)],W1,?_,?_,?_,?_,fun _=>h1,?_⟩
 · rw[←hW1,hrec];exact run_enterLoop_outer _ _ _ _ _
 · simp only[resolve,hg]
   simp[go_sem]
 · intro f' hf';simp[Target.leads] at hf';subst hf';exact hFg
 · simp[invoke,go_sem,eg]
 · have hkeep:∀{A B:World} {k:Nat} {o:Obj},A.grownBy B none→A.heap[k]?=some o→B.heap[k]?=some o:=
     fun hg' ho=>(hg'.block _ (Array.getElem?_eq_some_iff.1 ho).1 (by simp)).trans ho
   refine(hseq (w.heap.size+1)
     (fun pre W=>I pre W∧W.heap[w.heap.size+1]?=some (.loop (rec .ready none))∧W.heap[w.heap.size]?=some (.deferred (some [])))
     (fun pre W=> ∃c,Ix c pre W∧W.heap[w.heap.size+1]?=some (.loop (rec .done (some c)))∧W.heap[w.heap.size]?=some (.deferred (some [])))
     W1 (fun s A hs=>hR s A hs.1)
     (fun s A B hs hg'=>⟨hI s A B none hs.1 hg' (fun r e=>by cases e),hkeep hg' hs.2.1,hkeep hg' hs.2.2⟩)
     (fun s A B hs hg'=>by
      obtain⟨c,hc,hl,hk⟩:=hs
      exact⟨c,hIx c s A B none hc hg' (fun r e=>by cases e),hkeep hg' hl,hkeep hg' hk⟩)
     ?_ ⟨hI1,hL1,hK1⟩).mono ?_
   · rintro pre x W ⟨hi,hl,hk⟩ hx;have hlt:w.heap.size+1<W.heap.size:=(Array.getElem?_eq_some_iff.1 hl).1;have hy:=run_yield (P:=P) (args:=encs x) hl (by rw[hrec];exact hps x);rw[hrec] at hy;refine⟨fn,_,assign,body,hy,roundIn_of_wpIn hfn (hassign _ pre x W _ hx hi fun V hkV hi1=>?_)⟩;have hlV:=hkV.same _ _ (by omega) hl rfl;have hkV2:=hkV.same _ _ (Nat.le_refl _) hk rfl;have hltV:w.heap.size+1<V.heap.size:=(Array.getElem?_eq_some_iff.1 hlV).1;refine⟨_,run_beginRound hlV (by rw[hrec]),?_⟩
     have hl2:(V.putObj (w.heap.size+1) (.loop { rec .ready none with state:=.busy })).heap[w.heap.size+1]?=some (.loop { rec .ready none with state:=.busy }):=World.putObj_heap_same hltV;have hk2:(V.putObj (w.heap.size+1) (.loop { rec .ready none with state:=.busy })).heap[w.heap.size]?=some (.deferred (some [])):=(World.putObj_heap_other (by omega)).trans hkV2;refine wpIn_mono (hbody _ pre x _ hx ((hIa x).turn _ hi1 (by omega) hlV rfl)) ?_
     have fin:∀(jump:Option Code) (W3:World),KeepsFrom w.heap.size (V.putObj (w.heap.size+1) (.loop { rec .ready none with state:=.busy })) W3→
         (Instr.endRound (w.heap.size+1) jump).run P W3=.ok (.bool jump.isNone) (W3.putObj (w.heap.size+1) (.loop (rec (if jump.isNone then .ready else .done) jump)))∧
         W3.heap[w.heap.size+1]?=some (.loop { rec .ready none with state:=.busy })∧
         (W3.putObj (w.heap.size+1) (.loop (rec (if jump.isNone then .ready else .done) jump))).heap[w.heap.size+1]?=some (.loop (rec (if jump.isNone then .ready else .done) jump))∧
         (W3.putObj (w.heap.size+1) (.loop (rec (if jump.isNone then .ready else .done) jump))).heap[w.heap.size]?=some (.deferred (some [])):=fun jump W3 hk3=>by
       have hl3:=hk3.same _ _ (by omega) hl2 rfl;have:=run_endRound (P:=P) jump hl3;rw[hrec] at this ⊢;exact⟨this,by rw[hrec] at hl3;exact hl3,World.putObj_heap_same (Array.getElem?_eq_some_iff.1 hl3).1,(World.putObj_heap_other (by omega)).trans (hk3.same _ _ (Nat.le_refl _) hk2 rfl)⟩
     rintro e a3 W3 hp
     cases e with
     |normal=>
      obtain⟨hk3,hi3⟩:=hp;obtain⟨hr,hl3,hl4,hk4⟩:=fin none W3 hk3;exact⟨_,_,hr,.inl ⟨rfl,hI.turn _ hi3 (by omega) hl3 rfl,hl4,hk4⟩⟩
     |ret=>
      obtain⟨hk3,hi3⟩:=hp;obtain⟨hr,hl3,hl4,hk4⟩:=fin (some .ret) W3 hk3;exact⟨_,_,hr,.inr ⟨rfl,.ret,(hIx _).turn _ hi3 (by omega) hl3 rfl,hl4,hk4⟩⟩
     |exit id=>
      obtain⟨hk3,hi3⟩:=hp;obtain⟨hr,hl3,hl4,hk4⟩:=fin (some (.exit id)) W3 hk3;exact⟨_,_,hr,.inr ⟨rfl,.exit id,(hIx _).turn _ hi3 (by omega) hl3 rfl,hl4,hk4⟩⟩
     |goto t=>
      obtain⟨hk3,hi3⟩:=hp;obtain⟨hr,hl3,hl4,hk4⟩:=fin (some (.goto t)) W3 hk3;exact⟨_,_,hr,.inr ⟨rfl,.goto t,(hIx _).turn _ hi3 (by omega) hl3 rfl,hl4,hk4⟩⟩
     |panic ch=>exact hp.elim
     |outgrown=>exact hp.elim
   · rintro e W2 ⟨⟨v,rfl⟩,(⟨hi,hl,hk⟩|⟨pre,c,hi,hl,hk⟩)⟩
     · exact⟨none,_,by have:=run_endLoop (P:=P) hl (by rw[hrec];simp);rw[hrec] at this;exact this,hdone _ _ (Nat.le_refl _) (hI.turn _ hi (by omega) hl rfl) ((World.putObj_heap_other (by omega)).trans hk)⟩
     · exact⟨some c,_,by have:=run_endLoop (P:=P) hl (by rw[hrec];simp);rw[hrec] at this;exact this,hstop _ c pre _ (Nat.le_refl _) ((hIx c).turn _ hi (by omega) hl rfl) ((World.putObj_heap_other (by omega)).trans hk)⟩
end Go.Ms
