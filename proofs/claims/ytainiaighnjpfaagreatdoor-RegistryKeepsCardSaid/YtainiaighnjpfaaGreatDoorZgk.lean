/- Registry's laws, plainly: a row that is moved. -/
import Derived.Test.YtainiaighnjpfaaGreatDoorZQc
import Derived.Test.YtainiaighnjpfaaGreatDoorZQae
set_option linter.unusedVariables false
set_option linter.unusedSimpArgs false
namespace Go.Ms
def qV0 (N:List Int) (i:Nat) (c:Co):Cl:=(c.2.2.1.2,if N=[]∨c.2.2.1.2=true then 0 else N.getD (i%N.length) 0,⟨#[]⟩)
def mvAt (N:List Int):Nat→List Co→List Cl
  |_,[]=>[]
  |i,c::r=>qV0 N i c::mvAt N (i+1) r
def qWp (N:List Int) (cs:List Co):List Cl:=mvAt N 0 cs
theorem qWq (N:List Int):∀(cs:List Co) (i:Nat),(mvAt N i cs).length=cs.length
  |[],_=>rfl
  |c::r,i=>by show(mvAt N (i+1) r).length+1=_;rw[qWq N r (i+1)];rfl
theorem qWj (N:List Int) (c:Co):∀(cs:List Co) (i:Nat),mvAt N i (cs++[c])=mvAt N i cs++[qV0 N (i+cs.length) c]
  |[],i=>rfl
  |d::r,i=>by
   show qV0 N i d::mvAt N (i+1) (r++[c])=_
   rw[qWj N c r (i+1),List.length_cons,show i+1+r.length=i+(r.length+1) by omega];rfl
theorem qW3 (N:List Int):∀(cs:List Co) (i q:Nat) (c:Cl),(mvAt N i cs)[q]?=some c→∃d,cs[q]?=some d∧c=qV0 N (i+q) d
  |[],i,q,c,h=>by simp[mvAt] at h
  |d::r,i,0,c,h=>⟨d,rfl,by simpa[mvAt] using h.symm⟩
  |d::r,i,q+1,c,h=>by
   obtain⟨e,h1,h2⟩:=qW3 N r (i+1) q c (by simpa[mvAt] using h);exact⟨e,by simpa using h1,by rw[h2,show i+1+q=i+(q+1) by omega]⟩
theorem qWm (N:List Int) (cs:List Co):(qWp N cs).length=cs.length:=qWq N cs 0
def I32 (n:Int):Prop:= -2147483648≤n∧n≤2147483647
theorem qXm {N:List Int} (h:∀x∈N,I32 x) (i:Nat) (b:Bool):I32 (if N=[]∨b=true then 0 else N.getD (i%N.length) 0):=by
 split
 · unfold I32;omega
 · rename_i hn
   have hne:N≠[]:=fun e=>hn (.inl e)
   have hm:=Nat.mod_lt i (List.length_pos_iff.2 hne);rw[List.getD_eq_getElem?_getD,List.getElem?_eq_getElem hm];exact h _ (List.getElem_mem hm)
theorem qWe {k n:Int} (hk:k=2∨k=3) (h:I32 n):qDw (k,false) (false,n,⟨#[]⟩)=0:=by
 unfold I32 at h
 rcases hk with rfl|rfl
 · unfold qDw qAt kMay kOk;simp[kIs];omega
 · unfold qDw qAt kMay kOk;simp[kIs];omega
theorem qW6 {N:List Int} (h:∀x∈N,I32 x) (x:Int×Int×Int):qDb (qGh (qBx x).1) (qWp N (qBx x).1)=0:=by
 unfold qDb;rw[if_pos (by rw[qWm];simp[qGh])]
 refine qWf fun q t c ht hc=>?_
 obtain⟨d,hd,rfl⟩:=qW3 N _ 0 q c hc;unfold qGh at ht;rw[List.getElem?_map,hd] at ht
 obtain rfl:d.2.2.1=t:=by simpa using ht
 have hn:=qXm h (0+q)
 rcases qN5 d (List.mem_of_getElem? hd) with e|⟨j,hj,e⟩|e
 · rw[e];exact qWe (by show 2+_%2=2∨2+_%2=(3:Int);omega) (hn false)
 · rw[e];exact qWe (by show 2+_%2=2∨2+_%2=(3:Int);omega) (hn false)
 · rw[e]
   have h0:qV0 N (0+q) qEu=(true,0,⟨#[]⟩):=by unfold qV0;rw[if_pos (.inr rfl)];rfl
   rw[h0]
   decide
structure MvOk (G:Rg) (k:Nat):Prop where
  ok:RgOk G
  all:∀s∈rgAt G [120],∃x,s=qBx x
  nz:0<k→rgAt G [120]≠[]
  z:k=0→G=[]
theorem MvOk.nil:MvOk [] 0:=⟨qGz,fun s h=>by simp[rgAt,qAq] at h,fun h=>absurd h (by omega),fun _=>rfl⟩
theorem MvOk.add {G:Rg} {k:Nat} (h:MvOk G k) (x:Int×Int×Int):MvOk (qBf G [120] (qBx x)).1 (k+1):=by
 have hok:=h.ok.add [120] (qBx x);obtain⟨a1,a2,a3,a4⟩:=qEl (G:=G) (x:=[120]) (s:=qBx x) (by decide) (qV2 x) (qWk x)
 have stay:rgAt G [120]≠[]→∀n e,qBf G [120] (qBx x)=(G,n,e)→MvOk (qBf G [120] (qBx x)).1 (k+1):=fun hne n e he=>by
  rw[he];exact⟨h.ok,h.all,fun _=>hne,fun e=>by omega⟩
 by_cases c1:(rgAt G [120]).getLast?=some (qBx x)
 · exact stay (fun e=>by rw[e] at c1;cases c1) _ _ (a1 c1)
 by_cases c2:(rgAt G [120]).length=64∨(qAq G [120]=none∧G.length=16)
 · refine stay (fun e=>?_) _ _ (a2 c1 c2)
   by_cases hk:k=0
   · rw[h.z hk] at c2
     rcases c2 with c|⟨_,c⟩
     · simp[rgAt,qAq] at c
     · simp at c
   · exact h.nz (by omega) e
 by_cases c3:qAu (rgAt G [120]++[qBx x])=0
 · rw[a4 c1 c2 c3] at hok ⊢
   have hat:rgAt (qCh G [120] (rgAt G [120]++[qBx x])) [120]=rgAt G [120]++[qBx x]:=by
    show(qAq (qCh G [120] (rgAt G [120]++[qBx x])) [120]).getD []=_
    rw[qCl,if_pos rfl];rfl
   refine⟨hok,fun s hs=>?_,fun _=>?_,fun e=>by omega⟩
   · rw[hat] at hs
     rcases List.mem_append.1 hs with hs|hs
     · exact h.all s hs
     · exact⟨x,List.mem_singleton.1 hs⟩
   · rw[hat];simp
 · refine stay (fun e=>c3 ?_) _ _ (a3 c1 c2 c3);rw[e];exact qWl (qV2 x)
theorem MvOk.chain {G:Rg} {k:Nat} (h:MvOk G k) (hn:rgAt G [120]≠[]):qAu (rgAt G [120])=0:=h.ok.ch _ (qGy hn)
theorem MvOk.look {G:Rg} (hn:rgAt G [120]≠[]):(qAq G [120]).isSome=true:=by
 unfold rgAt at hn
 cases hl:qAq G [120] with
 |some l=>rfl
 |none=>rw[hl] at hn;exact absurd rfl hn
theorem qWu {L:List Sc} (hc:qAu L=0) {N:List Int} (h:∀x∈N,I32 x) (hall:∀s∈L,∃x,s=qBx x) {f:Nat} {t:Int} (hf:1≤f) (hl:f≤L.length) (ht:f≤t) :
    (qCf L f t (qWp N (L.getD (f-1) zSc).1)).2=if t≤L.length then 0 else 131:=by
 have hlt:f-1<L.length:=by omega
 have hg:L.getD (f-1) zSc=L[f-1]:=by rw[List.getD_eq_getElem?_getD,List.getElem?_eq_getElem hlt];rfl
 obtain⟨x,hx⟩:=hall L[f-1] (List.getElem_mem hlt)
 have hr:qDb (qGh (L.getD (f-1) zSc).1) (qWp N (L.getD (f-1) zSc).1)=0:=by rw[hg,hx];exact qW6 h x
 unfold qCf;rw[if_pos hc,show((f:Int).toNat)=f from Int.toNat_natCast f]
 by_cases hb:t≤(L.length:Int)
 · rw[if_neg (by omega),if_pos hr,if_pos hb]
 · rw[if_pos (by omega),if_neg hb]
theorem qW2 {L:List Sc} (hc:qAu L=0) {f t:Int} (r:List Cl) (hf:1≤f) (h1:f≤t) (ht:(L.length:Int)<t):qCf L f t r=([],131):=by
 unfold qCf;rw[if_pos hc,if_pos (by omega)]
end Go.Ms
