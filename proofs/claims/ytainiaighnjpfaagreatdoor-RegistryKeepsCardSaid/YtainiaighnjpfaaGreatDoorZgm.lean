/- Registry's laws, plainly: the versions of one subject. -/
import Derived.Test.YtainiaighnjpfaaGreatDoorZgk
import Derived.Test.YtainiaighnjpfaaGreatDoorZQad
set_option linter.unusedVariables false
set_option linter.unusedSimpArgs false
namespace Go.Ms
structure ChOk (G:Rg) (k:Nat):Prop where
  mv:MvOk G k
  few:(rgAt G [120]).length≤k
theorem ChOk.nil:ChOk [] 0:=⟨MvOk.nil,Nat.le_refl _⟩
theorem qWh {G:Rg} {x:Bs} {v:Int} (h:rgAt G x≠[]) (h1:1≤v) (h2:v≤(rgAt G x).length):qHj G x v=((rgAt G x).getD (v-1).toNat zSc,0):=by
 unfold rgAt at h h2 ⊢;unfold qHj
 cases hl:qAq G x with
 |none=>rw[hl] at h;exact absurd rfl h
 |some l=>
  rw[hl] at h2;simp only[Option.getD_some] at h2 ⊢;rw[if_neg (by omega)]
inductive qXg (L:List Sc) (s:Sc) (v e:Int) (L':List Sc):Prop where
  |again (h:L.getLast?=some s) (hv:v=L.length) (he:e=0) (hl:L'=L)
  |more (h:L.getLast?≠some s) (hc:qAu (L++[s])=0) (hv:v=(L.length:Int)+1) (he:e=0) (hl:L'=L++[s])
  |not (h:L.getLast?≠some s) (hc:qAu (L++[s])≠0) (hn:L≠[]) (hv:v=0) (he:e=120) (hl:L'=L)
structure qXi (G:Rg) (x:Int×Int×Int) (k:Nat) (G':Rg) (v e:Int):Prop where
  ok:ChOk G' (k+1)
  ne:rgAt G' [120]≠[]
  way:qXg (rgAt G [120]) (qBx x) v e (rgAt G' [120])
  got:e=0→1≤v∧v=(rgAt G' [120]).length∧qHj G' [120] v=(qBx x,0)
theorem ChOk.add {G:Rg} {k:Nat} (h:ChOk G k) (hk:k<20) (x:Int×Int×Int):∃G' v e,qBf G [120] (qBx x)=(G',v,e)∧qXi G x k G' v e:=by
 have hok:=h.mv.add x
 have hlim:¬((rgAt G [120]).length=64∨(qAq G [120]=none∧G.length=16)):=fun c=>by
  have hf:=h.few
  rcases c with c|⟨c1,c2⟩
  · omega
  · by_cases e:rgAt G [120]=[]
    · by_cases hk0:k=0
      · rw[h.mv.z hk0] at c2;cases c2
      · exact h.mv.nz (by omega) e
    · unfold rgAt at e;rw[c1] at e;exact e rfl
 obtain⟨a1,a2,a3,a4⟩:=qEl (G:=G) (x:=[120]) (s:=qBx x) (by decide) (qV2 x) (qWk x)
 by_cases c1:(rgAt G [120]).getLast?=some (qBx x)
 · rw[a1 c1] at hok
   have hne:rgAt G [120]≠[]:=fun e=>by rw[e] at c1;cases c1
   have hpos:=List.length_pos_iff.2 hne;refine⟨_,_,_,a1 c1,⟨hok,Nat.le_succ_of_le h.few⟩,hne,.again c1 rfl rfl rfl,fun _=>⟨by omega,rfl,?_⟩⟩;rw[qWh hne (by omega) (Int.le_refl _),List.getLast?_eq_getElem?] at *; rw[show(((rgAt G [120]).length:Int)-1).toNat=(rgAt G [120]).length-1 by omega,List.getD_eq_getElem?_getD,c1];rfl
 · by_cases c3:qAu (rgAt G [120]++[qBx x])=0
   · rw[a4 c1 hlim c3] at hok
     have hat:rgAt (qCh G [120] (rgAt G [120]++[qBx x])) [120]=rgAt G [120]++[qBx x]:=by
      show(qAq (qCh G [120] (rgAt G [120]++[qBx x])) [120]).getD []=_
      rw[qCl,if_pos rfl];rfl
     have hne:rgAt (qCh G [120] (rgAt G [120]++[qBx x])) [120]≠[]:=by rw[hat];simp
     refine⟨_,_,_,a4 c1 hlim c3,⟨hok,by rw[hat,List.length_append,List.length_singleton];have:=h.few;omega⟩,hne,.more c1 c3 rfl rfl hat,fun _=>⟨by omega,by rw[hat,List.length_append,List.length_singleton];rfl,?_⟩⟩;rw[qWh hne (by omega) (by rw[hat,List.length_append,List.length_singleton];exact Int.le_refl _),hat,show(((rgAt G [120]).length:Int)+1-1).toNat=(rgAt G [120]).length by omega,List.getD_eq_getElem?_getD,List.getElem?_append_right (Nat.le_refl _),Nat.sub_self];rfl
   · rw[a3 c1 hlim c3] at hok
     have hne:rgAt G [120]≠[]:=fun e=>c3 (by rw[e];exact qWl (qV2 x))
     exact⟨_,_,_,a3 c1 hlim c3,⟨hok,Nat.le_succ_of_le h.few⟩,hne,.not c1 c3 hne rfl rfl rfl,fun e=>by cases e⟩
end Go.Ms
