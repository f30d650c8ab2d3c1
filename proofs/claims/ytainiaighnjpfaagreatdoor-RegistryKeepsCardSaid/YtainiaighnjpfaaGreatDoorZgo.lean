/- Registry's laws, plainly: versions that are kept. -/
import Derived.Test.YtainiaighnjpfaaGreatDoorZgm
set_option linter.unusedVariables false
set_option linter.unusedSimpArgs false
namespace Go.Ms
theorem qW5 {G:Rg} {x:Bs} {s:Sc} {G':Rg} {n e:Int} (h:qBf G x s=(G',n,e)) :
    (n=((rgAt G x).length:Int)+1∧e=0∧∀z,rgAt G' z=if z=x then rgAt G x++[s] else rgAt G z)∨(n≠((rgAt G x).length:Int)+1∧∀z,rgAt G' z=rgAt G z):=by
 have ha:=qW7 h
 by_cases hn:n=((rgAt G x).length:Int)+1
 · refine .inl ⟨hn,?_,fun z=>?_⟩
   · unfold qBf at h
     split at h
     · cases h;omega
     · split at h
       · cases h;omega
       · split at h
         · cases h;rfl
         · split at h
           · cases h;omega
           · split at h
             · cases h;rfl
             · cases h;omega
   · rw[ha z]
     by_cases hz:z=x
     · rw[if_pos ⟨hz,hn⟩,if_pos hz]
     · rw[if_neg (fun k=>hz k.1),if_neg hz]
 · exact .inr ⟨hn,fun z=>by rw[ha z,if_neg (fun k=>hn k.2)]⟩
end Go.Ms
